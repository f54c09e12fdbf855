/- The examples; the law of gates. -/
import Derived.Test.YtfpcailbobjfnaaNi
import Derived.Test.YtfpcailbobjfnaaNj
set_option linter.unusedVariables false
set_option linter.unusedSimpArgs false
namespace Go.Proofs.Ytfpcailbobjfnaa
open Go Go.RowKit
set_option maxRecDepth 100000 in
theorem examples_c : PCalls Try.prog 8 [] (.d (oD true)) := pcalls_run (n := 100) mixed KT_ok (by kernel_rfl)
structure OddOk (z : Odd) : Prop where
  m : z.mems.length ≤ maxLen
  v : Bytes z.v
set_option maxRecDepth 100000 in
set_option linter.unusedVariables false in
set_option maxHeartbeats 4000000 in
theorem gates_law (x : RawN) (hx : RawOk x) (z : Odd) (hz : OddOk z) : PCalls Try.prog 4 [.agg (rawC x), .agg (oddC z)] (.d (oD true)) := by
  refine pcalls_of0 (fn := Try.f4) (by kernel_rfl) Try.func4 rfl (Nat.le_of_ble_eq_true rfl) fun c hc hp => ?_
  refine awp_less (τ' := frL [(0, .d (.agg (rawC x))), (1, .d (.agg (oddC z)))]) (less_cons (less_cons (less_nil _) (by first | rfl | (simp [Fr.put, frL, gcV, fzV, posN, iD, bD, uD, oD, intsD, boolsD, bytesD, intssD, bytessD, gates_len, wires_len, evalN_len, valuesN_len]; done) | simp [Fr.put, frL, gcV, fzV, posN, iD, bD, uD, oD, intsD, boolsD, bytesD, intssD, bytessD, gates_len, wires_len, evalN_len, valuesN_len, *])) (by first | rfl | (simp [Fr.put, frL, gcV, fzV, posN, iD, bD, uD, oD, intsD, boolsD, bytesD, intssD, bytessD, gates_len, wires_len, evalN_len, valuesN_len]; done) | simp [Fr.put, frL, gcV, fzV, posN, iD, bD, uD, oD, intsD, boolsD, bytesD, intssD, bytessD, gates_len, wires_len, evalN_len, valuesN_len, *])) ?_
  refine awp_seq_s KT_ok hc rfl fun K1 hK1 => ?_
  simp -dsimp -implicitDefEqProofs (disch := first | omega | (simp only [maxLen, List.length_replicate, eq_self, true_and, and_true, and_self, avs_len, List.length_map, List.length_append, List.length_cons, List.length_nil, List.length_set, List.length_range, List.length_take, List.length_drop, gates_len, wires_len, evalN_len, valuesN_len] <;> omega) | decide | fail) only [sT_assign, sT_box, deadH, sT_nil, oK_some, Option.map_some, layF, ↓reduceIte, eq_self, frL_get, frL_put, evalA_tmp, evalA_const, List.map_cons, List.map_nil, List.length_cons, List.length_nil, List.cons_append, List.nil_append, List.all_cons, List.all_nil, as_dagg, D.one, Value.oneCell', Bool.and_self, Nat.zero_add, Nat.reduceEqDiff, iD, intsD, boolsD, bytesD, intssD, List.nil_append, deadH, rawC, oddC, headsD, eD]
  refine hK1 _ _ ?_
  refine awp_seq_s KT_ok hc rfl fun K2 hK2 => ?_
  simp -dsimp -implicitDefEqProofs (disch := first | omega | (simp only [maxLen, List.length_replicate, eq_self, true_and, and_true, and_self, avs_len, List.length_map, List.length_append, List.length_cons, List.length_nil, List.length_set, List.length_range, List.length_take, List.length_drop, gates_len, wires_len, evalN_len, valuesN_len] <;> omega) | decide | fail) only [sT_call0, evalA_func, List.map_nil, List.length_cons, List.length_nil, Nat.zero_add, Nat.reduceAdd]
  refine kc_by (examples_c) rfl ?_
  simp -dsimp -implicitDefEqProofs (disch := first | omega | (simp only [maxLen, List.length_replicate, eq_self, true_and, and_true, and_self, avs_len, List.length_map, List.length_append, List.length_cons, List.length_nil, List.length_set, List.length_range, List.length_take, List.length_drop, gates_len, wires_len, evalN_len, valuesN_len] <;> omega) | decide | fail) only [sT_assign, sT_nil, ↓reduceIte, eq_self, frL_get, frL_put, evalA_tmp, oD]
  refine hK2 _ _ ?_
  refine awp_seq_k fun K3 hK3 => ?_
  refine awp_seq_s KT_ok hc rfl fun K4 hK4 => ?_
  simp -dsimp -implicitDefEqProofs (disch := first | omega | (simp only [maxLen, List.length_replicate, eq_self, true_and, and_true, and_self, avs_len, List.length_map, List.length_append, List.length_cons, List.length_nil, List.length_set, List.length_range, List.length_take, List.length_drop, gates_len, wires_len, evalN_len, valuesN_len] <;> omega) | decide | fail) only [sT_move, sT_un, sT_nil, oK_some, u_not, ↓reduceIte, eq_self, frL_get, frL_put, evalA_tmp, Bool.not_true]
  refine hK4 _ _ ?_
  refine awp_cond rfl (fun ht => ?_) (fun ht => ?_)
  · cases ht
  · refine awp_skip (hK3 _ _ ?_)
    refine awp_seq_k fun K5 hK5 => ?_
    refine awp_seq_s KT_ok hc rfl fun K6 hK6 => ?_
    simp -dsimp -implicitDefEqProofs (disch := first | omega | (simp only [maxLen, List.length_replicate, eq_self, true_and, and_true, and_self, avs_len, List.length_map, List.length_append, List.length_cons, List.length_nil, List.length_set, List.length_range, List.length_take, List.length_drop, gates_len, wires_len, evalN_len, valuesN_len] <;> omega) | decide | fail) only [sT_load, sT_call0, oK_some, Option.map_some, loadF, ↓reduceIte, eq_self, ifp, frL_get, frL_put, evalA_tmp, evalA_func, List.map_cons, List.map_nil, List.length_cons, List.length_nil, List.getElem?_cons_zero, List.getElem?_cons_succ, Nat.zero_add, Nat.reduceEqDiff, takeD_all, Nat.reduceAdd, sz_40, ag_40]
    refine kc_rel (little_c z hz.m) rfl fun r hr => ?_
    obtain ⟨b, rfl⟩ := hr
    simp -dsimp -implicitDefEqProofs (disch := first | omega | (simp only [maxLen, List.length_replicate, eq_self, true_and, and_true, and_self, avs_len, List.length_map, List.length_append, List.length_cons, List.length_nil, List.length_set, List.length_range, List.length_take, List.length_drop, gates_len, wires_len, evalN_len, valuesN_len] <;> omega) | decide | fail) only [sT_un, sT_nil, oK_some, u_not, ↓reduceIte, eq_self, frL_get, frL_put, evalA_tmp, oD]
    refine hK6 _ _ ?_
    refine awp_cond rfl (fun ht => ?_) (fun ht => ?_)
    · refine awp_seq_s KT_ok hc rfl fun K7 hK7 => ?_
      simp -dsimp -implicitDefEqProofs (disch := first | omega | (simp only [maxLen, List.length_replicate, eq_self, true_and, and_true, and_self, avs_len, List.length_map, List.length_append, List.length_cons, List.length_nil, List.length_set, List.length_range, List.length_take, List.length_drop, gates_len, wires_len, evalN_len, valuesN_len] <;> omega) | decide | fail) only [sT_move, sT_assign, sT_nil, ↓reduceIte, eq_self, frL_get, frL_put, evalA_tmp, Nat.reduceEqDiff]
      refine hK7 _ _ ?_
      refine awp_ret ?_
      show closeA _ _ = _
      simp (disch := first | omega | (simp only [maxLen, List.length_replicate, eq_self, true_and, and_true, and_self, avs_len, List.length_map, List.length_append, List.length_cons, List.length_nil, List.length_set, List.length_range, List.length_take, List.length_drop, gates_len, wires_len, evalN_len, valuesN_len] <;> omega) | decide | fail) only [closeA, retV, deep_d, Nat.reduceAdd, Nat.zero_add, D.fix, frL_get, ↓reduceIte, Option.map_some, List.length_cons, List.length_nil, oD]
    · refine awp_skip (hK5 _ _ ?_)
      refine awp_seq_s KT_ok hc rfl fun K8 hK8 => ?_
      simp -dsimp -implicitDefEqProofs (disch := first | omega | (simp only [maxLen, List.length_replicate, eq_self, true_and, and_true, and_self, avs_len, List.length_map, List.length_append, List.length_cons, List.length_nil, List.length_set, List.length_range, List.length_take, List.length_drop, gates_len, wires_len, evalN_len, valuesN_len] <;> omega) | decide | fail) only [sT_load, sT_call0, oK_some, Option.map_some, loadF, ↓reduceIte, eq_self, ifp, frL_get, frL_put, evalA_tmp, evalA_func, List.map_cons, List.map_nil, List.length_cons, List.length_nil, List.getElem?_cons_zero, Nat.zero_add, Nat.reduceEqDiff, takeD_all, Nat.reduceAdd, sz_28, ag_28]
      refine kc_rel (made_c x hx) rfl fun r hr => ?_
      obtain ⟨n, hn, rfl⟩ := hr
      obtain ⟨i1, i2, g1, g2, d0, d1, d2, d3⟩ := hn
      simp -dsimp -implicitDefEqProofs (disch := first | omega | (simp only [maxLen, List.length_replicate, eq_self, true_and, and_true, and_self, avs_len, List.length_map, List.length_append, List.length_cons, List.length_nil, List.length_set, List.length_range, List.length_take, List.length_drop, gates_len, wires_len, evalN_len, valuesN_len] <;> omega) | decide | fail) only [sT_alloc, sT_store, deadH, sT_nil, oK_some, Option.map_some, layF, storeF, ↓reduceIte, eq_self, ifp, frL_get, frL_put, frL_none, evalA_tmp, List.map_cons, List.map_nil, List.length_cons, List.length_nil, List.getElem?_cons_zero, List.getElem?_cons_succ, List.cons_append, List.nil_append, List.set_cons_zero, List.set_cons_succ, List.all_cons, List.all_nil, as_dagg, many_nil, many_cons, D.one, Bool.and_self, true_and, Nat.zero_add, Nat.reduceEqDiff, map_d, avs_nil, avs_cons, intsD, Nat.reduceAdd, List.nil_append, deadH, netD, netC, wiresD, gatesD, sz_46, za_46]
      refine hK8 _ _ ?_
      refine awp_seq_s KT_ok hc rfl fun K9 hK9 => ?_
      simp -dsimp -implicitDefEqProofs (disch := first | omega | (simp only [maxLen, List.length_replicate, eq_self, true_and, and_true, and_self, avs_len, List.length_map, List.length_append, List.length_cons, List.length_nil, List.length_set, List.length_range, List.length_take, List.length_drop, gates_len, wires_len, evalN_len, valuesN_len] <;> omega) | decide | fail) only [sT_load, sT_fa, sT_len, sT_call0, oK_some, Option.map_some, loadF, fieldAddrF, lenF, builtinF, ↓reduceIte, Bool.false_eq_true, eq_self, ifp, frL_get, frL_put, evalA_tmp, evalA_func, List.map_cons, List.map_nil, List.length_cons, List.length_nil, List.getElem?_cons_zero, List.getElem?_cons_succ, Nat.zero_add, Nat.add_zero, Nat.reduceEqDiff, Nat.reduceAdd, fo_46_0, sz_43, ag_43, eo_43, fo_40_2, sz_22, ag_22]
      refine kc_by (values_c n.ins.length z.v (by omega) hz.v) rfl ?_
      simp -dsimp -implicitDefEqProofs (disch := first | omega | (simp only [maxLen, List.length_replicate, eq_self, true_and, and_true, and_self, avs_len, List.length_map, List.length_append, List.length_cons, List.length_nil, List.length_set, List.length_range, List.length_take, List.length_drop, gates_len, wires_len, evalN_len, valuesN_len] <;> omega) | decide | fail) only [sT_assign, sT_nil, ↓reduceIte, eq_self, frL_get, frL_put, evalA_tmp, boolsD]
      refine hK9 _ _ ?_
      have hvl : (valuesN n.ins.length z.v).length = n.ins.length := valuesN_len _ _
      generalize valuesN n.ins.length z.v = vi at *
      refine awp_seq_s KT_ok hc rfl fun K10 hK10 => ?_
      simp -dsimp -implicitDefEqProofs (disch := first | omega | (simp only [maxLen, List.length_replicate, eq_self, true_and, and_true, and_self, avs_len, List.length_map, List.length_append, List.length_cons, List.length_nil, List.length_set, List.length_range, List.length_take, List.length_drop, gates_len, wires_len, evalN_len, valuesN_len] <;> omega) | decide | fail) only [sT_move, sT_load, sT_fa, sT_call0, oK_some, Option.map_some, loadF, fieldAddrF, ↓reduceIte, Bool.false_eq_true, eq_self, ifp, frL_get, frL_put, evalA_tmp, evalA_func, List.map_cons, List.map_nil, List.length_cons, List.length_nil, List.getElem?_cons_zero, List.getElem?_cons_succ, Nat.zero_add, Nat.add_zero, Nat.reduceEqDiff, takeD_all, Nat.reduceAdd, sz_46, ag_46, fo_40_0, fo_32_1, sz_30, ag_30]
      refine kc_by (eval_c n vi z.mems (by rw [hvl]; exact g2) (by omega) (by omega)) rfl ?_
      simp -dsimp -implicitDefEqProofs (disch := first | omega | (simp only [maxLen, List.length_replicate, eq_self, true_and, and_true, and_self, avs_len, List.length_map, List.length_append, List.length_cons, List.length_nil, List.length_set, List.length_range, List.length_take, List.length_drop, gates_len, wires_len, evalN_len, valuesN_len] <;> omega) | decide | fail) only [sT_assign, sT_nil, ↓reduceIte, eq_self, frL_get, frL_put, evalA_tmp, boolsD]
      refine hK10 _ _ ?_
      refine awp_seq_k fun K11 hK11 => ?_
      have hel := evalN_len n.gates vi z.mems
      have p0 := evalN_0 n.gates vi z.mems
      have p1 := evalN_1 n.gates vi z.mems
      have p2 := evalN_in n.gates vi z.mems
      have q1 : (((evalN n.gates vi z.mems).length : Int) != 2 + (vi.length : Int) + (n.gates.length : Int)) = false := by rw [hel]; simp
      have p4 : (2 + (vi.length : Int) - 2).toNat = vi.length := by omega
      have p3 : List.take vi.length (List.drop 2 (List.map oD (evalN n.gates vi z.mems))) = List.map oD vi := by rw [← List.map_drop, ← List.map_take, p2]
      refine awp_seq_s KT_ok hc rfl fun K12 hK12 => ?_
      simp -dsimp -implicitDefEqProofs (disch := first | omega | (simp only [maxLen, List.length_replicate, eq_self, true_and, and_true, and_self, avs_len, List.length_map, List.length_append, List.length_cons, List.length_nil, List.length_set, List.length_range, List.length_take, List.length_drop, gates_len, wires_len, evalN_len, valuesN_len] <;> omega) | decide | fail) only [sT_move, sT_pick, sT_load, sT_fa, sT_ia, sT_slice, sT_bin, sT_un, sT_len, sT_call0, sT_g, oK_some, gK_t, Option.map_some, Option.bind_some, loadF, fieldAddrF, ixO, indexAddrF, sliceF, binF_v, lenF, builtinF, u_not, v_add, v_neq, sb_some, ↓reduceIte, Bool.false_eq_true, eq_self, ifp, guardA_some, guardV_f, frL_get, frL_put, evalA_tmp, evalA_const, evalA_func, List.map_cons, List.map_nil, List.length_cons, List.length_nil, List.getElem?_cons_zero, List.getElem?_cons_succ, Nat.mul_one, Nat.zero_add, Nat.reduceEqDiff, get_map, oD, Nat.reduceAdd, Int.toNat_zero, Int.reduceToNat, Bool.not_false, Bool.not_true, q1, p0, p1, p4, p3, eo_34, fo_46_1, sz_44, ag_44, eo_44, sz_4, ag_4]
      refine kc_by (bools_c vi vi (by unfold maxLen; omega)) rfl ?_
      simp -dsimp -implicitDefEqProofs (disch := first | omega | (simp only [maxLen, List.length_replicate, eq_self, true_and, and_true, and_self, avs_len, List.length_map, List.length_append, List.length_cons, List.length_nil, List.length_set, List.length_range, List.length_take, List.length_drop, gates_len, wires_len, evalN_len, valuesN_len] <;> omega) | decide | fail) only [sT_pick, sT_un, sT_nil, sT_g, oK_some, gK_t, Option.bind_some, u_not, ↓reduceIte, Bool.false_eq_true, eq_self, guardA_some, guardV_f, frL_get, frL_put, evalA_tmp, List.getElem?_cons_zero, List.getElem?_cons_succ, Nat.reduceEqDiff, oD, Bool.not_false, Bool.not_true, decide_true]
      refine hK12 _ _ ?_
      refine awp_cond rfl (fun ht => ?_) (fun ht => ?_)
      · cases ht
      · refine awp_skip (hK11 _ _ ?_)
        refine awp_seq_k fun K13 hK13 => ?_
        refine awp_seq_s KT_ok hc rfl fun K14 hK14 => ?_
        simp -dsimp -implicitDefEqProofs (disch := first | omega | (simp only [maxLen, List.length_replicate, eq_self, true_and, and_true, and_self, avs_len, List.length_map, List.length_append, List.length_cons, List.length_nil, List.length_set, List.length_range, List.length_take, List.length_drop, gates_len, wires_len, evalN_len, valuesN_len] <;> omega) | decide | fail) only [sT_assign, sT_nil, frL_put, evalA_const]
        refine hK14 _ _ ?_
        refine awp_block ?_
        refine awp_loop_rt hp (fun τ' H' mm => ∃ k, (k ≤ n.gates.length) ∧ mm = n.gates.length - k ∧ H' = [.cells (avs (oddC z)), .cells (avs (netC n))] ∧ τ' = frL [(3, .op 0 0), (5, .d (oD true)), (6, .op 1 0), (7, .d (boolsD vi)), (8, .d (boolsD (evalN n.gates vi z.mems))), (9, .d (iD k))]) (n.gates.length) ?_ ⟨0, Nat.zero_le _, rfl, rfl, rfl⟩ ?_
        · refine Rt.trans (Rt.gc (keep := [1,2]) (by decide) (by simp [])) ?_
          refine Rt.end (less_cons (less_cons (less_cons (less_cons (less_cons (less_cons (less_nil _) (by first | rfl | (simp [Fr.put, frL, gcV, fzV, posN, iD, bD, uD, oD, intsD, boolsD, bytesD, intssD, bytessD, gates_len, wires_len, evalN_len, valuesN_len]; done) | simp [Fr.put, frL, gcV, fzV, posN, iD, bD, uD, oD, intsD, boolsD, bytesD, intssD, bytessD, gates_len, wires_len, evalN_len, valuesN_len, *])) (by first | rfl | (simp [Fr.put, frL, gcV, fzV, posN, iD, bD, uD, oD, intsD, boolsD, bytesD, intssD, bytessD, gates_len, wires_len, evalN_len, valuesN_len]; done) | simp [Fr.put, frL, gcV, fzV, posN, iD, bD, uD, oD, intsD, boolsD, bytesD, intssD, bytessD, gates_len, wires_len, evalN_len, valuesN_len, *])) (by first | rfl | (simp [Fr.put, frL, gcV, fzV, posN, iD, bD, uD, oD, intsD, boolsD, bytesD, intssD, bytessD, gates_len, wires_len, evalN_len, valuesN_len]; done) | simp [Fr.put, frL, gcV, fzV, posN, iD, bD, uD, oD, intsD, boolsD, bytesD, intssD, bytessD, gates_len, wires_len, evalN_len, valuesN_len, *])) (by first | rfl | (simp [Fr.put, frL, gcV, fzV, posN, iD, bD, uD, oD, intsD, boolsD, bytesD, intssD, bytessD, gates_len, wires_len, evalN_len, valuesN_len]; done) | simp [Fr.put, frL, gcV, fzV, posN, iD, bD, uD, oD, intsD, boolsD, bytesD, intssD, bytessD, gates_len, wires_len, evalN_len, valuesN_len, *])) (by first | rfl | (simp [Fr.put, frL, gcV, fzV, posN, iD, bD, uD, oD, intsD, boolsD, bytesD, intssD, bytessD, gates_len, wires_len, evalN_len, valuesN_len]; done) | simp [Fr.put, frL, gcV, fzV, posN, iD, bD, uD, oD, intsD, boolsD, bytesD, intssD, bytessD, gates_len, wires_len, evalN_len, valuesN_len, *])) (by first | rfl | (simp [Fr.put, frL, gcV, fzV, posN, iD, bD, uD, oD, intsD, boolsD, bytesD, intssD, bytessD, gates_len, wires_len, evalN_len, valuesN_len]; done) | simp [Fr.put, frL, gcV, fzV, posN, iD, bD, uD, oD, intsD, boolsD, bytesD, intssD, bytessD, gates_len, wires_len, evalN_len, valuesN_len, *])) ?_
          first | rfl | (simp only [intsD, boolsD, bytesD, intssD, bytessD, gcH, gcO, gcVs_avs, gcVs, gcV, gcV_d, fzH, fzO, fzVs_avs, fzVs, fzV, posN, avs_nil, avs_cons, List.map_cons, List.map_nil, List.getD_cons_zero, List.getD_cons_succ, ↓reduceIte, Nat.reduceEqDiff, Option.map_some, List.set_cons_zero, List.set_cons_succ, takeD_avs, takeD_all, Nat.mul_one, List.length_map, List.cons_append, List.nil_append, rawC, oddC, headsD, eD, netD, netC, wiresD, gatesD]; first | done | rfl)
        rintro τ' H' mm ⟨k, hk, rfl, rfl, rfl⟩
        refine awp_seq_k fun K15 hK15 => ?_
        refine awp_seq_s KT_ok hc rfl fun K16 hK16 => ?_
        simp -dsimp -implicitDefEqProofs (disch := first | omega | (simp only [maxLen, List.length_replicate, eq_self, true_and, and_true, and_self, avs_len, List.length_map, List.length_append, List.length_cons, List.length_nil, List.length_set, List.length_range, List.length_take, List.length_drop, gates_len, wires_len, evalN_len, valuesN_len] <;> omega) | decide | fail) only [sT_move, sT_load, sT_fa, sT_bin, sT_len, sT_nil, oK_some, Option.map_some, loadF, fieldAddrF, binF_v, lenF, builtinF, v_lss, ↓reduceIte, Bool.false_eq_true, eq_self, ifp, frL_get, frL_put, evalA_tmp, List.map_cons, List.map_nil, List.length_cons, List.length_nil, List.getElem?_cons_zero, List.getElem?_cons_succ, Nat.zero_add, Nat.reduceEqDiff, avs_nil, avs_cons, iD, oD, intsD, boolsD, bytesD, intssD, Nat.reduceAdd, oddC, headsD, eD, netC, wiresD, gatesD, fo_46_1, sz_44, ag_44, eo_44]
        refine hK16 _ _ ?_
        refine awp_cond rfl (fun ht => ?_) (fun ht => ?_)
        · have hlt : k < n.gates.length := by simp at ht; omega
          have ok := g2 k hlt
          rw [← hvl] at ok
          have e1 : (2 + (vi.length : Int) + (k : Int)).toNat = 2 + vi.length + k := by omega
          have e2 := evalN_gate (mems := z.mems) (by rw [hvl]; exact g2) hlt (inp := vi)
          refine awp_skip (hK15 _ _ ?_)
          refine awp_seq_k fun K17 hK17 => ?_
          refine awp_block ?_
          refine awp_seq_se KT_ok hc mixed rfl (q := 0) (by kernel_rfl) (by kernel_rfl) fun K18 hK18 => ?_
          simp -dsimp -implicitDefEqProofs (disch := first | omega | (simp only [maxLen, List.length_replicate, eq_self, true_and, and_true, and_self, avs_len, List.length_map, List.length_append, List.length_cons, List.length_nil, List.length_set, List.length_range, List.length_take, List.length_drop, gates_len, wires_len, evalN_len, valuesN_len] <;> omega) | decide | fail) only [sE_move, sE_load, sE_fa, sE_ia, sE_bin, sE_len, sE_call0, oK_some, Option.map_some, loadF, fieldAddrF, ixO, indexAddrF, binF_v, lenF, builtinF, v_add, ↓reduceIte, Bool.false_eq_true, eq_self, ifp, frL_get, frL_put, evalA_tmp, evalA_const, evalA_func, List.map_cons, List.map_nil, List.length_cons, List.length_nil, List.getElem?_cons_zero, List.getElem?_cons_succ, List.append_nil, List.replicate_zero, Int.toNat_natCast, Nat.mul_one, Nat.zero_add, Nat.add_zero, Nat.reduceEqDiff, get_map, oD, Nat.reduceAdd, e1, e2, gate_row, eo_34, sz_4, ag_4, fo_46_1, sz_44, ag_44, eo_44, sz_72, ag_72, fo_40_0, fo_32_1, sz_30, ag_30]
          refine kc_by (operator_c (nth n.gates k) (evalN n.gates vi z.mems) z.mems _ ok (by omega)) rfl ?_
          simp -dsimp -implicitDefEqProofs (disch := first | omega | (simp only [maxLen, List.length_replicate, eq_self, true_and, and_true, and_self, avs_len, List.length_map, List.length_append, List.length_cons, List.length_nil, List.length_set, List.length_range, List.length_take, List.length_drop, gates_len, wires_len, evalN_len, valuesN_len] <;> omega) | decide | fail) only [sE_bin, sE_nil, oK_some, Option.map_some, binF_v, v_bneq, ↓reduceIte, eq_self, frL_get, frL_put, evalA_tmp, Nat.reduceEqDiff, killAll, oD, Nat.reduceAdd, bne_self_eq_false, bt_4]
          refine hK18 _ _ ?_
          refine awp_cond rfl (fun ht => ?_) (fun ht => ?_)
          · cases ht
          · refine awp_skip (hK17 _ _ ?_)
            refine awp_s KT_ok hc rfl fun K19 hK19 => ?_
            simp -dsimp -implicitDefEqProofs (disch := first | omega | (simp only [maxLen, List.length_replicate, eq_self, true_and, and_true, and_self, avs_len, List.length_map, List.length_append, List.length_cons, List.length_nil, List.length_set, List.length_range, List.length_take, List.length_drop, gates_len, wires_len, evalN_len, valuesN_len] <;> omega) | decide | fail) only [sT_move, sT_assign, sT_bin, sT_nil, oK_some, Option.map_some, binF_v, v_add, ↓reduceIte, eq_self, frL_get, frL_put, evalA_tmp, evalA_const, Nat.reduceEqDiff]
            refine hK19 _ _ ⟨_, _, _, ?_, ⟨k + 1, by omega, rfl, rfl, rfl⟩, ?_⟩
            · first | omega | (simp only [List.length_cons]; omega) | (dsimp only; omega)
            · refine Rt.end (less_cons (less_cons (less_cons (less_cons (less_cons (less_cons (less_nil _) (by first | rfl | (simp [Fr.put, frL, gcV, fzV, posN, iD, bD, uD, oD, intsD, boolsD, bytesD, intssD, bytessD, gates_len, wires_len, evalN_len, valuesN_len]; done) | simp [Fr.put, frL, gcV, fzV, posN, iD, bD, uD, oD, intsD, boolsD, bytesD, intssD, bytessD, gates_len, wires_len, evalN_len, valuesN_len, *])) (by first | rfl | (simp [Fr.put, frL, gcV, fzV, posN, iD, bD, uD, oD, intsD, boolsD, bytesD, intssD, bytessD, gates_len, wires_len, evalN_len, valuesN_len]; done) | simp [Fr.put, frL, gcV, fzV, posN, iD, bD, uD, oD, intsD, boolsD, bytesD, intssD, bytessD, gates_len, wires_len, evalN_len, valuesN_len, *])) (by first | rfl | (simp [Fr.put, frL, gcV, fzV, posN, iD, bD, uD, oD, intsD, boolsD, bytesD, intssD, bytessD, gates_len, wires_len, evalN_len, valuesN_len]; done) | simp [Fr.put, frL, gcV, fzV, posN, iD, bD, uD, oD, intsD, boolsD, bytesD, intssD, bytessD, gates_len, wires_len, evalN_len, valuesN_len, *])) (by first | rfl | (simp [Fr.put, frL, gcV, fzV, posN, iD, bD, uD, oD, intsD, boolsD, bytesD, intssD, bytessD, gates_len, wires_len, evalN_len, valuesN_len]; done) | simp [Fr.put, frL, gcV, fzV, posN, iD, bD, uD, oD, intsD, boolsD, bytesD, intssD, bytessD, gates_len, wires_len, evalN_len, valuesN_len, *])) (by first | rfl | (simp [Fr.put, frL, gcV, fzV, posN, iD, bD, uD, oD, intsD, boolsD, bytesD, intssD, bytessD, gates_len, wires_len, evalN_len, valuesN_len]; done) | simp [Fr.put, frL, gcV, fzV, posN, iD, bD, uD, oD, intsD, boolsD, bytesD, intssD, bytessD, gates_len, wires_len, evalN_len, valuesN_len, *])) (by first | rfl | (simp [Fr.put, frL, gcV, fzV, posN, iD, bD, uD, oD, intsD, boolsD, bytesD, intssD, bytessD, gates_len, wires_len, evalN_len, valuesN_len]; done) | simp [Fr.put, frL, gcV, fzV, posN, iD, bD, uD, oD, intsD, boolsD, bytesD, intssD, bytessD, gates_len, wires_len, evalN_len, valuesN_len, *])) ?_
              first | rfl | (simp only [intsD, boolsD, bytesD, intssD, bytessD, gcH, gcO, gcVs_avs, gcVs, gcV, gcV_d, fzH, fzO, fzVs_avs, fzVs, fzV, posN, avs_nil, avs_cons, List.map_cons, List.map_nil, List.getD_cons_zero, List.getD_cons_succ, ↓reduceIte, Nat.reduceEqDiff, Option.map_some, List.set_cons_zero, List.set_cons_succ, takeD_avs, takeD_all, Nat.mul_one, List.length_map, List.cons_append, List.nil_append, rawC, oddC, headsD, eD, netD, netC, wiresD, gatesD]; first | done | rfl)
        · refine awp_exit (hK13 _ _ ?_)
          refine awp_seq_s KT_ok hc rfl fun K20 hK20 => ?_
          simp -dsimp -implicitDefEqProofs (disch := first | omega | (simp only [maxLen, List.length_replicate, eq_self, true_and, and_true, and_self, avs_len, List.length_map, List.length_append, List.length_cons, List.length_nil, List.length_set, List.length_range, List.length_take, List.length_drop, gates_len, wires_len, evalN_len, valuesN_len] <;> omega) | decide | fail) only [sT_move, sT_assign, sT_nil, ↓reduceIte, eq_self, frL_get, frL_put, evalA_tmp, Nat.reduceEqDiff]
          refine hK20 _ _ ?_
          refine awp_ret ?_
          show closeA _ _ = _
          simp (disch := first | omega | (simp only [maxLen, List.length_replicate, eq_self, true_and, and_true, and_self, avs_len, List.length_map, List.length_append, List.length_cons, List.length_nil, List.length_set, List.length_range, List.length_take, List.length_drop, gates_len, wires_len, evalN_len, valuesN_len] <;> omega) | decide | fail) only [closeA, retV, deep_d, Nat.reduceAdd, Nat.zero_add, D.fix, frL_get, ↓reduceIte, Option.map_some, List.length_cons, List.length_nil, oD]
end Go.Proofs.Ytfpcailbobjfnaa
