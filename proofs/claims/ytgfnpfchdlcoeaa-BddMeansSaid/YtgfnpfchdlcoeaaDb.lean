/- netsim.Eval: the values of all nodes. -/
import Derived.Test.YtgfnpfchdlcoeaaQ
import Derived.Test.YtgfnpfchdlcoeaaDa
set_option linter.unusedVariables false
set_option linter.unusedSimpArgs false
namespace Go.Proofs.Ytgfnpfchdlcoeaa
open Go Go.RowKit
theorem opsC_len : opsC.length = 12 := rfl
/-- A gate whose operands lie below m. -/
structure GateOk (m : Nat) (g : Gate) : Prop where
  o1 : 1 ≤ g.op
  o2 : g.op ≤ 7
  a0 : 0 ≤ g.a
  a1 : g.a < m
  b0 : 0 ≤ g.b
  b1 : g.b < m
  c0 : 0 ≤ g.c
  c1 : g.c < m
  n0 : 0 ≤ g.n
  n1 : g.n < 1000000
def GatesOk (m : Nat) (l : List Gate) : Prop := ∀ k, k < l.length → GateOk (m + k) (nth l k)
/-- The value of a gate. -/
def opN (mems : List (List Int)) (v : List Bool) (g : Gate) : Bool :=
  if g.op = 7 then readN mems g.n (num3 (nth v g.a.toNat) (nth v g.b.toNat) (nth v g.c.toNat))
  else if g.op = 1 then !nth v g.a.toNat
  else if g.op = 2 then nth v g.a.toNat && nth v g.b.toNat
  else if g.op = 3 then nth v g.a.toNat || nth v g.b.toNat
  else if g.op = 4 then nth v g.a.toNat != nth v g.b.toNat
  else if g.op = 5 then if nth v g.a.toNat then nth v g.b.toNat else nth v g.c.toNat
  else nth v g.a.toNat && (nth v g.b.toNat || nth v g.c.toNat) || nth v g.b.toNat && nth v g.c.toNat
def evalS (mems : List (List Int)) (v : List Bool) (l : List Gate) : List Bool := l.foldl (fun v g => v ++ [opN mems v g]) v
def evalN (gates : List Gate) (inp : List Bool) (mems : List (List Int)) : List Bool := evalS mems (false :: true :: inp) gates
theorem evalS_len (mems : List (List Int)) : ∀ (l : List Gate) (v : List Bool), (evalS mems v l).length = v.length + l.length
  | [], v => rfl
  | g :: l, v => by
    show (evalS mems (v ++ [opN mems v g]) l).length = _
    rw [evalS_len mems l]; simp; omega
theorem evalS_step (mems : List (List Int)) (v : List Bool) {l : List Gate} {k : Nat} (h : k < l.length) : evalS mems v (l.take (k + 1)) = evalS mems v (l.take k) ++ [opN mems (evalS mems v (l.take k)) (nth l k)] := by
  rw [take_nth h]; simp [evalS]
set_option maxRecDepth 100000 in
set_option linter.unusedVariables false in
set_option maxHeartbeats 4000000 in
theorem eval_c (n : Net) (inp : List Bool) (mems : List (List Int)) (hg : GatesOk (2 + inp.length) n.gates) (h1 : inp.length ≤ 1000000) (h2 : n.gates.length ≤ 1000000) : PCalls Try.prog 34 [netD n, boolsD inp, intssD mems] (.d (boolsD (evalN n.gates inp mems))) := by
  refine pcalls_of0 (fn := Try.f34) (by kernel_rfl) Try.func34 rfl (Nat.le_of_ble_eq_true rfl) fun c hc hp => ?_
  refine awp_less (τ' := frL [(0, .d (netD n)), (1, .d (boolsD inp)), (2, .d (intssD mems))]) (less_cons (less_cons (less_cons (less_nil _) rfl) rfl) rfl) ?_
  refine awp_seq_s hp KT_ok hc rfl fun K1 hK1 => ?_
  simp -dsimp -implicitDefEqProofs (disch := first | assumption | omega | (simp [maxLen, avs_len, gates_len, wires_len, evalS_len, opsC_len] <;> omega) | decide) only [sT_assign, sT_box, deadH, sT_nil, oK_some, q_o, layF, ↓reduceIte, q_b, q_f, q_s, q_l, as_dagg, D.one, intsD, boolsD, intssD, deadH, netD, netC, wiresD, gatesD]
  refine hK1 _ _ ?_
  refine awp_seq_s hp KT_ok hc rfl fun K2 hK2 => ?_
  simp -dsimp -implicitDefEqProofs (disch := first | assumption | omega | (simp [maxLen, avs_len, gates_len, wires_len, evalS_len, opsC_len] <;> omega) | decide) only [sT_move, sT_assign, sT_bs, sT_app, deadH, sT_nil, oK_some, q_o, layF, srcF, ↓reduceIte, q_b, ifp, ifn, q_f, q_s, q_l, List.replicate_zero, List.replicate_succ, reps_def, q_a, fill_cons, q_n, Nat.reduceEqDiff, map_d, List.drop_zero, Nat.reduceAdd, deadH, List.length_map, mk_33]
  refine hK2 _ _ ?_
  refine awp_seq_s hp KT_ok hc rfl fun K3 hK3 => ?_
  simp -dsimp -implicitDefEqProofs (disch := first | assumption | omega | (simp [maxLen, avs_len, gates_len, wires_len, evalS_len, opsC_len] <;> omega) | decide) only [sT_call0, q_f, q_s, q_l, q_n, Nat.reduceAdd]
  refine kc_by (operators_c) rfl ?_
  simp -dsimp -implicitDefEqProofs (disch := first | assumption | omega | (simp [maxLen, avs_len, gates_len, wires_len, evalS_len, opsC_len] <;> omega) | decide) only [sT_alloc, sT_store, deadH, sT_nil, oK_some, q_o, layF, storeF, ↓reduceIte, q_b, ifp, q_f, q_s, q_l, as_dagg, q_a, D.one, Value.oneCell', q_n, Nat.reduceEqDiff, map_d, avs_nil, avs_cons, iD, Nat.reduceAdd, deadH, opsC, sz_110, za_110]
  refine hK3 _ _ ?_
  refine awp_seq_k fun K4 hK4 => ?_
  refine awp_seq_s hp KT_ok hc rfl fun K5 hK5 => ?_
  simp -dsimp -implicitDefEqProofs (disch := first | assumption | omega | (simp [maxLen, avs_len, gates_len, wires_len, evalS_len, opsC_len] <;> omega) | decide) only [sT_move, sT_load, sT_fa, sT_len, sT_nil, oK_some, q_o, loadF, fieldAddrF, lenF, builtinF, ↓reduceIte, q_b, ifp, q_f, q_s, q_l, q_n, Nat.reduceEqDiff, Nat.reduceAdd, fo_41_1, sz_39, ag_39, eo_39]
  refine hK5 _ _ ?_
  refine awp_block ?_
  refine awp_loop_rt hp (fun τ' H' mm => ∃ k, (k ≤ n.gates.length) ∧ mm = n.gates.length - k ∧ H' = [.cells (avs ((evalS mems (false :: true :: inp) (n.gates.take k)).map oD)), .cells (avs opsC)] ∧ τ' = frL [(2, .d (intssD mems)), (7, .os 1 0 0 (2 + inp.length + k)), (8, .op 1 0), (20, .d (gatesD n.gates)), (21, .d (iD n.gates.length)), (22, .d (iD k))]) (n.gates.length) ?_ ⟨0, Nat.zero_le _, rfl, rfl, rfl⟩ ?_
  · refine Rt.trans (Rt.gc (keep := [2,3]) (by decide) (by decide) (by simp [])) ?_
    refine Rt.end (less_cons (less_cons (less_cons (less_cons (less_cons (less_cons (less_nil _) rfl) rfl) rfl) rfl) rfl) rfl) ?_
    first | rfl | (simp only [gcH, gcO_c, gcVs_avs, gcVs, gcV, List.map_cons, List.map_nil, List.getD_cons_zero, List.getD_cons_succ]; first | done | rfl)
  rintro τ' H' mm ⟨k, hk, rfl, rfl, rfl⟩
  refine awp_seq_s hp KT_ok hc rfl fun K6 hK6 => ?_
  simp -dsimp -implicitDefEqProofs (disch := first | assumption | omega | (simp [maxLen, avs_len, gates_len, wires_len, evalS_len, opsC_len] <;> omega) | decide) only [sT_bin, sT_nil, oK_some, q_o, binF_v, v_lss, ↓reduceIte, q_b, q_f, Nat.reduceEqDiff, iD, intssD, gatesD]
  refine hK6 _ _ ?_
  refine awp_seq_k fun K7 hK7 => ?_
  refine awp_cond rfl (fun ht => ?_) (fun ht => ?_)
  · have hlt : k < n.gates.length := by simp at ht; omega
    refine awp_skip (hK7 _ _ ?_)
    refine awp_seq_k fun K8 hK8 => ?_
    refine awp_block ?_
    have ok := hg k hlt
    obtain ⟨o1, o2, a0, a1, b0, b1, c0, c1, n0, n1⟩ := ok
    have hl : (evalS mems (false :: true :: inp) (n.gates.take k)).length = 2 + inp.length + k := by rw [evalS_len]; simp; omega
    refine awp_seq_s hp KT_ok hc rfl fun K9 hK9 => ?_
    simp -dsimp -implicitDefEqProofs (disch := first | assumption | omega | (simp [maxLen, avs_len, gates_len, wires_len, evalS_len, opsC_len] <;> omega) | decide) only [sT_load, sT_ia, sT_alloc, sT_store, deadH, sT_nil, oK_some, q_o, loadF, ixO, indexAddrF, layF, storeF, ↓reduceIte, q_b, ifp, q_f, q_s, q_l, as_dagg, q_a, D.one, Value.oneCell', Int.toNat_natCast, q_n, Nat.reduceEqDiff, map_d, avs_nil, avs_cons, iD, Nat.reduceAdd, deadH, gate_row, gateC, eo_39, sz_64, ag_64, za_64]
    refine hK9 _ _ ?_
    refine awp_seq_se KT_ok hc mixed rfl (q := 0) (by kernel_rfl) (by kernel_rfl) fun K10 hK10 => ?_
    simp -dsimp -implicitDefEqProofs (disch := first | assumption | omega | (simp [maxLen, avs_len, gates_len, wires_len, evalS_len, opsC_len] <;> omega) | decide) only [sE_move, sE_assign, sE_load, sE_fa, sE_ia, sE_nil, oK_some, q_o, loadF, fieldAddrF, ixO, indexAddrF, ↓reduceIte, q_b, ifp, q_f, q_l, List.append_nil, List.replicate_zero, and_true, q_n, Nat.reduceEqDiff, killAll, avs_get, get_map, oD, Nat.reduceAdd, fo_64_1, sz_3, ag_3, eo_33, sz_4, ag_4, fo_64_2, fo_64_3]
    refine hK10 _ _ ?_
    refine awp_seq_k fun K11 hK11 => ?_
    refine awp_seq_s hp KT_ok hc rfl fun K12 hK12 => ?_
    simp -dsimp -implicitDefEqProofs (disch := first | assumption | omega | (simp [maxLen, avs_len, gates_len, wires_len, evalS_len, opsC_len] <;> omega) | decide) only [sT_load, sT_fa, sT_bin, sT_nil, oK_some, q_o, loadF, fieldAddrF, binF_v, v_eql, ↓reduceIte, q_b, ifp, q_f, q_l, q_n, Nat.reduceEqDiff, Nat.reduceAdd, fo_64_0, sz_3, ag_3]
    refine hK12 _ _ ?_
    refine awp_cond rfl (fun ht => ?_) (fun ht => ?_)
    · have h7 : (nth n.gates k).op = 7 := by simpa using ht
      refine awp_seq_se KT_ok hc mixed rfl (q := 3) (by kernel_rfl) (by kernel_rfl) fun K13 hK13 => ?_
      simp -dsimp -implicitDefEqProofs (disch := first | assumption | omega | (simp [maxLen, avs_len, gates_len, wires_len, evalS_len, opsC_len] <;> omega) | decide) only [sE_move, sE_load, sE_fa, sE_call0, sE_bs, oK_some, q_o, loadF, fieldAddrF, layF, layEF, ↓reduceIte, q_b, ifp, ifn, q_f, q_s, q_l, List.replicate_zero, List.replicate_succ, reps_def, q_a, fill_cons, and_true, q_n, Nat.reduceEqDiff, shB, appB, Nat.reduceAdd, layEF, frzF, datas, fo_64_4, sz_3, ag_3, mk_33]
      refine kc_by (number_c _ _ _) rfl ?_
      simp -dsimp -implicitDefEqProofs (disch := first | assumption | omega | (simp [maxLen, avs_len, gates_len, wires_len, evalS_len, opsC_len] <;> omega) | decide) only [sE_call0, ↓reduceIte, q_b, q_f, q_s, Nat.reduceEqDiff, iD, Nat.reduceAdd]
      refine kc_by (read_c _ _ _ n0 n1 (num3_r _ _ _).1) rfl ?_
      simp -dsimp -implicitDefEqProofs (disch := first | assumption | omega | (simp [maxLen, avs_len, gates_len, wires_len, evalS_len, opsC_len] <;> omega) | decide) only [sE_assign, sE_bs, sE_app, sE_nil, oK_some, q_o, layF, layEF, srcF, ↓reduceIte, q_b, ifp, ifn, q_f, q_s, q_l, List.append_nil, List.replicate_zero, List.replicate_succ, reps_def, q_a, fill_cons, and_true, q_n, Nat.reduceEqDiff, shB, appB, baseOk_old, baseOk_dd, killAll, appSh, avs_len, avs_app1, List.drop_zero, oD, Nat.reduceAdd, List.length_map, layEF, frzF, datas, List.filterMap_nil, mk_33]
      refine hK13 _ _ ?_
      refine awp_exit (hK8 _ _ ?_)
      refine awp_s hp KT_ok hc rfl fun K14 hK14 => ?_
      simp -dsimp -implicitDefEqProofs (disch := first | assumption | omega | (simp [maxLen, avs_len, gates_len, wires_len, evalS_len, opsC_len] <;> omega) | decide) only [sT_move, sT_bin, sT_nil, oK_some, q_o, binF_v, v_add, ↓reduceIte, q_b, q_f, Nat.reduceEqDiff]
      refine hK14 _ _ ⟨_, _, _, ?_, ⟨k + 1, by omega, rfl, rfl, rfl⟩, ?_⟩
      · first | omega | (simp only [List.length_cons]; omega) | (dsimp only; omega)
      · refine Rt.trans (Rt.gc (keep := [5,1]) (by decide) (by decide) (by simp [])) ?_
        refine Rt.end (less_cons (less_cons (less_cons (less_cons (less_cons (less_cons (less_nil _) rfl) rfl) rfl) rfl) rfl) rfl) ?_
        simp only [gcH, gcO_c, gcVs_avs, List.map_cons, List.map_nil, List.getD_cons_zero, List.getD_cons_succ]; simp [evalS_step _ _ hlt, opN, h7, oD]
    · have h7 : ¬ (nth n.gates k).op = 7 := by simpa using ht
      refine awp_skip (hK11 _ _ ?_)
      refine awp_seq_s hp KT_ok hc rfl fun K15 hK15 => ?_
      rcases (show (nth n.gates k).op = 1 ∨ (nth n.gates k).op = 2 ∨ (nth n.gates k).op = 3 ∨ (nth n.gates k).op = 4 ∨ (nth n.gates k).op = 5 ∨ (nth n.gates k).op = 6 by omega) with ho | ho | ho | ho | ho | ho
      · simp -dsimp -implicitDefEqProofs (disch := first | assumption | omega | (simp [maxLen, avs_len, gates_len, wires_len, evalS_len, opsC_len] <;> omega) | decide) only [sT_slice, sT_mf, sT_call0, oK_some, q_o, sliceF, sb_none, ↓reduceIte, q_b, ifp, q_f, q_s, q_l, Int.toNat_natCast, q_n, Nat.reduceEqDiff, avs_len, Nat.reduceAdd, Int.sub_zero, Int.toNat_zero, Nat.zero_mul, Nat.reduceMul, ho, eo_110]
        refine kc_own (find_1 (nth n.gates k).a (nth n.gates k).b (nth n.gates k).c (nth n.gates k).n) ?_ ?_
        · simp (disch := first | assumption | omega | (simp [maxLen, avs_len, gates_len, wires_len, evalS_len, opsC_len] <;> omega) | decide) only [List.map_cons, List.map_nil, deep_d, deepL_avs, deepL_nil, deepL_cons, lookH_eq, cellsOf_c, deep_os, deep_op, deep_clo, Nat.reduceAdd, takeD_all, D.fix, Option.map_some, Option.bind_some, List.getElem?_cons_zero, List.getElem?_cons_succ, iD, findA, opsC]
        simp -dsimp -implicitDefEqProofs (disch := first | assumption | omega | (simp [maxLen, avs_len, gates_len, wires_len, evalS_len, opsC_len] <;> omega) | decide) only [sT_assign, sT_nil, ↓reduceIte, q_b, q_f]
        refine hK15 _ _ ?_
        refine awp_s hp KT_ok hc rfl fun K16 hK16 => ?_
        simp -dsimp -implicitDefEqProofs (disch := first | assumption | omega | (simp [maxLen, avs_len, gates_len, wires_len, evalS_len, opsC_len] <;> omega) | decide) only [sT_move, sT_load, sT_fa, sT_ia, sT_callt, oK_some, loadF, fieldAddrF, ixO, indexAddrF, ↓reduceIte, q_b, ifp, q_f, q_s, q_l, q_n, Nat.reduceEqDiff, avs_nil, avs_cons, iD, Nat.reduceAdd, Int.toNat_zero, Nat.zero_mul, opsC, eo_110, fo_109_1, sz_107, ag_107]
        refine kc_by (op_1 _ _ _) rfl ?_
        simp -dsimp -implicitDefEqProofs (disch := first | assumption | omega | (simp [maxLen, avs_len, gates_len, wires_len, evalS_len, opsC_len] <;> omega) | decide) only [sT_assign, sT_bs, sT_app, deadH, sT_nil, oK_some, q_o, layF, srcF, ↓reduceIte, q_b, ifp, ifn, q_f, q_s, q_l, List.append_nil, List.replicate_zero, List.replicate_succ, reps_def, q_a, fill_cons, q_n, Nat.reduceEqDiff, avs_len, avs_app1, takeD_all, List.drop_zero, oD, Nat.reduceAdd, deadH, List.length_map, mk_33]
        refine hK16 _ _ (hK8 _ _ ?_)
        refine awp_s hp KT_ok hc rfl fun K17 hK17 => ?_
        simp -dsimp -implicitDefEqProofs (disch := first | assumption | omega | (simp [maxLen, avs_len, gates_len, wires_len, evalS_len, opsC_len] <;> omega) | decide) only [sT_move, sT_bin, sT_nil, oK_some, q_o, binF_v, v_add, ↓reduceIte, q_b, q_f, Nat.reduceEqDiff]
        refine hK17 _ _ ⟨_, _, _, ?_, ⟨k + 1, by omega, rfl, rfl, rfl⟩, ?_⟩
        · first | omega | (simp only [List.length_cons]; omega) | (dsimp only; omega)
        · refine Rt.trans (Rt.gc (keep := [4,1]) (by decide) (by decide) (by simp [])) ?_
          refine Rt.end (less_cons (less_cons (less_cons (less_cons (less_cons (less_cons (less_nil _) rfl) rfl) rfl) rfl) rfl) rfl) ?_
          simp only [gcH, gcO_c, gcVs_avs, gcVs, gcV, List.map_cons, List.map_nil, List.getD_cons_zero, List.getD_cons_succ]; simp [evalS_step _ _ hlt, opN, ho, oD]; rfl
      · simp -dsimp -implicitDefEqProofs (disch := first | assumption | omega | (simp [maxLen, avs_len, gates_len, wires_len, evalS_len, opsC_len] <;> omega) | decide) only [sT_slice, sT_mf, sT_call0, oK_some, q_o, sliceF, sb_none, ↓reduceIte, q_b, ifp, q_f, q_s, q_l, Int.toNat_natCast, q_n, Nat.reduceEqDiff, avs_len, Nat.reduceAdd, Int.sub_zero, Int.toNat_zero, Nat.zero_mul, Nat.reduceMul, ho, eo_110]
        refine kc_own (find_2 (nth n.gates k).a (nth n.gates k).b (nth n.gates k).c (nth n.gates k).n) ?_ ?_
        · simp (disch := first | assumption | omega | (simp [maxLen, avs_len, gates_len, wires_len, evalS_len, opsC_len] <;> omega) | decide) only [List.map_cons, List.map_nil, deep_d, deepL_avs, deepL_nil, deepL_cons, lookH_eq, cellsOf_c, deep_os, deep_op, deep_clo, Nat.reduceAdd, takeD_all, D.fix, Option.map_some, Option.bind_some, List.getElem?_cons_zero, List.getElem?_cons_succ, iD, findA, opsC]
        simp -dsimp -implicitDefEqProofs (disch := first | assumption | omega | (simp [maxLen, avs_len, gates_len, wires_len, evalS_len, opsC_len] <;> omega) | decide) only [sT_assign, sT_nil, ↓reduceIte, q_b, q_f]
        refine hK15 _ _ ?_
        refine awp_s hp KT_ok hc rfl fun K18 hK18 => ?_
        simp -dsimp -implicitDefEqProofs (disch := first | assumption | omega | (simp [maxLen, avs_len, gates_len, wires_len, evalS_len, opsC_len] <;> omega) | decide) only [sT_move, sT_load, sT_fa, sT_ia, sT_callt, oK_some, loadF, fieldAddrF, ixO, indexAddrF, ↓reduceIte, q_b, ifp, q_f, q_s, q_l, q_n, Nat.reduceEqDiff, avs_nil, avs_cons, iD, Nat.reduceAdd, Int.reduceToNat, Nat.reduceMul, opsC, eo_110, fo_109_1, sz_107, ag_107]
        refine kc_by (op_2 _ _ _) rfl ?_
        simp -dsimp -implicitDefEqProofs (disch := first | assumption | omega | (simp [maxLen, avs_len, gates_len, wires_len, evalS_len, opsC_len] <;> omega) | decide) only [sT_assign, sT_bs, sT_app, deadH, sT_nil, oK_some, q_o, layF, srcF, ↓reduceIte, q_b, ifp, ifn, q_f, q_s, q_l, List.append_nil, List.replicate_zero, List.replicate_succ, reps_def, q_a, fill_cons, q_n, Nat.reduceEqDiff, avs_len, avs_app1, takeD_all, List.drop_zero, oD, Nat.reduceAdd, deadH, List.length_map, mk_33]
        refine hK18 _ _ (hK8 _ _ ?_)
        refine awp_s hp KT_ok hc rfl fun K19 hK19 => ?_
        simp -dsimp -implicitDefEqProofs (disch := first | assumption | omega | (simp [maxLen, avs_len, gates_len, wires_len, evalS_len, opsC_len] <;> omega) | decide) only [sT_move, sT_bin, sT_nil, oK_some, q_o, binF_v, v_add, ↓reduceIte, q_b, q_f, Nat.reduceEqDiff]
        refine hK19 _ _ ⟨_, _, _, ?_, ⟨k + 1, by omega, rfl, rfl, rfl⟩, ?_⟩
        · first | omega | (simp only [List.length_cons]; omega) | (dsimp only; omega)
        · refine Rt.trans (Rt.gc (keep := [4,1]) (by decide) (by decide) (by simp [])) ?_
          refine Rt.end (less_cons (less_cons (less_cons (less_cons (less_cons (less_cons (less_nil _) rfl) rfl) rfl) rfl) rfl) rfl) ?_
          simp only [gcH, gcO_c, gcVs_avs, gcVs, gcV, List.map_cons, List.map_nil, List.getD_cons_zero, List.getD_cons_succ]; simp [evalS_step _ _ hlt, opN, ho, oD]; rfl
      · simp -dsimp -implicitDefEqProofs (disch := first | assumption | omega | (simp [maxLen, avs_len, gates_len, wires_len, evalS_len, opsC_len] <;> omega) | decide) only [sT_slice, sT_mf, sT_call0, oK_some, q_o, sliceF, sb_none, ↓reduceIte, q_b, ifp, q_f, q_s, q_l, Int.toNat_natCast, q_n, Nat.reduceEqDiff, avs_len, Nat.reduceAdd, Int.sub_zero, Int.toNat_zero, Nat.zero_mul, Nat.reduceMul, ho, eo_110]
        refine kc_own (find_3 (nth n.gates k).a (nth n.gates k).b (nth n.gates k).c (nth n.gates k).n) ?_ ?_
        · simp (disch := first | assumption | omega | (simp [maxLen, avs_len, gates_len, wires_len, evalS_len, opsC_len] <;> omega) | decide) only [List.map_cons, List.map_nil, deep_d, deepL_avs, deepL_nil, deepL_cons, lookH_eq, cellsOf_c, deep_os, deep_op, deep_clo, Nat.reduceAdd, takeD_all, D.fix, Option.map_some, Option.bind_some, List.getElem?_cons_zero, List.getElem?_cons_succ, iD, findA, opsC]
        simp -dsimp -implicitDefEqProofs (disch := first | assumption | omega | (simp [maxLen, avs_len, gates_len, wires_len, evalS_len, opsC_len] <;> omega) | decide) only [sT_assign, sT_nil, ↓reduceIte, q_b, q_f]
        refine hK15 _ _ ?_
        refine awp_s hp KT_ok hc rfl fun K20 hK20 => ?_
        simp -dsimp -implicitDefEqProofs (disch := first | assumption | omega | (simp [maxLen, avs_len, gates_len, wires_len, evalS_len, opsC_len] <;> omega) | decide) only [sT_move, sT_load, sT_fa, sT_ia, sT_callt, oK_some, loadF, fieldAddrF, ixO, indexAddrF, ↓reduceIte, q_b, ifp, q_f, q_s, q_l, q_n, Nat.reduceEqDiff, avs_nil, avs_cons, iD, Nat.reduceAdd, Int.reduceToNat, Nat.reduceMul, opsC, eo_110, fo_109_1, sz_107, ag_107]
        refine kc_by (op_3 _ _ _) rfl ?_
        simp -dsimp -implicitDefEqProofs (disch := first | assumption | omega | (simp [maxLen, avs_len, gates_len, wires_len, evalS_len, opsC_len] <;> omega) | decide) only [sT_assign, sT_bs, sT_app, deadH, sT_nil, oK_some, q_o, layF, srcF, ↓reduceIte, q_b, ifp, ifn, q_f, q_s, q_l, List.append_nil, List.replicate_zero, List.replicate_succ, reps_def, q_a, fill_cons, q_n, Nat.reduceEqDiff, avs_len, avs_app1, takeD_all, List.drop_zero, oD, Nat.reduceAdd, deadH, List.length_map, mk_33]
        refine hK20 _ _ (hK8 _ _ ?_)
        refine awp_s hp KT_ok hc rfl fun K21 hK21 => ?_
        simp -dsimp -implicitDefEqProofs (disch := first | assumption | omega | (simp [maxLen, avs_len, gates_len, wires_len, evalS_len, opsC_len] <;> omega) | decide) only [sT_move, sT_bin, sT_nil, oK_some, q_o, binF_v, v_add, ↓reduceIte, q_b, q_f, Nat.reduceEqDiff]
        refine hK21 _ _ ⟨_, _, _, ?_, ⟨k + 1, by omega, rfl, rfl, rfl⟩, ?_⟩
        · first | omega | (simp only [List.length_cons]; omega) | (dsimp only; omega)
        · refine Rt.trans (Rt.gc (keep := [4,1]) (by decide) (by decide) (by simp [])) ?_
          refine Rt.end (less_cons (less_cons (less_cons (less_cons (less_cons (less_cons (less_nil _) rfl) rfl) rfl) rfl) rfl) rfl) ?_
          simp only [gcH, gcO_c, gcVs_avs, gcVs, gcV, List.map_cons, List.map_nil, List.getD_cons_zero, List.getD_cons_succ]; simp [evalS_step _ _ hlt, opN, ho, oD]; rfl
      · simp -dsimp -implicitDefEqProofs (disch := first | assumption | omega | (simp [maxLen, avs_len, gates_len, wires_len, evalS_len, opsC_len] <;> omega) | decide) only [sT_slice, sT_mf, sT_call0, oK_some, q_o, sliceF, sb_none, ↓reduceIte, q_b, ifp, q_f, q_s, q_l, Int.toNat_natCast, q_n, Nat.reduceEqDiff, avs_len, Nat.reduceAdd, Int.sub_zero, Int.toNat_zero, Nat.zero_mul, Nat.reduceMul, ho, eo_110]
        refine kc_own (find_4 (nth n.gates k).a (nth n.gates k).b (nth n.gates k).c (nth n.gates k).n) ?_ ?_
        · simp (disch := first | assumption | omega | (simp [maxLen, avs_len, gates_len, wires_len, evalS_len, opsC_len] <;> omega) | decide) only [List.map_cons, List.map_nil, deep_d, deepL_avs, deepL_nil, deepL_cons, lookH_eq, cellsOf_c, deep_os, deep_op, deep_clo, Nat.reduceAdd, takeD_all, D.fix, Option.map_some, Option.bind_some, List.getElem?_cons_zero, List.getElem?_cons_succ, iD, findA, opsC]
        simp -dsimp -implicitDefEqProofs (disch := first | assumption | omega | (simp [maxLen, avs_len, gates_len, wires_len, evalS_len, opsC_len] <;> omega) | decide) only [sT_assign, sT_nil, ↓reduceIte, q_b, q_f]
        refine hK15 _ _ ?_
        refine awp_s hp KT_ok hc rfl fun K22 hK22 => ?_
        simp -dsimp -implicitDefEqProofs (disch := first | assumption | omega | (simp [maxLen, avs_len, gates_len, wires_len, evalS_len, opsC_len] <;> omega) | decide) only [sT_move, sT_load, sT_fa, sT_ia, sT_callt, oK_some, loadF, fieldAddrF, ixO, indexAddrF, ↓reduceIte, q_b, ifp, q_f, q_s, q_l, q_n, Nat.reduceEqDiff, avs_nil, avs_cons, iD, Nat.reduceAdd, Int.reduceToNat, Nat.reduceMul, opsC, eo_110, fo_109_1, sz_107, ag_107]
        refine kc_by (op_4 _ _ _) rfl ?_
        simp -dsimp -implicitDefEqProofs (disch := first | assumption | omega | (simp [maxLen, avs_len, gates_len, wires_len, evalS_len, opsC_len] <;> omega) | decide) only [sT_assign, sT_bs, sT_app, deadH, sT_nil, oK_some, q_o, layF, srcF, ↓reduceIte, q_b, ifp, ifn, q_f, q_s, q_l, List.append_nil, List.replicate_zero, List.replicate_succ, reps_def, q_a, fill_cons, q_n, Nat.reduceEqDiff, avs_len, avs_app1, takeD_all, List.drop_zero, oD, Nat.reduceAdd, deadH, List.length_map, mk_33]
        refine hK22 _ _ (hK8 _ _ ?_)
        refine awp_s hp KT_ok hc rfl fun K23 hK23 => ?_
        simp -dsimp -implicitDefEqProofs (disch := first | assumption | omega | (simp [maxLen, avs_len, gates_len, wires_len, evalS_len, opsC_len] <;> omega) | decide) only [sT_move, sT_bin, sT_nil, oK_some, q_o, binF_v, v_add, ↓reduceIte, q_b, q_f, Nat.reduceEqDiff]
        refine hK23 _ _ ⟨_, _, _, ?_, ⟨k + 1, by omega, rfl, rfl, rfl⟩, ?_⟩
        · first | omega | (simp only [List.length_cons]; omega) | (dsimp only; omega)
        · refine Rt.trans (Rt.gc (keep := [4,1]) (by decide) (by decide) (by simp [])) ?_
          refine Rt.end (less_cons (less_cons (less_cons (less_cons (less_cons (less_cons (less_nil _) rfl) rfl) rfl) rfl) rfl) rfl) ?_
          simp only [gcH, gcO_c, gcVs_avs, gcVs, gcV, List.map_cons, List.map_nil, List.getD_cons_zero, List.getD_cons_succ]; simp [evalS_step _ _ hlt, opN, ho, oD]; rfl
      · simp -dsimp -implicitDefEqProofs (disch := first | assumption | omega | (simp [maxLen, avs_len, gates_len, wires_len, evalS_len, opsC_len] <;> omega) | decide) only [sT_slice, sT_mf, sT_call0, oK_some, q_o, sliceF, sb_none, ↓reduceIte, q_b, ifp, q_f, q_s, q_l, Int.toNat_natCast, q_n, Nat.reduceEqDiff, avs_len, Nat.reduceAdd, Int.sub_zero, Int.toNat_zero, Nat.zero_mul, Nat.reduceMul, ho, eo_110]
        refine kc_own (find_5 (nth n.gates k).a (nth n.gates k).b (nth n.gates k).c (nth n.gates k).n) ?_ ?_
        · simp (disch := first | assumption | omega | (simp [maxLen, avs_len, gates_len, wires_len, evalS_len, opsC_len] <;> omega) | decide) only [List.map_cons, List.map_nil, deep_d, deepL_avs, deepL_nil, deepL_cons, lookH_eq, cellsOf_c, deep_os, deep_op, deep_clo, Nat.reduceAdd, takeD_all, D.fix, Option.map_some, Option.bind_some, List.getElem?_cons_zero, List.getElem?_cons_succ, iD, findA, opsC]
        simp -dsimp -implicitDefEqProofs (disch := first | assumption | omega | (simp [maxLen, avs_len, gates_len, wires_len, evalS_len, opsC_len] <;> omega) | decide) only [sT_assign, sT_nil, ↓reduceIte, q_b, q_f]
        refine hK15 _ _ ?_
        refine awp_s hp KT_ok hc rfl fun K24 hK24 => ?_
        simp -dsimp -implicitDefEqProofs (disch := first | assumption | omega | (simp [maxLen, avs_len, gates_len, wires_len, evalS_len, opsC_len] <;> omega) | decide) only [sT_move, sT_load, sT_fa, sT_ia, sT_callt, oK_some, loadF, fieldAddrF, ixO, indexAddrF, ↓reduceIte, q_b, ifp, q_f, q_s, q_l, q_n, Nat.reduceEqDiff, avs_nil, avs_cons, iD, Nat.reduceAdd, Int.reduceToNat, Nat.reduceMul, opsC, eo_110, fo_109_1, sz_107, ag_107]
        refine kc_by (op_5 _ _ _) rfl ?_
        simp -dsimp -implicitDefEqProofs (disch := first | assumption | omega | (simp [maxLen, avs_len, gates_len, wires_len, evalS_len, opsC_len] <;> omega) | decide) only [sT_assign, sT_bs, sT_app, deadH, sT_nil, oK_some, q_o, layF, srcF, ↓reduceIte, q_b, ifp, ifn, q_f, q_s, q_l, List.append_nil, List.replicate_zero, List.replicate_succ, reps_def, q_a, fill_cons, q_n, Nat.reduceEqDiff, avs_len, avs_app1, takeD_all, List.drop_zero, oD, Nat.reduceAdd, deadH, List.length_map, mk_33]
        refine hK24 _ _ (hK8 _ _ ?_)
        refine awp_s hp KT_ok hc rfl fun K25 hK25 => ?_
        simp -dsimp -implicitDefEqProofs (disch := first | assumption | omega | (simp [maxLen, avs_len, gates_len, wires_len, evalS_len, opsC_len] <;> omega) | decide) only [sT_move, sT_bin, sT_nil, oK_some, q_o, binF_v, v_add, ↓reduceIte, q_b, q_f, Nat.reduceEqDiff]
        refine hK25 _ _ ⟨_, _, _, ?_, ⟨k + 1, by omega, rfl, rfl, rfl⟩, ?_⟩
        · first | omega | (simp only [List.length_cons]; omega) | (dsimp only; omega)
        · refine Rt.trans (Rt.gc (keep := [4,1]) (by decide) (by decide) (by simp [])) ?_
          refine Rt.end (less_cons (less_cons (less_cons (less_cons (less_cons (less_cons (less_nil _) rfl) rfl) rfl) rfl) rfl) rfl) ?_
          simp only [gcH, gcO_c, gcVs_avs, gcVs, gcV, List.map_cons, List.map_nil, List.getD_cons_zero, List.getD_cons_succ]; simp [evalS_step _ _ hlt, opN, ho, oD]; rfl
      · simp -dsimp -implicitDefEqProofs (disch := first | assumption | omega | (simp [maxLen, avs_len, gates_len, wires_len, evalS_len, opsC_len] <;> omega) | decide) only [sT_slice, sT_mf, sT_call0, oK_some, q_o, sliceF, sb_none, ↓reduceIte, q_b, ifp, q_f, q_s, q_l, Int.toNat_natCast, q_n, Nat.reduceEqDiff, avs_len, Nat.reduceAdd, Int.sub_zero, Int.toNat_zero, Nat.zero_mul, Nat.reduceMul, ho, eo_110]
        refine kc_own (find_6 (nth n.gates k).a (nth n.gates k).b (nth n.gates k).c (nth n.gates k).n) ?_ ?_
        · simp (disch := first | assumption | omega | (simp [maxLen, avs_len, gates_len, wires_len, evalS_len, opsC_len] <;> omega) | decide) only [List.map_cons, List.map_nil, deep_d, deepL_avs, deepL_nil, deepL_cons, lookH_eq, cellsOf_c, deep_os, deep_op, deep_clo, Nat.reduceAdd, takeD_all, D.fix, Option.map_some, Option.bind_some, List.getElem?_cons_zero, List.getElem?_cons_succ, iD, findA, opsC]
        simp -dsimp -implicitDefEqProofs (disch := first | assumption | omega | (simp [maxLen, avs_len, gates_len, wires_len, evalS_len, opsC_len] <;> omega) | decide) only [sT_assign, sT_nil, ↓reduceIte, q_b, q_f]
        refine hK15 _ _ ?_
        refine awp_s hp KT_ok hc rfl fun K26 hK26 => ?_
        simp -dsimp -implicitDefEqProofs (disch := first | assumption | omega | (simp [maxLen, avs_len, gates_len, wires_len, evalS_len, opsC_len] <;> omega) | decide) only [sT_move, sT_load, sT_fa, sT_ia, sT_callt, oK_some, loadF, fieldAddrF, ixO, indexAddrF, ↓reduceIte, q_b, ifp, q_f, q_s, q_l, q_n, Nat.reduceEqDiff, avs_nil, avs_cons, iD, Nat.reduceAdd, Int.reduceToNat, Nat.reduceMul, opsC, eo_110, fo_109_1, sz_107, ag_107]
        refine kc_by (op_6 _ _ _) rfl ?_
        simp -dsimp -implicitDefEqProofs (disch := first | assumption | omega | (simp [maxLen, avs_len, gates_len, wires_len, evalS_len, opsC_len] <;> omega) | decide) only [sT_assign, sT_bs, sT_app, deadH, sT_nil, oK_some, q_o, layF, srcF, ↓reduceIte, q_b, ifp, ifn, q_f, q_s, q_l, List.append_nil, List.replicate_zero, List.replicate_succ, reps_def, q_a, fill_cons, q_n, Nat.reduceEqDiff, avs_len, avs_app1, takeD_all, List.drop_zero, oD, Nat.reduceAdd, deadH, List.length_map, mk_33]
        refine hK26 _ _ (hK8 _ _ ?_)
        refine awp_s hp KT_ok hc rfl fun K27 hK27 => ?_
        simp -dsimp -implicitDefEqProofs (disch := first | assumption | omega | (simp [maxLen, avs_len, gates_len, wires_len, evalS_len, opsC_len] <;> omega) | decide) only [sT_move, sT_bin, sT_nil, oK_some, q_o, binF_v, v_add, ↓reduceIte, q_b, q_f, Nat.reduceEqDiff]
        refine hK27 _ _ ⟨_, _, _, ?_, ⟨k + 1, by omega, rfl, rfl, rfl⟩, ?_⟩
        · first | omega | (simp only [List.length_cons]; omega) | (dsimp only; omega)
        · refine Rt.trans (Rt.gc (keep := [4,1]) (by decide) (by decide) (by simp [])) ?_
          refine Rt.end (less_cons (less_cons (less_cons (less_cons (less_cons (less_cons (less_nil _) rfl) rfl) rfl) rfl) rfl) rfl) ?_
          simp only [gcH, gcO_c, gcVs_avs, gcVs, gcV, List.map_cons, List.map_nil, List.getD_cons_zero, List.getD_cons_succ]; simp [evalS_step _ _ hlt, opN, ho, oD]; rfl
  · have hge : k = n.gates.length := by simp at ht; omega
    refine awp_exit (hK4 _ _ ?_)
    refine awp_seq_s hp KT_ok hc rfl fun K28 hK28 => ?_
    simp -dsimp -implicitDefEqProofs (disch := first | assumption | omega | (simp [maxLen, avs_len, gates_len, wires_len, evalS_len, opsC_len] <;> omega) | decide) only [sT_move, sT_assign, sT_nil, ↓reduceIte, q_b, q_f, Nat.reduceEqDiff]
    refine hK28 _ _ ?_
    refine awp_ret ?_
    show closeA _ _ = _
    simp (disch := first | assumption | omega | (simp [maxLen, avs_len, gates_len, wires_len, evalS_len, opsC_len] <;> omega) | decide) only [closeA, retV, deepL_avs, lookH_eq, cellsOf_c, deep_os, Nat.reduceAdd, Nat.zero_add, takeD_all, fixm_o, frL_get, ↓reduceIte, Option.map_some, Option.bind_some, Nat.mul_one, List.getElem?_cons_zero, List.length_cons, List.length_nil, boolsD]
    rw [hge, List.take_length]; simp [evalN, evalS_len]; omega
end Go.Proofs.Ytgfnpfchdlcoeaa
