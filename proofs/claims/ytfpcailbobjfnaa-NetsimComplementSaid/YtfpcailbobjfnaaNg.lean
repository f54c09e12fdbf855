/- The value of an operator as the law computes it; whether arguments are small. -/
import Derived.Test.YtfpcailbobjfnaaNf
set_option linter.unusedVariables false
set_option linter.unusedSimpArgs false
namespace Go.Proofs.Ytfpcailbobjfnaa
open Go Go.RowKit
theorem w1 : IntKind.i64.wrap (1 * 2 ^ min 0 64) = 1 := by decide
theorem w2 : IntKind.i64.wrap (1 * 2 ^ min 1 64) = 2 := by decide
theorem w4 : IntKind.i64.wrap (1 * 2 ^ min 2 64) = 4 := by decide
def numK (a b c : Bool) (k : Nat) : Int := (if 0 < k ∧ a = true then 1 else 0) + (if 1 < k ∧ b = true then 2 else 0) + (if 2 < k ∧ c = true then 4 else 0)
theorem numK_3 (a b c : Bool) : numK a b c 3 = num3 a b c := by cases a <;> cases b <;> cases c <;> rfl
theorem numK_r (a b c : Bool) (k : Nat) : 0 ≤ numK a b c k ∧ numK a b c k ≤ 7 := by unfold numK; split <;> split <;> split <;> omega
set_option maxRecDepth 100000 in
set_option linter.unusedVariables false in
set_option maxHeartbeats 4000000 in
theorem operator_c (g : Gate) (v : List Bool) (mems : List (List Int)) (m : Nat) (hg : GateOk m g) (hv : m ≤ v.length) : PCalls Try.prog 26 [.agg (gateC g), boolsD v, intssD mems] (.d (oD (opN mems v g))) := by
  refine pcalls_of0 (fn := Try.f26) (by kernel_rfl) Try.func26 rfl (Nat.le_of_ble_eq_true rfl) fun c hc hp => ?_
  refine awp_less (τ' := frL [(0, .d (.agg (gateC g))), (1, .d (boolsD v)), (2, .d (intssD mems))]) (less_cons (less_cons (less_cons (less_nil _) (by first | rfl | (simp [Fr.put, frL, gcV, fzV, posN, iD, bD, uD, oD, intsD, boolsD, bytesD, intssD, bytessD, numK]; done) | simp [Fr.put, frL, gcV, fzV, posN, iD, bD, uD, oD, intsD, boolsD, bytesD, intssD, bytessD, numK, *])) (by first | rfl | (simp [Fr.put, frL, gcV, fzV, posN, iD, bD, uD, oD, intsD, boolsD, bytesD, intssD, bytessD, numK]; done) | simp [Fr.put, frL, gcV, fzV, posN, iD, bD, uD, oD, intsD, boolsD, bytesD, intssD, bytessD, numK, *])) (by first | rfl | (simp [Fr.put, frL, gcV, fzV, posN, iD, bD, uD, oD, intsD, boolsD, bytesD, intssD, bytessD, numK]; done) | simp [Fr.put, frL, gcV, fzV, posN, iD, bD, uD, oD, intsD, boolsD, bytesD, intssD, bytessD, numK, *])) ?_
  refine awp_seq_s KT_ok hc rfl fun K1 hK1 => ?_
  simp -dsimp -implicitDefEqProofs (disch := first | omega | (simp only [maxLen, List.length_replicate, eq_self, true_and, and_true, and_self, avs_len, List.length_map, List.length_append, List.length_cons, List.length_nil, List.length_set, List.length_range, List.length_take, List.length_drop] <;> omega) | rfl | fail) only [sT_assign, sT_box, deadH, sT_nil, oK_some, Option.map_some, layF, ↓reduceIte, eq_self, frL_get, frL_put, evalA_tmp, evalA_const, List.map_cons, List.map_nil, List.length_nil, List.nil_append, List.all_cons, List.all_nil, as_dagg, D.one, Value.oneCell', Bool.and_self, iD, boolsD, intssD, List.nil_append, deadH, gateC]
  refine hK1 _ _ ?_
  obtain ⟨o1, o2, a0, a1, b0, b1, c0, c1, n0, n1⟩ := hg
  refine awp_seq_se KT_ok hc mixed rfl (q := 0) (by kernel_rfl) (by kernel_rfl) fun K2 hK2 => ?_
  simp -dsimp -implicitDefEqProofs (disch := first | omega | (simp only [maxLen, List.length_replicate, eq_self, true_and, and_true, and_self, avs_len, List.length_map, List.length_append, List.length_cons, List.length_nil, List.length_set, List.length_range, List.length_take, List.length_drop] <;> omega) | rfl | fail) only [sE_move, sE_assign, sE_load, sE_fa, sE_ia, sE_nil, oK_some, Option.map_some, loadF, fieldAddrF, ixO, indexAddrF, ↓reduceIte, Bool.false_eq_true, eq_self, ifp, frL_get, frL_put, evalA_tmp, List.length_cons, List.length_nil, List.getElem?_cons_zero, List.getElem?_cons_succ, List.append_nil, List.replicate_zero, Nat.mul_one, Nat.zero_add, Nat.reduceEqDiff, killAll, get_map, oD, Nat.reduceAdd, fo_72_1, sz_3, ag_3, eo_34, sz_4, ag_4, fo_72_2, fo_72_3]
  refine hK2 _ _ ?_
  refine awp_seq_k fun K3 hK3 => ?_
  refine awp_seq_s KT_ok hc rfl fun K4 hK4 => ?_
  simp -dsimp -implicitDefEqProofs (disch := first | omega | (simp only [maxLen, List.length_replicate, eq_self, true_and, and_true, and_self, avs_len, List.length_map, List.length_append, List.length_cons, List.length_nil, List.length_set, List.length_range, List.length_take, List.length_drop] <;> omega) | rfl | fail) only [sT_load, sT_fa, sT_nil, oK_some, loadF, fieldAddrF, ↓reduceIte, Bool.false_eq_true, eq_self, ifp, frL_get, frL_put, evalA_tmp, List.length_cons, List.length_nil, List.getElem?_cons_zero, Nat.zero_add, Nat.add_zero, Nat.reduceEqDiff, fo_72_0, sz_3, ag_3]
  refine hK4 _ _ ?_
  refine awp_block ?_
  refine awp_seq_s KT_ok hc rfl fun K5 hK5 => ?_
  simp -dsimp -implicitDefEqProofs (disch := first | omega | (simp only [maxLen, List.length_replicate, eq_self, true_and, and_true, and_self, avs_len, List.length_map, List.length_append, List.length_cons, List.length_nil, List.length_set, List.length_range, List.length_take, List.length_drop] <;> omega) | rfl | fail) only [sT_assign, sT_bin, sT_nil, oK_some, Option.map_some, binF_v, v_eql, ↓reduceIte, eq_self, frL_get, frL_put, evalA_tmp, evalA_const]
  refine hK5 _ _ ?_
  refine awp_cond rfl (fun ht => ?_) (fun ht => ?_)
  · have ho : g.op = 1 := by simpa using ht
    refine awp_seq_s KT_ok hc rfl fun K6 hK6 => ?_
    simp -dsimp -implicitDefEqProofs (disch := first | omega | (simp only [maxLen, List.length_replicate, eq_self, true_and, and_true, and_self, avs_len, List.length_map, List.length_append, List.length_cons, List.length_nil, List.length_set, List.length_range, List.length_take, List.length_drop] <;> omega) | rfl | fail) only [sT_move, sT_assign, sT_bin, sT_nil, oK_some, Option.map_some, binF_v, v_beql, ↓reduceIte, eq_self, frL_get, frL_put, evalA_tmp, evalA_const, Nat.reduceEqDiff, bt_4]
    refine hK6 _ _ ?_
    refine awp_ret ?_
    show closeA _ _ = _
    simp (disch := first | omega | (simp only [maxLen, List.length_replicate, eq_self, true_and, and_true, and_self, avs_len, List.length_map, List.length_append, List.length_cons, List.length_nil, List.length_set, List.length_range, List.length_take, List.length_drop] <;> omega) | rfl | fail) only [closeA, retV, deep_d, Nat.zero_add, D.fix, frL_get, ↓reduceIte, Option.map_some, List.length_cons, List.length_nil, oD]
    simp only [opN, ho]
    generalize nth v g.a.toNat = A at *
    generalize nth v g.b.toNat = B at *
    generalize nth v g.c.toNat = C at *
    cases A <;> cases B <;> cases C <;> simp_all
  · have p1 : ¬ g.op = 1 := by simpa using ht
    refine awp_seq_s KT_ok hc rfl fun K7 hK7 => ?_
    simp -dsimp -implicitDefEqProofs (disch := first | omega | (simp only [maxLen, List.length_replicate, eq_self, true_and, and_true, and_self, avs_len, List.length_map, List.length_append, List.length_cons, List.length_nil, List.length_set, List.length_range, List.length_take, List.length_drop] <;> omega) | rfl | fail) only [sT_assign, sT_bin, sT_nil, oK_some, Option.map_some, binF_v, v_eql, ↓reduceIte, eq_self, frL_get, frL_put, evalA_tmp, evalA_const, Nat.reduceEqDiff]
    refine hK7 _ _ ?_
    refine awp_cond rfl (fun ht => ?_) (fun ht => ?_)
    · have ho : g.op = 2 := by simpa using ht
      refine awp_seq_s KT_ok hc rfl fun K8 hK8 => ?_
      rcases tf (nth v g.a.toNat) with hA | hA
      · simp -dsimp -implicitDefEqProofs (disch := first | omega | (simp only [maxLen, List.length_replicate, eq_self, true_and, and_true, and_self, avs_len, List.length_map, List.length_append, List.length_cons, List.length_nil, List.length_set, List.length_range, List.length_take, List.length_drop] <;> omega) | rfl | fail) only [sT_move, sT_assign, sT_pick, sT_nil, sT_g, oK_some, gK_t, Option.bind_some, ↓reduceIte, eq_self, guardA_some, guardV_t, frL_get, frL_put, evalA_tmp, List.getElem?_cons_zero, List.getElem?_cons_succ, Nat.reduceEqDiff, hA]
        refine hK8 _ _ ?_
        refine awp_ret ?_
        show closeA _ _ = _
        simp (disch := first | omega | (simp only [maxLen, List.length_replicate, eq_self, true_and, and_true, and_self, avs_len, List.length_map, List.length_append, List.length_cons, List.length_nil, List.length_set, List.length_range, List.length_take, List.length_drop] <;> omega) | rfl | fail) only [closeA, retV, deep_d, Nat.zero_add, D.fix, frL_get, ↓reduceIte, Option.map_some, List.length_cons, List.length_nil, oD]
        simp only [opN, ho]
        generalize nth v g.a.toNat = A at *
        generalize nth v g.b.toNat = B at *
        generalize nth v g.c.toNat = C at *
        cases A <;> cases B <;> cases C <;> simp_all
      · simp -dsimp -implicitDefEqProofs (disch := first | omega | (simp only [maxLen, List.length_replicate, eq_self, true_and, and_true, and_self, avs_len, List.length_map, List.length_append, List.length_cons, List.length_nil, List.length_set, List.length_range, List.length_take, List.length_drop] <;> omega) | rfl | fail) only [sT_move, sT_assign, sT_pick, sT_nil, sT_g, oK_some, gK_f, Option.bind_some, ↓reduceIte, Bool.false_eq_true, eq_self, guardA_some, guardV_t, frL_get, frL_put, evalA_tmp, evalA_const, List.getElem?_cons_zero, List.getElem?_cons_succ, Nat.reduceEqDiff, hA]
        refine hK8 _ _ ?_
        refine awp_ret ?_
        show closeA _ _ = _
        simp (disch := first | omega | (simp only [maxLen, List.length_replicate, eq_self, true_and, and_true, and_self, avs_len, List.length_map, List.length_append, List.length_cons, List.length_nil, List.length_set, List.length_range, List.length_take, List.length_drop] <;> omega) | rfl | fail) only [closeA, retV, deep_d, Nat.zero_add, D.fix, frL_get, ↓reduceIte, Option.map_some, List.length_cons, List.length_nil, oD]
        simp only [opN, ho]
        generalize nth v g.a.toNat = A at *
        generalize nth v g.b.toNat = B at *
        generalize nth v g.c.toNat = C at *
        cases A <;> cases B <;> cases C <;> simp_all
    · have p2 : ¬ g.op = 2 := by simpa using ht
      refine awp_seq_s KT_ok hc rfl fun K9 hK9 => ?_
      simp -dsimp -implicitDefEqProofs (disch := first | omega | (simp only [maxLen, List.length_replicate, eq_self, true_and, and_true, and_self, avs_len, List.length_map, List.length_append, List.length_cons, List.length_nil, List.length_set, List.length_range, List.length_take, List.length_drop] <;> omega) | rfl | fail) only [sT_assign, sT_bin, sT_nil, oK_some, Option.map_some, binF_v, v_eql, ↓reduceIte, eq_self, frL_get, frL_put, evalA_tmp, evalA_const, Nat.reduceEqDiff]
      refine hK9 _ _ ?_
      refine awp_cond rfl (fun ht => ?_) (fun ht => ?_)
      · have ho : g.op = 3 := by simpa using ht
        refine awp_seq_s KT_ok hc rfl fun K10 hK10 => ?_
        rcases tf (nth v g.a.toNat) with hA | hA
        · simp -dsimp -implicitDefEqProofs (disch := first | omega | (simp only [maxLen, List.length_replicate, eq_self, true_and, and_true, and_self, avs_len, List.length_map, List.length_append, List.length_cons, List.length_nil, List.length_set, List.length_range, List.length_take, List.length_drop] <;> omega) | rfl | fail) only [sT_move, sT_assign, sT_pick, sT_nil, sT_g, oK_some, gK_f, Option.bind_some, ↓reduceIte, eq_self, guardA_some, guardV_f, frL_get, frL_put, evalA_tmp, evalA_const, List.getElem?_cons_zero, List.getElem?_cons_succ, Nat.reduceEqDiff, Bool.not_true, hA]
          refine hK10 _ _ ?_
          refine awp_ret ?_
          show closeA _ _ = _
          simp (disch := first | omega | (simp only [maxLen, List.length_replicate, eq_self, true_and, and_true, and_self, avs_len, List.length_map, List.length_append, List.length_cons, List.length_nil, List.length_set, List.length_range, List.length_take, List.length_drop] <;> omega) | rfl | fail) only [closeA, retV, deep_d, Nat.zero_add, D.fix, frL_get, ↓reduceIte, Option.map_some, List.length_cons, List.length_nil, oD]
          simp only [opN, ho]
          generalize nth v g.a.toNat = A at *
          generalize nth v g.b.toNat = B at *
          generalize nth v g.c.toNat = C at *
          cases A <;> cases B <;> cases C <;> simp_all
        · simp -dsimp -implicitDefEqProofs (disch := first | omega | (simp only [maxLen, List.length_replicate, eq_self, true_and, and_true, and_self, avs_len, List.length_map, List.length_append, List.length_cons, List.length_nil, List.length_set, List.length_range, List.length_take, List.length_drop] <;> omega) | rfl | fail) only [sT_move, sT_assign, sT_pick, sT_nil, sT_g, oK_some, gK_t, Option.bind_some, ↓reduceIte, Bool.false_eq_true, eq_self, guardA_some, guardV_f, frL_get, frL_put, evalA_tmp, List.getElem?_cons_zero, List.getElem?_cons_succ, Nat.reduceEqDiff, Bool.not_false, hA]
          refine hK10 _ _ ?_
          refine awp_ret ?_
          show closeA _ _ = _
          simp (disch := first | omega | (simp only [maxLen, List.length_replicate, eq_self, true_and, and_true, and_self, avs_len, List.length_map, List.length_append, List.length_cons, List.length_nil, List.length_set, List.length_range, List.length_take, List.length_drop] <;> omega) | rfl | fail) only [closeA, retV, deep_d, Nat.zero_add, D.fix, frL_get, ↓reduceIte, Option.map_some, List.length_cons, List.length_nil, oD]
          simp only [opN, ho]
          generalize nth v g.a.toNat = A at *
          generalize nth v g.b.toNat = B at *
          generalize nth v g.c.toNat = C at *
          cases A <;> cases B <;> cases C <;> simp_all
      · have p3 : ¬ g.op = 3 := by simpa using ht
        refine awp_seq_s KT_ok hc rfl fun K11 hK11 => ?_
        simp -dsimp -implicitDefEqProofs (disch := first | omega | (simp only [maxLen, List.length_replicate, eq_self, true_and, and_true, and_self, avs_len, List.length_map, List.length_append, List.length_cons, List.length_nil, List.length_set, List.length_range, List.length_take, List.length_drop] <;> omega) | rfl | fail) only [sT_assign, sT_bin, sT_nil, oK_some, Option.map_some, binF_v, v_eql, ↓reduceIte, eq_self, frL_get, frL_put, evalA_tmp, evalA_const, Nat.reduceEqDiff]
        refine hK11 _ _ ?_
        refine awp_cond rfl (fun ht => ?_) (fun ht => ?_)
        · have ho : g.op = 4 := by simpa using ht
          refine awp_seq_s KT_ok hc rfl fun K12 hK12 => ?_
          simp -dsimp -implicitDefEqProofs (disch := first | omega | (simp only [maxLen, List.length_replicate, eq_self, true_and, and_true, and_self, avs_len, List.length_map, List.length_append, List.length_cons, List.length_nil, List.length_set, List.length_range, List.length_take, List.length_drop] <;> omega) | rfl | fail) only [sT_move, sT_assign, sT_bin, sT_nil, oK_some, Option.map_some, binF_v, v_bneq, ↓reduceIte, eq_self, frL_get, frL_put, evalA_tmp, Nat.reduceEqDiff, bt_4]
          refine hK12 _ _ ?_
          refine awp_ret ?_
          show closeA _ _ = _
          simp (disch := first | omega | (simp only [maxLen, List.length_replicate, eq_self, true_and, and_true, and_self, avs_len, List.length_map, List.length_append, List.length_cons, List.length_nil, List.length_set, List.length_range, List.length_take, List.length_drop] <;> omega) | rfl | fail) only [closeA, retV, deep_d, Nat.zero_add, D.fix, frL_get, ↓reduceIte, Option.map_some, List.length_cons, List.length_nil, oD]
          simp only [opN, ho]
          generalize nth v g.a.toNat = A at *
          generalize nth v g.b.toNat = B at *
          generalize nth v g.c.toNat = C at *
          cases A <;> cases B <;> cases C <;> simp_all
        · have p4 : ¬ g.op = 4 := by simpa using ht
          refine awp_seq_s KT_ok hc rfl fun K13 hK13 => ?_
          simp -dsimp -implicitDefEqProofs (disch := first | omega | (simp only [maxLen, List.length_replicate, eq_self, true_and, and_true, and_self, avs_len, List.length_map, List.length_append, List.length_cons, List.length_nil, List.length_set, List.length_range, List.length_take, List.length_drop] <;> omega) | rfl | fail) only [sT_assign, sT_bin, sT_nil, oK_some, Option.map_some, binF_v, v_eql, ↓reduceIte, eq_self, frL_get, frL_put, evalA_tmp, evalA_const, Nat.reduceEqDiff]
          refine hK13 _ _ ?_
          refine awp_cond rfl (fun ht => ?_) (fun ht => ?_)
          · have ho : g.op = 5 := by simpa using ht
            refine awp_seq_k fun K14 hK14 => ?_
            refine awp_seq_s KT_ok hc rfl fun K15 hK15 => ?_
            simp -dsimp -implicitDefEqProofs (disch := first | omega | (simp only [maxLen, List.length_replicate, eq_self, true_and, and_true, and_self, avs_len, List.length_map, List.length_append, List.length_cons, List.length_nil, List.length_set, List.length_range, List.length_take, List.length_drop] <;> omega) | rfl | fail) only [sT_move, sT_nil, ↓reduceIte, eq_self, frL_get, frL_put, evalA_tmp, Nat.reduceEqDiff]
            refine hK15 _ _ ?_
            refine awp_cond rfl (fun ht => ?_) (fun ht => ?_)
            · have hA : nth v g.a.toNat = true := ht
              refine awp_seq_s KT_ok hc rfl fun K16 hK16 => ?_
              simp -dsimp -implicitDefEqProofs (disch := first | omega | (simp only [maxLen, List.length_replicate, eq_self, true_and, and_true, and_self, avs_len, List.length_map, List.length_append, List.length_cons, List.length_nil, List.length_set, List.length_range, List.length_take, List.length_drop] <;> omega) | rfl | fail) only [sT_move, sT_assign, sT_nil, ↓reduceIte, eq_self, frL_get, frL_put, evalA_tmp, Nat.reduceEqDiff]
              refine hK16 _ _ ?_
              refine awp_ret ?_
              show closeA _ _ = _
              simp (disch := first | omega | (simp only [maxLen, List.length_replicate, eq_self, true_and, and_true, and_self, avs_len, List.length_map, List.length_append, List.length_cons, List.length_nil, List.length_set, List.length_range, List.length_take, List.length_drop] <;> omega) | rfl | fail) only [closeA, retV, deep_d, Nat.zero_add, D.fix, frL_get, ↓reduceIte, Option.map_some, List.length_cons, List.length_nil, oD]
              simp only [opN, ho]
              generalize nth v g.a.toNat = A at *
              generalize nth v g.b.toNat = B at *
              generalize nth v g.c.toNat = C at *
              cases A <;> cases B <;> cases C <;> simp_all
            · have hA : nth v g.a.toNat = false := ht
              refine awp_skip (hK14 _ _ ?_)
              refine awp_seq_s KT_ok hc rfl fun K17 hK17 => ?_
              simp -dsimp -implicitDefEqProofs (disch := first | omega | (simp only [maxLen, List.length_replicate, eq_self, true_and, and_true, and_self, avs_len, List.length_map, List.length_append, List.length_cons, List.length_nil, List.length_set, List.length_range, List.length_take, List.length_drop] <;> omega) | rfl | fail) only [sT_move, sT_assign, sT_nil, ↓reduceIte, eq_self, frL_get, frL_put, evalA_tmp, Nat.reduceEqDiff]
              refine hK17 _ _ ?_
              refine awp_ret ?_
              show closeA _ _ = _
              simp (disch := first | omega | (simp only [maxLen, List.length_replicate, eq_self, true_and, and_true, and_self, avs_len, List.length_map, List.length_append, List.length_cons, List.length_nil, List.length_set, List.length_range, List.length_take, List.length_drop] <;> omega) | rfl | fail) only [closeA, retV, deep_d, Nat.zero_add, D.fix, frL_get, ↓reduceIte, Option.map_some, List.length_cons, List.length_nil, oD]
              simp only [opN, ho]
              generalize nth v g.a.toNat = A at *
              generalize nth v g.b.toNat = B at *
              generalize nth v g.c.toNat = C at *
              cases A <;> cases B <;> cases C <;> simp_all
          · have p5 : ¬ g.op = 5 := by simpa using ht
            refine awp_seq_s KT_ok hc rfl fun K18 hK18 => ?_
            simp -dsimp -implicitDefEqProofs (disch := first | omega | (simp only [maxLen, List.length_replicate, eq_self, true_and, and_true, and_self, avs_len, List.length_map, List.length_append, List.length_cons, List.length_nil, List.length_set, List.length_range, List.length_take, List.length_drop] <;> omega) | rfl | fail) only [sT_assign, sT_bin, sT_nil, oK_some, Option.map_some, binF_v, v_eql, ↓reduceIte, eq_self, frL_get, frL_put, evalA_tmp, evalA_const, Nat.reduceEqDiff]
            refine hK18 _ _ ?_
            refine awp_cond rfl (fun ht => ?_) (fun ht => ?_)
            · have ho : g.op = 6 := by simpa using ht
              refine awp_seq_k fun K19 hK19 => ?_
              refine awp_seq_s KT_ok hc rfl fun K20 hK20 => ?_
              simp -dsimp -implicitDefEqProofs (disch := first | omega | (simp only [maxLen, List.length_replicate, eq_self, true_and, and_true, and_self, avs_len, List.length_map, List.length_append, List.length_cons, List.length_nil, List.length_set, List.length_range, List.length_take, List.length_drop] <;> omega) | rfl | fail) only [sT_move, sT_bin, sT_nil, oK_some, Option.map_some, binF_v, v_beql, ↓reduceIte, eq_self, frL_get, frL_put, evalA_tmp, Nat.reduceEqDiff, bt_4]
              refine hK20 _ _ ?_
              refine awp_cond rfl (fun ht => ?_) (fun ht => ?_)
              · refine awp_seq_s KT_ok hc rfl fun K21 hK21 => ?_
                simp -dsimp -implicitDefEqProofs (disch := first | omega | (simp only [maxLen, List.length_replicate, eq_self, true_and, and_true, and_self, avs_len, List.length_map, List.length_append, List.length_cons, List.length_nil, List.length_set, List.length_range, List.length_take, List.length_drop] <;> omega) | rfl | fail) only [sT_move, sT_assign, sT_nil, ↓reduceIte, eq_self, frL_get, frL_put, evalA_tmp, Nat.reduceEqDiff]
                refine hK21 _ _ ?_
                refine awp_ret ?_
                show closeA _ _ = _
                simp (disch := first | omega | (simp only [maxLen, List.length_replicate, eq_self, true_and, and_true, and_self, avs_len, List.length_map, List.length_append, List.length_cons, List.length_nil, List.length_set, List.length_range, List.length_take, List.length_drop] <;> omega) | rfl | fail) only [closeA, retV, deep_d, Nat.zero_add, D.fix, frL_get, ↓reduceIte, Option.map_some, List.length_cons, List.length_nil, oD]
                simp only [opN, ho]
                generalize nth v g.a.toNat = A at *
                generalize nth v g.b.toNat = B at *
                generalize nth v g.c.toNat = C at *
                cases A <;> cases B <;> cases C <;> simp_all
              · refine awp_skip (hK19 _ _ ?_)
                refine awp_seq_s KT_ok hc rfl fun K22 hK22 => ?_
                simp -dsimp -implicitDefEqProofs (disch := first | omega | (simp only [maxLen, List.length_replicate, eq_self, true_and, and_true, and_self, avs_len, List.length_map, List.length_append, List.length_cons, List.length_nil, List.length_set, List.length_range, List.length_take, List.length_drop] <;> omega) | rfl | fail) only [sT_move, sT_assign, sT_nil, ↓reduceIte, eq_self, frL_get, frL_put, evalA_tmp, Nat.reduceEqDiff]
                refine hK22 _ _ ?_
                refine awp_ret ?_
                show closeA _ _ = _
                simp (disch := first | omega | (simp only [maxLen, List.length_replicate, eq_self, true_and, and_true, and_self, avs_len, List.length_map, List.length_append, List.length_cons, List.length_nil, List.length_set, List.length_range, List.length_take, List.length_drop] <;> omega) | rfl | fail) only [closeA, retV, deep_d, Nat.zero_add, D.fix, frL_get, ↓reduceIte, Option.map_some, List.length_cons, List.length_nil, oD]
                simp only [opN, ho]
                generalize nth v g.a.toNat = A at *
                generalize nth v g.b.toNat = B at *
                generalize nth v g.c.toNat = C at *
                cases A <;> cases B <;> cases C <;> simp_all
            · have p6 : ¬ g.op = 6 := by simpa using ht
              have h7 : g.op = 7 := by omega
              refine awp_skip (hK3 _ _ ?_)
              refine awp_seq_s KT_ok hc rfl fun K23 hK23 => ?_
              simp -dsimp -implicitDefEqProofs (disch := first | omega | (simp only [maxLen, List.length_replicate, eq_self, true_and, and_true, and_self, avs_len, List.length_map, List.length_append, List.length_cons, List.length_nil, List.length_set, List.length_range, List.length_take, List.length_drop] <;> omega) | rfl | fail) only [sT_move, sT_assign, sT_bs, deadH, sT_nil, oK_some, Option.map_some, layF, ↓reduceIte, eq_self, ifp, ifn, frL_get, frL_put, evalA_tmp, evalA_const, List.map_cons, List.map_nil, List.length_cons, List.length_nil, List.cons_append, List.nil_append, List.set_cons_zero, List.set_cons_succ, List.replicate_zero, List.replicate_succ, reps_def, fill_nil, fill_cons, as_bool, many_nil, many_cons, Nat.mul_one, Nat.zero_add, Nat.reduceEqDiff, Nat.reduceAdd, List.nil_append, deadH, mk_34]
              refine hK23 _ _ ?_
              refine awp_seq_k fun K24 hK24 => ?_
              refine awp_seq_s KT_ok hc rfl fun K25 hK25 => ?_
              simp -dsimp -implicitDefEqProofs (disch := first | omega | (simp only [maxLen, List.length_replicate, eq_self, true_and, and_true, and_self, avs_len, List.length_map, List.length_append, List.length_cons, List.length_nil, List.length_set, List.length_range, List.length_take, List.length_drop] <;> omega) | rfl | fail) only [sT_assign, sT_nil, frL_put, evalA_const]
              refine hK25 _ _ ?_
              refine awp_block ?_
              refine awp_loop_rt hp (fun τ' H' mm => ∃ k, (k ≤ 3) ∧ mm = 3 - k ∧ H' = [.cells (avs (gateC g)), .cells (avs [oD (nth v g.a.toNat), oD (nth v g.b.toNat), oD (nth v g.c.toNat)])] ∧ τ' = frL [(2, .d (intssD mems)), (3, .op 0 0), (10, .d (iD (numK (nth v g.a.toNat) (nth v g.b.toNat) (nth v g.c.toNat) k))), (11, .os 1 1 0 3), (12, .d (iD k))]) (3) ?_ ⟨0, by omega, rfl, rfl, rfl⟩ ?_
              · refine Rt.trans (Rt.gc (keep := [0,1]) (by decide) (by simp [])) ?_
                refine Rt.end (less_cons (less_cons (less_cons (less_cons (less_cons (less_nil _) (by first | rfl | (simp [Fr.put, frL, gcV, fzV, posN, iD, bD, uD, oD, intsD, boolsD, bytesD, intssD, bytessD, numK]; done) | simp [Fr.put, frL, gcV, fzV, posN, iD, bD, uD, oD, intsD, boolsD, bytesD, intssD, bytessD, numK, *])) (by first | rfl | (simp [Fr.put, frL, gcV, fzV, posN, iD, bD, uD, oD, intsD, boolsD, bytesD, intssD, bytessD, numK]; done) | simp [Fr.put, frL, gcV, fzV, posN, iD, bD, uD, oD, intsD, boolsD, bytesD, intssD, bytessD, numK, *])) (by first | rfl | (simp [Fr.put, frL, gcV, fzV, posN, iD, bD, uD, oD, intsD, boolsD, bytesD, intssD, bytessD, numK]; done) | simp [Fr.put, frL, gcV, fzV, posN, iD, bD, uD, oD, intsD, boolsD, bytesD, intssD, bytessD, numK, *])) (by first | rfl | (simp [Fr.put, frL, gcV, fzV, posN, iD, bD, uD, oD, intsD, boolsD, bytesD, intssD, bytessD, numK]; done) | simp [Fr.put, frL, gcV, fzV, posN, iD, bD, uD, oD, intsD, boolsD, bytesD, intssD, bytessD, numK, *])) (by first | rfl | (simp [Fr.put, frL, gcV, fzV, posN, iD, bD, uD, oD, intsD, boolsD, bytesD, intssD, bytessD, numK]; done) | simp [Fr.put, frL, gcV, fzV, posN, iD, bD, uD, oD, intsD, boolsD, bytesD, intssD, bytessD, numK, *])) ?_
                first | rfl | (simp only [intsD, boolsD, bytesD, intssD, bytessD, gcH, gcO, gcVs_avs, gcVs, gcV, gcV_d, fzH, fzO, fzVs_avs, fzVs, fzV, posN, avs_nil, avs_cons, List.map_cons, List.map_nil, List.getD_cons_zero, List.getD_cons_succ, ↓reduceIte, Nat.reduceEqDiff, Option.map_some, List.set_cons_zero, List.set_cons_succ, takeD_avs, takeD_all, Nat.mul_one, List.length_map, List.cons_append, List.nil_append, gateC]; first | done | rfl)
              rintro τ' H' mm ⟨k, hk, rfl, rfl, rfl⟩
              refine awp_seq_k fun K26 hK26 => ?_
              refine awp_seq_s KT_ok hc rfl fun K27 hK27 => ?_
              simp -dsimp -implicitDefEqProofs (disch := first | omega | (simp only [maxLen, List.length_replicate, eq_self, true_and, and_true, and_self, avs_len, List.length_map, List.length_append, List.length_cons, List.length_nil, List.length_set, List.length_range, List.length_take, List.length_drop] <;> omega) | rfl | fail) only [sT_move, sT_bin, sT_nil, oK_some, Option.map_some, binF_v, v_lss, ↓reduceIte, eq_self, frL_get, frL_put, evalA_tmp, evalA_const, Nat.reduceEqDiff, avs_nil, avs_cons, iD, oD, intssD, gateC]
              refine hK27 _ _ ?_
              refine awp_cond rfl (fun ht => ?_) (fun ht => ?_)
              · have hlt : k < 3 := by simp at ht; omega
                have hr := numK_r (nth v g.a.toNat) (nth v g.b.toNat) (nth v g.c.toNat) k
                refine awp_skip (hK26 _ _ ?_)
                refine awp_seq_k fun K28 hK28 => ?_
                refine awp_block ?_
                refine awp_seq_s KT_ok hc rfl fun K29 hK29 => ?_
                rcases (show k = 0 ∨ k = 1 ∨ k = 2 by omega) with rfl | rfl | rfl
                · simp -dsimp -implicitDefEqProofs (disch := first | omega | (simp only [maxLen, List.length_replicate, eq_self, true_and, and_true, and_self, avs_len, List.length_map, List.length_append, List.length_cons, List.length_nil, List.length_set, List.length_range, List.length_take, List.length_drop] <;> omega) | rfl | fail) only [sT_move, sT_load, sT_ia, sT_nil, oK_some, loadF, ixO, indexAddrF, ↓reduceIte, Bool.false_eq_true, eq_self, ifp, frL_get, frL_put, evalA_tmp, List.length_cons, List.length_nil, List.getElem?_cons_zero, List.getElem?_cons_succ, and_true, Int.toNat_natCast, Nat.mul_one, Nat.zero_add, Nat.add_zero, Nat.reduceEqDiff, Nat.reduceAdd, eo_34, sz_4, ag_4]
                  refine hK29 _ _ ?_
                  refine awp_cond rfl (fun ht => ?_) (fun ht => ?_)
                  · refine awp_s KT_ok hc rfl fun K30 hK30 => ?_
                    simp -dsimp -implicitDefEqProofs (disch := first | omega | (simp only [maxLen, List.length_replicate, eq_self, true_and, and_true, and_self, avs_len, List.length_map, List.length_append, List.length_cons, List.length_nil, List.length_set, List.length_range, List.length_take, List.length_drop] <;> omega) | rfl | fail) only [sT_move, sT_assign, sT_bin, sT_conv, sT_nil, oK_some, Option.map_some, binF_v, convF, v_add, v_shl, ↓reduceIte, eq_self, frL_get, frL_put, evalA_tmp, evalA_const, Int.toNat_natCast, Nat.reduceEqDiff, w_u64, w1, ik_3, ik_116]
                    refine hK30 _ _ (hK28 _ _ ?_)
                    refine awp_s KT_ok hc rfl fun K31 hK31 => ?_
                    simp -dsimp -implicitDefEqProofs (disch := first | omega | (simp only [maxLen, List.length_replicate, eq_self, true_and, and_true, and_self, avs_len, List.length_map, List.length_append, List.length_cons, List.length_nil, List.length_set, List.length_range, List.length_take, List.length_drop] <;> omega) | rfl | fail) only [sT_move, sT_assign, sT_bin, sT_nil, oK_some, Option.map_some, binF_v, v_add, ↓reduceIte, eq_self, frL_get, frL_put, evalA_tmp, evalA_const, Nat.reduceEqDiff]
                    refine hK31 _ _ ⟨_, _, _, ?_, ⟨1, by omega, rfl, rfl, rfl⟩, ?_⟩
                    · first | omega | (simp only [List.length_cons]; omega) | (dsimp only; omega)
                    · refine Rt.trans (Rt.gc (keep := [0,1]) (by decide) (by simp [])) ?_
                      refine Rt.end (less_cons (less_cons (less_cons (less_cons (less_cons (less_nil _) (by first | rfl | (simp [Fr.put, frL, gcV, fzV, posN, iD, bD, uD, oD, intsD, boolsD, bytesD, intssD, bytessD, numK]; done) | simp [Fr.put, frL, gcV, fzV, posN, iD, bD, uD, oD, intsD, boolsD, bytesD, intssD, bytessD, numK, *])) (by first | rfl | (simp [Fr.put, frL, gcV, fzV, posN, iD, bD, uD, oD, intsD, boolsD, bytesD, intssD, bytessD, numK]; done) | simp [Fr.put, frL, gcV, fzV, posN, iD, bD, uD, oD, intsD, boolsD, bytesD, intssD, bytessD, numK, *])) (by first | rfl | (simp [frL, gcV, iD, numK]; done) | simp [frL, gcV, iD, numK, *])) (by first | rfl | (simp [Fr.put, frL, gcV, fzV, posN, iD, bD, uD, oD, intsD, boolsD, bytesD, intssD, bytessD, numK]; done) | simp [Fr.put, frL, gcV, fzV, posN, iD, bD, uD, oD, intsD, boolsD, bytesD, intssD, bytessD, numK, *])) (by first | rfl | (simp [Fr.put, frL, gcV, fzV, posN, iD, bD, uD, oD, intsD, boolsD, bytesD, intssD, bytessD, numK]; done) | simp [Fr.put, frL, gcV, fzV, posN, iD, bD, uD, oD, intsD, boolsD, bytesD, intssD, bytessD, numK, *])) ?_
                      first | rfl | (simp only [intsD, boolsD, bytesD, intssD, bytessD, gcH, gcO, gcVs_avs, gcVs, gcV, gcV_d, fzH, fzO, fzVs_avs, fzVs, fzV, posN, avs_nil, avs_cons, List.map_cons, List.map_nil, List.getD_cons_zero, List.getD_cons_succ, ↓reduceIte, Nat.reduceEqDiff, Option.map_some, List.set_cons_zero, List.set_cons_succ, takeD_avs, takeD_all, Nat.mul_one, List.length_map, List.cons_append, List.nil_append, gateC]; first | done | rfl)
                  · refine awp_skip (hK28 _ _ ?_)
                    refine awp_s KT_ok hc rfl fun K32 hK32 => ?_
                    simp -dsimp -implicitDefEqProofs (disch := first | omega | (simp only [maxLen, List.length_replicate, eq_self, true_and, and_true, and_self, avs_len, List.length_map, List.length_append, List.length_cons, List.length_nil, List.length_set, List.length_range, List.length_take, List.length_drop] <;> omega) | rfl | fail) only [sT_move, sT_assign, sT_bin, sT_nil, oK_some, Option.map_some, binF_v, v_add, ↓reduceIte, eq_self, frL_get, frL_put, evalA_tmp, evalA_const, Nat.reduceEqDiff]
                    refine hK32 _ _ ⟨_, _, _, ?_, ⟨1, by omega, rfl, rfl, rfl⟩, ?_⟩
                    · first | omega | (simp only [List.length_cons]; omega) | (dsimp only; omega)
                    · refine Rt.trans (Rt.gc (keep := [0,1]) (by decide) (by simp [])) ?_
                      refine Rt.end (less_cons (less_cons (less_cons (less_cons (less_cons (less_nil _) (by first | rfl | (simp [Fr.put, frL, gcV, fzV, posN, iD, bD, uD, oD, intsD, boolsD, bytesD, intssD, bytessD, numK]; done) | simp [Fr.put, frL, gcV, fzV, posN, iD, bD, uD, oD, intsD, boolsD, bytesD, intssD, bytessD, numK, *])) (by first | rfl | (simp [Fr.put, frL, gcV, fzV, posN, iD, bD, uD, oD, intsD, boolsD, bytesD, intssD, bytessD, numK]; done) | simp [Fr.put, frL, gcV, fzV, posN, iD, bD, uD, oD, intsD, boolsD, bytesD, intssD, bytessD, numK, *])) (by first | rfl | (simp [frL, gcV, iD, numK]; done) | simp [frL, gcV, iD, numK, *])) (by first | rfl | (simp [Fr.put, frL, gcV, fzV, posN, iD, bD, uD, oD, intsD, boolsD, bytesD, intssD, bytessD, numK]; done) | simp [Fr.put, frL, gcV, fzV, posN, iD, bD, uD, oD, intsD, boolsD, bytesD, intssD, bytessD, numK, *])) (by first | rfl | (simp [Fr.put, frL, gcV, fzV, posN, iD, bD, uD, oD, intsD, boolsD, bytesD, intssD, bytessD, numK]; done) | simp [Fr.put, frL, gcV, fzV, posN, iD, bD, uD, oD, intsD, boolsD, bytesD, intssD, bytessD, numK, *])) ?_
                      first | rfl | (simp only [intsD, boolsD, bytesD, intssD, bytessD, gcH, gcO, gcVs_avs, gcVs, gcV, gcV_d, fzH, fzO, fzVs_avs, fzVs, fzV, posN, avs_nil, avs_cons, List.map_cons, List.map_nil, List.getD_cons_zero, List.getD_cons_succ, ↓reduceIte, Nat.reduceEqDiff, Option.map_some, List.set_cons_zero, List.set_cons_succ, takeD_avs, takeD_all, Nat.mul_one, List.length_map, List.cons_append, List.nil_append, gateC]; first | done | rfl)
                · simp -dsimp -implicitDefEqProofs (disch := first | omega | (simp only [maxLen, List.length_replicate, eq_self, true_and, and_true, and_self, avs_len, List.length_map, List.length_append, List.length_cons, List.length_nil, List.length_set, List.length_range, List.length_take, List.length_drop] <;> omega) | rfl | fail) only [sT_move, sT_load, sT_ia, sT_nil, oK_some, loadF, ixO, indexAddrF, ↓reduceIte, Bool.false_eq_true, eq_self, ifp, frL_get, frL_put, evalA_tmp, List.length_cons, List.length_nil, List.getElem?_cons_zero, List.getElem?_cons_succ, and_true, Int.toNat_natCast, Nat.mul_one, Nat.zero_add, Nat.reduceEqDiff, Nat.reduceAdd, eo_34, sz_4, ag_4]
                  refine hK29 _ _ ?_
                  refine awp_cond rfl (fun ht => ?_) (fun ht => ?_)
                  · refine awp_s KT_ok hc rfl fun K33 hK33 => ?_
                    simp -dsimp -implicitDefEqProofs (disch := first | omega | (simp only [maxLen, List.length_replicate, eq_self, true_and, and_true, and_self, avs_len, List.length_map, List.length_append, List.length_cons, List.length_nil, List.length_set, List.length_range, List.length_take, List.length_drop] <;> omega) | rfl | fail) only [sT_move, sT_assign, sT_bin, sT_conv, sT_nil, oK_some, Option.map_some, binF_v, convF, v_add, v_shl, ↓reduceIte, eq_self, frL_get, frL_put, evalA_tmp, evalA_const, Int.toNat_natCast, Nat.reduceEqDiff, w_u64, w2, ik_3, ik_116]
                    refine hK33 _ _ (hK28 _ _ ?_)
                    refine awp_s KT_ok hc rfl fun K34 hK34 => ?_
                    simp -dsimp -implicitDefEqProofs (disch := first | omega | (simp only [maxLen, List.length_replicate, eq_self, true_and, and_true, and_self, avs_len, List.length_map, List.length_append, List.length_cons, List.length_nil, List.length_set, List.length_range, List.length_take, List.length_drop] <;> omega) | rfl | fail) only [sT_move, sT_assign, sT_bin, sT_nil, oK_some, Option.map_some, binF_v, v_add, ↓reduceIte, eq_self, frL_get, frL_put, evalA_tmp, evalA_const, Nat.reduceEqDiff]
                    refine hK34 _ _ ⟨_, _, _, ?_, ⟨2, by omega, rfl, rfl, rfl⟩, ?_⟩
                    · first | omega | (simp only [List.length_cons]; omega) | (dsimp only; omega)
                    · refine Rt.trans (Rt.gc (keep := [0,1]) (by decide) (by simp [])) ?_
                      refine Rt.end (less_cons (less_cons (less_cons (less_cons (less_cons (less_nil _) (by first | rfl | (simp [Fr.put, frL, gcV, fzV, posN, iD, bD, uD, oD, intsD, boolsD, bytesD, intssD, bytessD, numK]; done) | simp [Fr.put, frL, gcV, fzV, posN, iD, bD, uD, oD, intsD, boolsD, bytesD, intssD, bytessD, numK, *])) (by first | rfl | (simp [Fr.put, frL, gcV, fzV, posN, iD, bD, uD, oD, intsD, boolsD, bytesD, intssD, bytessD, numK]; done) | simp [Fr.put, frL, gcV, fzV, posN, iD, bD, uD, oD, intsD, boolsD, bytesD, intssD, bytessD, numK, *])) (by first | rfl | (simp [frL, gcV, iD, numK]; done) | simp [frL, gcV, iD, numK, *])) (by first | rfl | (simp [Fr.put, frL, gcV, fzV, posN, iD, bD, uD, oD, intsD, boolsD, bytesD, intssD, bytessD, numK]; done) | simp [Fr.put, frL, gcV, fzV, posN, iD, bD, uD, oD, intsD, boolsD, bytesD, intssD, bytessD, numK, *])) (by first | rfl | (simp [Fr.put, frL, gcV, fzV, posN, iD, bD, uD, oD, intsD, boolsD, bytesD, intssD, bytessD, numK]; done) | simp [Fr.put, frL, gcV, fzV, posN, iD, bD, uD, oD, intsD, boolsD, bytesD, intssD, bytessD, numK, *])) ?_
                      first | rfl | (simp only [intsD, boolsD, bytesD, intssD, bytessD, gcH, gcO, gcVs_avs, gcVs, gcV, gcV_d, fzH, fzO, fzVs_avs, fzVs, fzV, posN, avs_nil, avs_cons, List.map_cons, List.map_nil, List.getD_cons_zero, List.getD_cons_succ, ↓reduceIte, Nat.reduceEqDiff, Option.map_some, List.set_cons_zero, List.set_cons_succ, takeD_avs, takeD_all, Nat.mul_one, List.length_map, List.cons_append, List.nil_append, gateC]; first | done | rfl)
                  · refine awp_skip (hK28 _ _ ?_)
                    refine awp_s KT_ok hc rfl fun K35 hK35 => ?_
                    simp -dsimp -implicitDefEqProofs (disch := first | omega | (simp only [maxLen, List.length_replicate, eq_self, true_and, and_true, and_self, avs_len, List.length_map, List.length_append, List.length_cons, List.length_nil, List.length_set, List.length_range, List.length_take, List.length_drop] <;> omega) | rfl | fail) only [sT_move, sT_assign, sT_bin, sT_nil, oK_some, Option.map_some, binF_v, v_add, ↓reduceIte, eq_self, frL_get, frL_put, evalA_tmp, evalA_const, Nat.reduceEqDiff]
                    refine hK35 _ _ ⟨_, _, _, ?_, ⟨2, by omega, rfl, rfl, rfl⟩, ?_⟩
                    · first | omega | (simp only [List.length_cons]; omega) | (dsimp only; omega)
                    · refine Rt.trans (Rt.gc (keep := [0,1]) (by decide) (by simp [])) ?_
                      refine Rt.end (less_cons (less_cons (less_cons (less_cons (less_cons (less_nil _) (by first | rfl | (simp [Fr.put, frL, gcV, fzV, posN, iD, bD, uD, oD, intsD, boolsD, bytesD, intssD, bytessD, numK]; done) | simp [Fr.put, frL, gcV, fzV, posN, iD, bD, uD, oD, intsD, boolsD, bytesD, intssD, bytessD, numK, *])) (by first | rfl | (simp [Fr.put, frL, gcV, fzV, posN, iD, bD, uD, oD, intsD, boolsD, bytesD, intssD, bytessD, numK]; done) | simp [Fr.put, frL, gcV, fzV, posN, iD, bD, uD, oD, intsD, boolsD, bytesD, intssD, bytessD, numK, *])) (by first | rfl | (simp [frL, gcV, iD, numK]; done) | simp [frL, gcV, iD, numK, *])) (by first | rfl | (simp [Fr.put, frL, gcV, fzV, posN, iD, bD, uD, oD, intsD, boolsD, bytesD, intssD, bytessD, numK]; done) | simp [Fr.put, frL, gcV, fzV, posN, iD, bD, uD, oD, intsD, boolsD, bytesD, intssD, bytessD, numK, *])) (by first | rfl | (simp [Fr.put, frL, gcV, fzV, posN, iD, bD, uD, oD, intsD, boolsD, bytesD, intssD, bytessD, numK]; done) | simp [Fr.put, frL, gcV, fzV, posN, iD, bD, uD, oD, intsD, boolsD, bytesD, intssD, bytessD, numK, *])) ?_
                      first | rfl | (simp only [intsD, boolsD, bytesD, intssD, bytessD, gcH, gcO, gcVs_avs, gcVs, gcV, gcV_d, fzH, fzO, fzVs_avs, fzVs, fzV, posN, avs_nil, avs_cons, List.map_cons, List.map_nil, List.getD_cons_zero, List.getD_cons_succ, ↓reduceIte, Nat.reduceEqDiff, Option.map_some, List.set_cons_zero, List.set_cons_succ, takeD_avs, takeD_all, Nat.mul_one, List.length_map, List.cons_append, List.nil_append, gateC]; first | done | rfl)
                · simp -dsimp -implicitDefEqProofs (disch := first | omega | (simp only [maxLen, List.length_replicate, eq_self, true_and, and_true, and_self, avs_len, List.length_map, List.length_append, List.length_cons, List.length_nil, List.length_set, List.length_range, List.length_take, List.length_drop] <;> omega) | rfl | fail) only [sT_move, sT_load, sT_ia, sT_nil, oK_some, loadF, ixO, indexAddrF, ↓reduceIte, Bool.false_eq_true, eq_self, ifp, frL_get, frL_put, evalA_tmp, List.length_cons, List.length_nil, List.getElem?_cons_zero, List.getElem?_cons_succ, and_true, Int.toNat_natCast, Nat.mul_one, Nat.zero_add, Nat.reduceEqDiff, Nat.reduceAdd, eo_34, sz_4, ag_4]
                  refine hK29 _ _ ?_
                  refine awp_cond rfl (fun ht => ?_) (fun ht => ?_)
                  · refine awp_s KT_ok hc rfl fun K36 hK36 => ?_
                    simp -dsimp -implicitDefEqProofs (disch := first | omega | (simp only [maxLen, List.length_replicate, eq_self, true_and, and_true, and_self, avs_len, List.length_map, List.length_append, List.length_cons, List.length_nil, List.length_set, List.length_range, List.length_take, List.length_drop] <;> omega) | rfl | fail) only [sT_move, sT_assign, sT_bin, sT_conv, sT_nil, oK_some, Option.map_some, binF_v, convF, v_add, v_shl, ↓reduceIte, eq_self, frL_get, frL_put, evalA_tmp, evalA_const, Int.toNat_natCast, Nat.reduceEqDiff, w_u64, w4, ik_3, ik_116]
                    refine hK36 _ _ (hK28 _ _ ?_)
                    refine awp_s KT_ok hc rfl fun K37 hK37 => ?_
                    simp -dsimp -implicitDefEqProofs (disch := first | omega | (simp only [maxLen, List.length_replicate, eq_self, true_and, and_true, and_self, avs_len, List.length_map, List.length_append, List.length_cons, List.length_nil, List.length_set, List.length_range, List.length_take, List.length_drop] <;> omega) | rfl | fail) only [sT_move, sT_assign, sT_bin, sT_nil, oK_some, Option.map_some, binF_v, v_add, ↓reduceIte, eq_self, frL_get, frL_put, evalA_tmp, evalA_const, Nat.reduceEqDiff]
                    refine hK37 _ _ ⟨_, _, _, ?_, ⟨3, by omega, rfl, rfl, rfl⟩, ?_⟩
                    · first | omega | (simp only [List.length_cons]; omega) | (dsimp only; omega)
                    · refine Rt.trans (Rt.gc (keep := [0,1]) (by decide) (by simp [])) ?_
                      refine Rt.end (less_cons (less_cons (less_cons (less_cons (less_cons (less_nil _) (by first | rfl | (simp [Fr.put, frL, gcV, fzV, posN, iD, bD, uD, oD, intsD, boolsD, bytesD, intssD, bytessD, numK]; done) | simp [Fr.put, frL, gcV, fzV, posN, iD, bD, uD, oD, intsD, boolsD, bytesD, intssD, bytessD, numK, *])) (by first | rfl | (simp [Fr.put, frL, gcV, fzV, posN, iD, bD, uD, oD, intsD, boolsD, bytesD, intssD, bytessD, numK]; done) | simp [Fr.put, frL, gcV, fzV, posN, iD, bD, uD, oD, intsD, boolsD, bytesD, intssD, bytessD, numK, *])) (by first | rfl | (simp [frL, gcV, iD, numK]; done) | simp [frL, gcV, iD, numK, *])) (by first | rfl | (simp [Fr.put, frL, gcV, fzV, posN, iD, bD, uD, oD, intsD, boolsD, bytesD, intssD, bytessD, numK]; done) | simp [Fr.put, frL, gcV, fzV, posN, iD, bD, uD, oD, intsD, boolsD, bytesD, intssD, bytessD, numK, *])) (by first | rfl | (simp [Fr.put, frL, gcV, fzV, posN, iD, bD, uD, oD, intsD, boolsD, bytesD, intssD, bytessD, numK]; done) | simp [Fr.put, frL, gcV, fzV, posN, iD, bD, uD, oD, intsD, boolsD, bytesD, intssD, bytessD, numK, *])) ?_
                      first | rfl | (simp only [intsD, boolsD, bytesD, intssD, bytessD, gcH, gcO, gcVs_avs, gcVs, gcV, gcV_d, fzH, fzO, fzVs_avs, fzVs, fzV, posN, avs_nil, avs_cons, List.map_cons, List.map_nil, List.getD_cons_zero, List.getD_cons_succ, ↓reduceIte, Nat.reduceEqDiff, Option.map_some, List.set_cons_zero, List.set_cons_succ, takeD_avs, takeD_all, Nat.mul_one, List.length_map, List.cons_append, List.nil_append, gateC]; first | done | rfl)
                  · refine awp_skip (hK28 _ _ ?_)
                    refine awp_s KT_ok hc rfl fun K38 hK38 => ?_
                    simp -dsimp -implicitDefEqProofs (disch := first | omega | (simp only [maxLen, List.length_replicate, eq_self, true_and, and_true, and_self, avs_len, List.length_map, List.length_append, List.length_cons, List.length_nil, List.length_set, List.length_range, List.length_take, List.length_drop] <;> omega) | rfl | fail) only [sT_move, sT_assign, sT_bin, sT_nil, oK_some, Option.map_some, binF_v, v_add, ↓reduceIte, eq_self, frL_get, frL_put, evalA_tmp, evalA_const, Nat.reduceEqDiff]
                    refine hK38 _ _ ⟨_, _, _, ?_, ⟨3, by omega, rfl, rfl, rfl⟩, ?_⟩
                    · first | omega | (simp only [List.length_cons]; omega) | (dsimp only; omega)
                    · refine Rt.trans (Rt.gc (keep := [0,1]) (by decide) (by simp [])) ?_
                      refine Rt.end (less_cons (less_cons (less_cons (less_cons (less_cons (less_nil _) (by first | rfl | (simp [Fr.put, frL, gcV, fzV, posN, iD, bD, uD, oD, intsD, boolsD, bytesD, intssD, bytessD, numK]; done) | simp [Fr.put, frL, gcV, fzV, posN, iD, bD, uD, oD, intsD, boolsD, bytesD, intssD, bytessD, numK, *])) (by first | rfl | (simp [Fr.put, frL, gcV, fzV, posN, iD, bD, uD, oD, intsD, boolsD, bytesD, intssD, bytessD, numK]; done) | simp [Fr.put, frL, gcV, fzV, posN, iD, bD, uD, oD, intsD, boolsD, bytesD, intssD, bytessD, numK, *])) (by first | rfl | (simp [frL, gcV, iD, numK]; done) | simp [frL, gcV, iD, numK, *])) (by first | rfl | (simp [Fr.put, frL, gcV, fzV, posN, iD, bD, uD, oD, intsD, boolsD, bytesD, intssD, bytessD, numK]; done) | simp [Fr.put, frL, gcV, fzV, posN, iD, bD, uD, oD, intsD, boolsD, bytesD, intssD, bytessD, numK, *])) (by first | rfl | (simp [Fr.put, frL, gcV, fzV, posN, iD, bD, uD, oD, intsD, boolsD, bytesD, intssD, bytessD, numK]; done) | simp [Fr.put, frL, gcV, fzV, posN, iD, bD, uD, oD, intsD, boolsD, bytesD, intssD, bytessD, numK, *])) ?_
                      first | rfl | (simp only [intsD, boolsD, bytesD, intssD, bytessD, gcH, gcO, gcVs_avs, gcVs, gcV, gcV_d, fzH, fzO, fzVs_avs, fzVs, fzV, posN, avs_nil, avs_cons, List.map_cons, List.map_nil, List.getD_cons_zero, List.getD_cons_succ, ↓reduceIte, Nat.reduceEqDiff, Option.map_some, List.set_cons_zero, List.set_cons_succ, takeD_avs, takeD_all, Nat.mul_one, List.length_map, List.cons_append, List.nil_append, gateC]; first | done | rfl)
              · have hk3 : k = 3 := by simp at ht; omega
                subst hk3
                refine awp_exit (hK24 _ _ ?_)
                have hr := num3_r (nth v g.a.toNat) (nth v g.b.toNat) (nth v g.c.toNat)
                rw [numK_3]
                refine awp_seq_se KT_ok hc mixed rfl (q := 0) (by kernel_rfl) (by kernel_rfl) fun K39 hK39 => ?_
                by_cases q1 : g.n / 8 < mems.length
                by_cases q2 : num3 (nth v g.a.toNat) (nth v g.b.toNat) (nth v g.c.toNat) < (nth mems (g.n / 8).toNat).length
                · simp -dsimp -implicitDefEqProofs (disch := first | omega | (simp only [maxLen, List.length_replicate, eq_self, true_and, and_true, and_self, avs_len, List.length_map, List.length_append, List.length_cons, List.length_nil, List.length_set, List.length_range, List.length_take, List.length_drop] <;> omega) | rfl | fail) only [sE_move, sE_assign, sE_pick, sE_load, sE_fa, sE_ia, sE_bin, sE_conv, sE_len, sE_nil, oK_some, gK_t, Option.map_some, Option.bind_some, loadF, fieldAddrF, ixO, indexAddrF, binF_v, convF, lenF, builtinF, v_quo, v_rem, v_eql, v_lss, v_shr, v_and, ↓reduceIte, Bool.false_eq_true, eq_self, ifp, guardA_some, guardV_t, frL_get, frL_put, evalA_tmp, evalA_const, List.map_cons, List.map_nil, List.length_cons, List.length_nil, List.getElem?_cons_zero, List.getElem?_cons_succ, List.append_nil, List.replicate_zero, Nat.mul_one, Nat.zero_add, Nat.reduceEqDiff, killAll, get_map, w_u64, iD, intsD, Nat.reduceAdd, sE_gg, q1, q2, decide_true, fo_72_4, sz_3, ag_3, ik_3, eo_30, sz_29, ag_29, eo_29, ik_116]
                  refine hK39 _ _ ?_
                  refine awp_ret ?_
                  show closeA _ _ = _
                  simp (disch := first | omega | (simp only [maxLen, List.length_replicate, eq_self, true_and, and_true, and_self, avs_len, List.length_map, List.length_append, List.length_cons, List.length_nil, List.length_set, List.length_range, List.length_take, List.length_drop] <;> omega) | rfl | fail) only [closeA, retV, deep_d, Nat.reduceAdd, Nat.zero_add, D.fix, frL_get, ↓reduceIte, Option.map_some, List.length_cons, List.length_nil, oD]
                  simp [opN, h7, readN, q1, q2, hasB]
                · simp -dsimp -implicitDefEqProofs (disch := first | omega | (simp only [maxLen, List.length_replicate, eq_self, true_and, and_true, and_self, avs_len, List.length_map, List.length_append, List.length_cons, List.length_nil, List.length_set, List.length_range, List.length_take, List.length_drop] <;> omega) | rfl | fail) only [sE_move, sE_assign, sE_pick, sE_load, sE_fa, sE_ia, sE_bin, sE_len, sE_nil, oK_some, gK_t, gK_f, Option.map_some, Option.bind_some, loadF, fieldAddrF, ixO, indexAddrF, binF_v, lenF, builtinF, v_quo, v_lss, ↓reduceIte, Bool.false_eq_true, eq_self, ifp, guardA_some, guardV_t, frL_get, frL_put, evalA_tmp, evalA_const, List.map_cons, List.map_nil, List.length_cons, List.length_nil, List.getElem?_cons_zero, List.getElem?_cons_succ, List.append_nil, List.replicate_zero, Nat.mul_one, Nat.zero_add, Nat.reduceEqDiff, killAll, get_map, intsD, Nat.reduceAdd, sE_gg, ly_move, ly_load, ly_fa, ly_ia, ly_bin, ly_conv, q1, q2, decide_true, decide_false, fo_72_4, sz_3, ag_3, eo_30, sz_29, ag_29, eo_29]
                  refine hK39 _ _ ?_
                  refine awp_ret ?_
                  show closeA _ _ = _
                  simp (disch := first | omega | (simp only [maxLen, List.length_replicate, eq_self, true_and, and_true, and_self, avs_len, List.length_map, List.length_append, List.length_cons, List.length_nil, List.length_set, List.length_range, List.length_take, List.length_drop] <;> omega) | rfl | fail) only [closeA, retV, deep_d, Nat.reduceAdd, Nat.zero_add, D.fix, frL_get, ↓reduceIte, Option.map_some, List.length_cons, List.length_nil, oD]
                  simp [opN, h7, readN, q1, q2, hasB]
                · have q2 := q1
                  simp -dsimp -implicitDefEqProofs (disch := first | omega | (simp only [maxLen, List.length_replicate, eq_self, true_and, and_true, and_self, avs_len, List.length_map, List.length_append, List.length_cons, List.length_nil, List.length_set, List.length_range, List.length_take, List.length_drop] <;> omega) | rfl | fail) only [sE_move, sE_assign, sE_pick, sE_load, sE_fa, sE_bin, sE_len, sE_nil, oK_some, gK_f, Option.map_some, Option.bind_some, loadF, fieldAddrF, binF_v, lenF, builtinF, v_quo, v_lss, ↓reduceIte, Bool.false_eq_true, eq_self, ifp, guardA_some, guardV_t, frL_get, frL_put, evalA_tmp, evalA_const, List.map_cons, List.map_nil, List.length_cons, List.length_nil, List.getElem?_cons_zero, List.getElem?_cons_succ, List.append_nil, List.replicate_zero, Nat.zero_add, Nat.reduceEqDiff, killAll, Nat.reduceAdd, sE_gg, ly_move, ly_load, ly_fa, ly_ia, ly_bin, ly_conv, ly_len, q1, decide_false, fo_72_4, sz_3, ag_3, eo_30]
                  refine hK39 _ _ ?_
                  refine awp_ret ?_
                  show closeA _ _ = _
                  simp (disch := first | omega | (simp only [maxLen, List.length_replicate, eq_self, true_and, and_true, and_self, avs_len, List.length_map, List.length_append, List.length_cons, List.length_nil, List.length_set, List.length_range, List.length_take, List.length_drop] <;> omega) | rfl | fail) only [closeA, retV, deep_d, Nat.reduceAdd, Nat.zero_add, D.fix, frL_get, ↓reduceIte, Option.map_some, List.length_cons, List.length_nil, oD]
                  simp [opN, h7, readN, q1]
end Go.Proofs.Ytfpcailbobjfnaa
