/- The reference's assignments, memories, shapes; equal diagrams. -/
import Derived.Test.YtgfnpfchdlcoeaaQ
import Derived.Test.YtgfnpfchdlcoeaaCq
set_option linter.unusedVariables false
set_option linter.unusedSimpArgs false
namespace Go.Proofs.Ytgfnpfchdlcoeaa
open Go Go.RowKit
theorem gcVs_app {keep : List Nat} {a : List D} {x : AV} : gcVs keep (avs a ++ [x]) = avs a ++ [gcV keep x] := by
  rw [gcVs_eq, List.map_append]
  congr 1
  rw [← gcVs_eq]; exact gcVs_avs
theorem fzVs_app {id : Nat} {l : List D} {a : List D} {x : AV} : fzVs id l (avs a ++ [x]) = avs a ++ [fzV id l x] := by
  rw [fzVs_eq, List.map_append]
  congr 1
  rw [← fzVs_eq]; exact fzVs_avs
theorem fz_all {id n : Nat} {l : List D} (h : l.length = n) : fzV id l (.os 1 id 0 n) = .d (.fs l n) := fzV_os (by rw [Nat.mul_one]; exact takeD_all h)
/-! ### Memories -/
def wrdA (l : List Bool) (base : Nat) : Nat → Nat
  | 0 => 0
  | b + 1 => wrdA l base b + if atB l (base + b) then 2 ^ b else 0
theorem wrd_lt (l : List Bool) (base : Nat) : ∀ b, wrdA l base b < 2 ^ b
  | 0 => by simp [wrdA]
  | b + 1 => by
    have := wrd_lt l base b
    have e : 2 ^ (b + 1) = 2 ^ b + 2 ^ b := by rw [Nat.pow_succ]; omega
    unfold wrdA
    split <;> omega
def memA (l : List Bool) (base : Nat) (p : Nat × Nat) : List Int := (List.range p.1).map fun j => (wrdA l (base + j * p.2) p.2 : Nat)
def memsA (base : Nat) (sh : Sh) (l : List Bool) : List (List Int) := (List.range sh.length).map fun i => memA l (firstN base sh i) (nth sh i)
set_option maxRecDepth 100000 in
set_option linter.unusedVariables false in
set_option maxHeartbeats 4000000 in
theorem mems_c (n : Net) (sh : Sh) (l : List Bool) (hsh : ShOk sh) (hl : l.length ≤ maxLen) (hi : n.ins.length ≤ 10000) : PCalls Try.prog 36 [netD n, shD sh, boolsD l] (.d (intssD (memsA n.ins.length sh l))) := by
  have hs8 := hsh.len
  refine pcalls_of0 (fn := Try.f36) (by kernel_rfl) Try.func36 rfl (Nat.le_of_ble_eq_true rfl) fun c hc hp => ?_
  refine awp_less (τ' := frL [(0, .d (netD n)), (1, .d (shD sh)), (2, .d (boolsD l))]) (less_cons (less_cons (less_cons (less_nil _) rfl) rfl) rfl) ?_
  refine awp_seq_s hp KT_ok hc rfl fun K1 hK1 => ?_
  simp -dsimp -implicitDefEqProofs (disch := first | assumption | omega | (simp [maxLen, avs_len, wires_len, shs_len] <;> omega) | decide) only [sT_assign, sT_box, deadH, sT_nil, oK_some, q_o, layF, ↓reduceIte, q_b, q_f, q_s, q_l, as_dagg, D.one, intsD, boolsD, deadH, netD, netC, wiresD, gatesD, shD]
  refine hK1 _ _ ?_
  refine awp_seq_s hp KT_ok hc rfl fun K2 hK2 => ?_
  simp -dsimp -implicitDefEqProofs (disch := first | assumption | omega | (simp [maxLen, avs_len, wires_len, shs_len] <;> omega) | decide) only [sT_assign, sT_bs, deadH, sT_nil, oK_some, q_o, layF, ↓reduceIte, q_b, ifp, q_f, q_s, q_l, List.replicate_zero, reps_def, q_a, q_n, deadH, mk_72]
  refine hK2 _ _ ?_
  refine awp_seq_s hp KT_ok hc rfl fun K3 hK3 => ?_
  simp -dsimp -implicitDefEqProofs (disch := first | assumption | omega | (simp [maxLen, avs_len, wires_len, shs_len] <;> omega) | decide) only [sT_assign, sT_load, sT_fa, sT_len, sT_nil, oK_some, q_o, loadF, fieldAddrF, lenF, builtinF, ↓reduceIte, q_b, ifp, q_f, q_s, q_l, q_n, Nat.reduceEqDiff, Nat.reduceAdd, fo_41_0, sz_38, ag_38, eo_38]
  refine hK3 _ _ ?_
  refine awp_seq_k fun K4 hK4 => ?_
  refine awp_seq_s hp KT_ok hc rfl fun K5 hK5 => ?_
  simp -dsimp -implicitDefEqProofs (disch := first | assumption | omega | (simp [maxLen, avs_len, wires_len, shs_len] <;> omega) | decide) only [sT_assign, sT_nil, q_f]
  refine hK5 _ _ ?_
  refine awp_block ?_
  refine awp_loop_rt hp (fun τ' H' mm => ∃ (k : Nat), (k ≤ sh.length) ∧ mm = sh.length - k ∧ H' = [.cells (avs (((List.range k).map fun i => memA l (firstN n.ins.length sh i) (nth sh i)).map intsD))] ∧ τ' = frL [(1, .d (shD sh)), (2, .d (boolsD l)), (7, .os 1 0 0 k), (8, .d (iD (firstN n.ins.length sh k))), (9, .d (iD k))]) (sh.length) ?_ ⟨0, Nat.zero_le _, rfl, rfl, rfl⟩ ?_
  · refine Rt.trans (Rt.gc (keep := [1]) (by decide) (by decide) (by simp [])) ?_
    refine Rt.end (less_cons (less_cons (less_cons (less_cons (less_cons (less_nil _) rfl) rfl) rfl) rfl) rfl) ?_
    simp only [gcH, gcO_c, gcVs, List.map_cons, List.map_nil, List.getD_cons_zero, List.getD_cons_succ]; simp; rfl
  rintro τ' H' mm ⟨k, hk, rfl, rfl, rfl⟩
  refine awp_seq_k fun K6 hK6 => ?_
  refine awp_seq_s hp KT_ok hc rfl fun K7 hK7 => ?_
  simp -dsimp -implicitDefEqProofs (disch := first | assumption | omega | (simp [maxLen, avs_len, wires_len, shs_len] <;> omega) | decide) only [sT_move, sT_bin, sT_len, sT_nil, oK_some, q_o, binF_v, lenF, builtinF, v_lss, ↓reduceIte, q_b, q_f, q_s, Nat.reduceEqDiff, iD, boolsD, shD, eo_32]
  refine hK7 _ _ ?_
  refine awp_cond rfl (fun ht => ?_) (fun ht => ?_)
  · have hlt : k < sh.length := by simp at ht; omega
    have fb := first_b (base := n.ins.length) hsh (k := k) (by omega)
    have hel := hsh.el k hlt
    have hmm := Nat.mul_le_mul hel.1 hel.2
    refine awp_skip (hK6 _ _ ?_)
    refine awp_seq_k fun K8 hK8 => ?_
    refine awp_block ?_
    refine awp_seq_s hp KT_ok hc rfl fun K9 hK9 => ?_
    simp -dsimp -implicitDefEqProofs (disch := first | assumption | omega | (simp [maxLen, avs_len, wires_len, shs_len] <;> omega) | decide) only [sT_assign, sT_bs, deadH, sT_nil, oK_some, q_o, layF, ↓reduceIte, q_b, ifp, q_f, q_s, q_l, List.replicate_zero, reps_def, q_a, q_n, deadH, mk_29]
    refine hK9 _ _ ?_
    refine awp_seq_k fun K10 hK10 => ?_
    refine awp_seq_s hp KT_ok hc rfl fun K11 hK11 => ?_
    simp -dsimp -implicitDefEqProofs (disch := first | assumption | omega | (simp [maxLen, avs_len, wires_len, shs_len] <;> omega) | decide) only [sT_assign, sT_nil, q_f]
    refine hK11 _ _ ?_
    refine awp_block ?_
    refine awp_loop_rt hp (fun τ' H' mm => ∃ (j : Nat), (j ≤ (nth sh k).1) ∧ mm = (nth sh k).1 - j ∧ H' = [.cells (avs (((List.range k).map fun i => memA l (firstN n.ins.length sh i) (nth sh i)).map intsD)), .cells (avs (((List.range j).map fun j => ((wrdA l (firstN n.ins.length sh k + j * (nth sh k).2) (nth sh k).2 : Nat) : Int)).map iD))] ∧ τ' = frL [(1, .d (shD sh)), (2, .d (boolsD l)), (7, .os 1 0 0 k), (8, .d (iD ((firstN n.ins.length sh k + j * (nth sh k).2 : Nat) : Int))), (9, .d (iD k)), (10, .os 1 1 0 j), (11, .d (iD j))]) ((nth sh k).1) ?_ ⟨0, Nat.zero_le _, rfl, rfl, rfl⟩ ?_
    · refine Rt.end (less_cons (less_cons (less_cons (less_cons (less_cons (less_cons (less_cons (less_nil _) rfl) rfl) rfl) (by first | rfl | (simp [frL, iD]; done) | simp [Fr.put, frL, gcV, fzV, posN, iD, bD, uD, oD, intsD, boolsD, bytesD, intssD, bytessD, wires_len, shs_len, Int.add_assoc, *])) rfl) rfl) rfl) ?_
      first | rfl | (simp only [intsD, boolsD, bytesD, intssD, bytessD, gcH, gcO_c, gcO_de, gcO_fr, gc_m, fz_m, gcVs_avs, gcVs, gcV, gcV_d, fzH, fzO_c, fzO_de, fzO_fr, fzVs_avs, Nat.reduceAdd, fzVs, fzV, posN, avs_nil, avs_cons, List.map_cons, List.map_nil, List.getD_cons_zero, List.getD_cons_succ, ↓reduceIte, Nat.reduceEqDiff, Option.map_some, List.set_cons_zero, List.set_cons_succ, takeD_avs, takeD_all, Nat.mul_one, List.length_map, List.cons_append, List.nil_append, netD, netC, wiresD, gatesD, shD]; first | done | rfl)
    rintro τ' H' mm ⟨j, hj, rfl, rfl, rfl⟩
    refine awp_seq_k fun K12 hK12 => ?_
    refine awp_seq_s hp KT_ok hc rfl fun K13 hK13 => ?_
    simp -dsimp -implicitDefEqProofs (disch := first | assumption | omega | (simp [maxLen, avs_len, wires_len, shs_len] <;> omega) | decide) only [sT_move, sT_load, sT_ia, sT_bin, sT_nil, oK_some, q_o, loadF, ixO, indexAddrF, binF_v, v_lss, ↓reduceIte, q_b, ifp, q_f, Int.toNat_natCast, q_n, Nat.reduceEqDiff, iD, boolsD, Int.toNat_zero, shD, sh_0, eo_32, eo_84, sz_3, ag_3]
    refine hK13 _ _ ?_
    refine awp_cond rfl (fun ht => ?_) (fun ht => ?_)
    · have hjl : j < (nth sh k).1 := by simp at ht; omega
      have hjb := Nat.mul_le_mul (Nat.le_of_lt hjl) hel.2
      refine awp_skip (hK12 _ _ ?_)
      refine awp_seq_k fun K14 hK14 => ?_
      refine awp_block ?_
      refine awp_seq_s hp KT_ok hc rfl fun K15 hK15 => ?_
      simp -dsimp -implicitDefEqProofs (disch := first | assumption | omega | (simp [maxLen, avs_len, wires_len, shs_len] <;> omega) | decide) only [sT_assign, sT_nil, q_f]
      refine hK15 _ _ ?_
      refine awp_seq_k fun K16 hK16 => ?_
      refine awp_seq_s hp KT_ok hc rfl fun K17 hK17 => ?_
      simp -dsimp -implicitDefEqProofs (disch := first | assumption | omega | (simp [maxLen, avs_len, wires_len, shs_len] <;> omega) | decide) only [sT_assign, sT_nil, q_f]
      refine hK17 _ _ ?_
      refine awp_block ?_
      refine awp_loop_rt hp (fun τ' H' mm => ∃ (b : Nat), (b ≤ (nth sh k).2) ∧ mm = (nth sh k).2 - b ∧ H' = [.cells (avs (((List.range k).map fun i => memA l (firstN n.ins.length sh i) (nth sh i)).map intsD)), .cells (avs (((List.range j).map fun j => ((wrdA l (firstN n.ins.length sh k + j * (nth sh k).2) (nth sh k).2 : Nat) : Int)).map iD))] ∧ τ' = frL [(1, .d (shD sh)), (2, .d (boolsD l)), (7, .os 1 0 0 k), (8, .d (iD ((firstN n.ins.length sh k + j * (nth sh k).2 + b : Nat) : Int))), (9, .d (iD k)), (10, .os 1 1 0 j), (11, .d (iD j)), (12, .d (iD (wrdA l (firstN n.ins.length sh k + j * (nth sh k).2) b : Nat))), (13, .d (iD b))]) ((nth sh k).2) ?_ ⟨0, Nat.zero_le _, rfl, rfl, rfl⟩ ?_
      · refine Rt.end (less_cons (less_cons (less_cons (less_cons (less_cons (less_cons (less_cons (less_cons (less_cons (less_nil _) rfl) rfl) rfl) rfl) rfl) rfl) rfl) rfl) rfl) ?_
        first | rfl | (simp only [intsD, boolsD, bytesD, intssD, bytessD, gcH, gcO_c, gcO_de, gcO_fr, gc_m, fz_m, gcVs_avs, gcVs, gcV, gcV_d, fzH, fzO_c, fzO_de, fzO_fr, fzVs_avs, Nat.reduceAdd, fzVs, fzV, posN, avs_nil, avs_cons, List.map_cons, List.map_nil, List.getD_cons_zero, List.getD_cons_succ, ↓reduceIte, Nat.reduceEqDiff, Option.map_some, List.set_cons_zero, List.set_cons_succ, takeD_avs, takeD_all, Nat.mul_one, List.length_map, List.cons_append, List.nil_append, netD, netC, wiresD, gatesD, shD]; first | done | rfl)
      rintro τ' H' mm ⟨b, hb, rfl, rfl, rfl⟩
      refine awp_seq_k fun K18 hK18 => ?_
      refine awp_seq_s hp KT_ok hc rfl fun K19 hK19 => ?_
      simp -dsimp -implicitDefEqProofs (disch := first | assumption | omega | (simp [maxLen, avs_len, wires_len, shs_len] <;> omega) | decide) only [sT_move, sT_load, sT_ia, sT_bin, sT_nil, oK_some, q_o, loadF, ixO, indexAddrF, binF_v, v_lss, ↓reduceIte, q_b, ifp, q_f, Int.toNat_natCast, q_n, Nat.reduceEqDiff, iD, boolsD, Int.reduceToNat, shD, sh_1, eo_32, eo_84, sz_3, ag_3]
      refine hK19 _ _ ?_
      refine awp_cond rfl (fun ht => ?_) (fun ht => ?_)
      · have hbl : b < (nth sh k).2 := by simp at ht; omega
        refine awp_skip (hK18 _ _ ?_)
        refine awp_seq_k fun K20 hK20 => ?_
        refine awp_block ?_
        refine awp_seq_k fun K21 hK21 => ?_
        refine awp_seq_s hp KT_ok hc rfl fun K22 hK22 => ?_
        simp -dsimp -implicitDefEqProofs (disch := first | assumption | omega | (simp [maxLen, avs_len, wires_len, shs_len] <;> omega) | decide) only [sT_move, sT_call0, ↓reduceIte, q_b, q_f, q_s, q_l, q_n, Nat.reduceEqDiff, Nat.reduceAdd]
        have hb8 : b < 8 := by omega
        have hp2 : 2 ^ b ≤ 128 := by have : (2 : Nat) ^ b ≤ 2 ^ 7 := Nat.pow_le_pow_right (by decide) (by omega); omega
        have hwl := wrd_lt l (firstN n.ins.length sh k + j * (nth sh k).2) b
        have hw : IntKind.i64.wrap (1 * 2 ^ min b 64) = ((2 ^ b : Nat) : Int) := wrap_shl (a := 1) (by omega) (by omega) (by omega)
        have hu : IntKind.u64.wrap (b : Int) = b := w_u64 (by omega) (by omega)
        refine kc_by (at_c l (firstN n.ins.length sh k + j * (nth sh k).2 + b) hl (by omega)) rfl ?_
        simp -dsimp -implicitDefEqProofs (disch := first | assumption | omega | (simp [maxLen, avs_len, wires_len, shs_len] <;> omega) | decide) only [sT_nil, q_f, oD]
        refine hK22 _ _ ?_
        refine awp_cond rfl (fun ht => ?_) (fun ht => ?_)
        · have hw1 : ((wrdA l (firstN n.ins.length sh k + j * (nth sh k).2) (b + 1) : Nat) : Int) = (wrdA l (firstN n.ins.length sh k + j * (nth sh k).2) b : Nat) + ((2 ^ b : Nat) : Int) := by rw [wrdA, if_pos ht]; push_cast; rfl
          refine awp_s hp KT_ok hc rfl fun K23 hK23 => ?_
          simp -dsimp -implicitDefEqProofs (disch := first | assumption | omega | (simp [maxLen, avs_len, wires_len, shs_len] <;> omega) | decide) only [sT_move, sT_assign, sT_bin, sT_conv, sT_nil, oK_some, q_o, binF_v, convF, v_add, v_shl, ↓reduceIte, q_b, q_f, Int.toNat_natCast, Nat.reduceEqDiff, hu, hw, ik_3, ik_78]
          refine hK23 _ _ (hK21 _ _ ?_)
          refine awp_s hp KT_ok hc rfl fun K24 hK24 => ?_
          simp -dsimp -implicitDefEqProofs (disch := first | assumption | omega | (simp [maxLen, avs_len, wires_len, shs_len] <;> omega) | decide) only [sT_move, sT_assign, sT_bin, sT_nil, oK_some, q_o, binF_v, v_add, ↓reduceIte, q_b, q_f, Nat.reduceEqDiff]
          refine hK24 _ _ (hK20 _ _ ?_)
          refine awp_s hp KT_ok hc rfl fun K25 hK25 => ?_
          simp -dsimp -implicitDefEqProofs (disch := first | assumption | omega | (simp [maxLen, avs_len, wires_len, shs_len] <;> omega) | decide) only [sT_move, sT_assign, sT_bin, sT_nil, oK_some, q_o, binF_v, v_add, ↓reduceIte, q_b, q_f, Nat.reduceEqDiff]
          refine hK25 _ _ ⟨_, _, _, ?_, ⟨b + 1, by omega, rfl, rfl, rfl⟩, ?_⟩
          · first | omega | (simp only [List.length_cons]; omega) | (dsimp only; omega)
          · refine Rt.end (less_cons (less_cons (less_cons (less_cons (less_cons (less_cons (less_cons (less_cons (less_cons (less_nil _) rfl) (by first | rfl | (simp [frL, iD]; done) | simp [frL, iD, *])) rfl) rfl) rfl) rfl) rfl) rfl) rfl) ?_
            first | rfl | (simp only [intsD, boolsD, bytesD, intssD, bytessD, gcH, gcO_c, gcO_de, gcO_fr, gc_m, fz_m, gcVs_avs, gcVs, gcV, gcV_d, fzH, fzO_c, fzO_de, fzO_fr, fzVs_avs, Nat.reduceAdd, fzVs, fzV, posN, avs_nil, avs_cons, List.map_cons, List.map_nil, List.getD_cons_zero, List.getD_cons_succ, ↓reduceIte, Nat.reduceEqDiff, Option.map_some, List.set_cons_zero, List.set_cons_succ, takeD_avs, takeD_all, Nat.mul_one, List.length_map, List.cons_append, List.nil_append, netD, netC, wiresD, gatesD, shD]; first | done | rfl)
        · have hw1 : wrdA l (firstN n.ins.length sh k + j * (nth sh k).2) (b + 1) = wrdA l (firstN n.ins.length sh k + j * (nth sh k).2) b := by rw [wrdA, if_neg (by rw [ht]; decide)]; rfl
          refine awp_skip (hK21 _ _ ?_)
          refine awp_s hp KT_ok hc rfl fun K26 hK26 => ?_
          simp -dsimp -implicitDefEqProofs (disch := first | assumption | omega | (simp [maxLen, avs_len, wires_len, shs_len] <;> omega) | decide) only [sT_move, sT_assign, sT_bin, sT_nil, oK_some, q_o, binF_v, v_add, ↓reduceIte, q_b, q_f, Nat.reduceEqDiff]
          refine hK26 _ _ (hK20 _ _ ?_)
          refine awp_s hp KT_ok hc rfl fun K27 hK27 => ?_
          simp -dsimp -implicitDefEqProofs (disch := first | assumption | omega | (simp [maxLen, avs_len, wires_len, shs_len] <;> omega) | decide) only [sT_move, sT_assign, sT_bin, sT_nil, oK_some, q_o, binF_v, v_add, ↓reduceIte, q_b, q_f, Nat.reduceEqDiff]
          refine hK27 _ _ ⟨_, _, _, ?_, ⟨b + 1, by omega, rfl, rfl, rfl⟩, ?_⟩
          · first | omega | (simp only [List.length_cons]; omega) | (dsimp only; omega)
          · refine Rt.end (less_cons (less_cons (less_cons (less_cons (less_cons (less_cons (less_cons (less_cons (less_cons (less_nil _) rfl) (by first | rfl | (simp [frL, iD]; done) | simp [frL, iD, *])) rfl) rfl) rfl) rfl) rfl) rfl) rfl) ?_
            first | rfl | (simp only [intsD, boolsD, bytesD, intssD, bytessD, gcH, gcO_c, gcO_de, gcO_fr, gc_m, fz_m, gcVs_avs, gcVs, gcV, gcV_d, fzH, fzO_c, fzO_de, fzO_fr, fzVs_avs, Nat.reduceAdd, fzVs, fzV, posN, avs_nil, avs_cons, List.map_cons, List.map_nil, List.getD_cons_zero, List.getD_cons_succ, ↓reduceIte, Nat.reduceEqDiff, Option.map_some, List.set_cons_zero, List.set_cons_succ, takeD_avs, takeD_all, Nat.mul_one, List.length_map, List.cons_append, List.nil_append, netD, netC, wiresD, gatesD, shD]; first | done | rfl)
      · have hbe : b = (nth sh k).2 := by simp at ht; omega
        have hs1 : firstN n.ins.length sh k + (j + 1) * (nth sh k).2 = firstN n.ins.length sh k + j * (nth sh k).2 + (nth sh k).2 := by rw [Nat.succ_mul]; omega
        refine awp_exit (hK16 _ _ ?_)
        refine awp_s hp KT_ok hc rfl fun K28 hK28 => ?_
        simp -dsimp -implicitDefEqProofs (disch := first | assumption | omega | (simp [maxLen, avs_len, wires_len, shs_len] <;> omega) | decide) only [sT_move, sT_assign, sT_bs, sT_app, deadH, sT_nil, oK_some, q_o, layF, srcF, ↓reduceIte, q_b, ifp, ifn, q_f, q_s, q_l, List.append_nil, List.replicate_zero, List.replicate_succ, reps_def, q_a, fill_cons, q_n, Nat.reduceEqDiff, avs_len, avs_app1, takeD_all, List.drop_zero, Nat.reduceAdd, deadH, List.length_map, mk_29]
        refine hK28 _ _ (hK14 _ _ ?_)
        refine awp_s hp KT_ok hc rfl fun K29 hK29 => ?_
        simp -dsimp -implicitDefEqProofs (disch := first | assumption | omega | (simp [maxLen, avs_len, wires_len, shs_len] <;> omega) | decide) only [sT_move, sT_assign, sT_bin, sT_nil, oK_some, q_o, binF_v, v_add, ↓reduceIte, q_b, q_f, Nat.reduceEqDiff]
        refine hK29 _ _ ⟨_, _, _, ?_, ⟨j + 1, by omega, rfl, rfl, rfl⟩, ?_⟩
        · first | omega | (simp only [List.length_cons]; omega) | (dsimp only; omega)
        · refine Rt.trans (Rt.gc (keep := [0,3]) (by decide) (by decide) (by simp [])) ?_
          refine Rt.end (less_cons (less_cons (less_cons (less_cons (less_cons (less_cons (less_cons (less_nil _) rfl) rfl) rfl) (by first | rfl | (simp [frL, gcV, iD, Int.add_assoc]; done) | simp [frL, gcV, iD, Int.add_assoc, *])) rfl) rfl) rfl) ?_
          simp only [gcH, gcO_c, gcVs_avs, List.map_cons, List.map_nil, List.getD_cons_zero, List.getD_cons_succ]; rw [range_s, hbe]; simp [iD]
    · have hje : j = (nth sh k).1 := by simp at ht; omega
      have hs1 : firstN n.ins.length sh (k + 1) = firstN n.ins.length sh k + j * (nth sh k).2 := by rw [first_succ hlt, hje]
      refine awp_exit (hK10 _ _ ?_)
      refine awp_s hp KT_ok hc rfl fun K30 hK30 => ?_
      simp -dsimp -implicitDefEqProofs (disch := first | assumption | omega | (simp [maxLen, avs_len, wires_len, shs_len] <;> omega) | decide) only [sT_move, sT_assign, sT_bs, sT_app, deadH, sT_nil, oK_some, q_o, layF, srcF, ↓reduceIte, q_b, ifp, ifn, q_f, q_s, q_l, List.replicate_zero, List.replicate_succ, reps_def, q_a, fill_cons, as_os, q_n, Nat.reduceEqDiff, avs_len, takeD_all, List.drop_zero, Nat.reduceAdd, deadH, List.length_map, mk_72]
      refine hK30 _ _ (hK8 _ _ ?_)
      refine awp_s hp KT_ok hc rfl fun K31 hK31 => ?_
      simp -dsimp -implicitDefEqProofs (disch := first | assumption | omega | (simp [maxLen, avs_len, wires_len, shs_len] <;> omega) | decide) only [sT_move, sT_assign, sT_bin, sT_nil, oK_some, q_o, binF_v, v_add, ↓reduceIte, q_b, q_f, Nat.reduceEqDiff]
      refine hK31 _ _ ⟨_, _, _, ?_, ⟨k + 1, by omega, rfl, rfl, rfl⟩, ?_⟩
      · first | omega | (simp only [List.length_cons]; omega) | (dsimp only; omega)
      · refine Rt.trans (Rt.fz (id := 1) rfl) ?_
        refine Rt.trans (Rt.gc (keep := [3]) (by decide) (by decide) (by simp [fzH])) ?_
        refine Rt.end (less_cons (less_cons (less_cons (less_cons (less_cons (less_nil _) rfl) (by first | rfl | (simp [frL, gcV, fzV, iD]; done) | simp [frL, gcV, fzV, iD, *])) rfl) rfl) rfl) ?_
        simp only [gcH, gcO_c, fzH, fzO_c, fzO_de, fzVs, fzV, List.map_cons, List.map_nil, List.getD_cons_zero, List.getD_cons_succ, ↓reduceIte, List.set_cons_zero, List.set_cons_succ, Nat.mul_one]; rw [range_s]; simp only [fzVs_app, gcVs_app, memA, hje, intsD, List.map_append, List.map_cons, List.map_nil]; simp (disch := simp) only [fz_all, gcV_d, avs_app1, List.append_nil, List.length_map, List.length_range]
  · have hke : k = sh.length := by simp at ht; omega
    have hml : (memsA n.ins.length sh l).length = sh.length := by simp [memsA]
    refine awp_exit (hK4 _ _ ?_)
    refine awp_seq_s hp KT_ok hc rfl fun K32 hK32 => ?_
    simp -dsimp -implicitDefEqProofs (disch := first | assumption | omega | (simp [maxLen, avs_len, wires_len, shs_len] <;> omega) | decide) only [sT_move, sT_assign, sT_nil, ↓reduceIte, q_b, q_f, Nat.reduceEqDiff]
    refine hK32 _ _ ?_
    refine awp_ret ?_
    show closeA _ _ = _
    simp (disch := first | assumption | omega | (simp [maxLen, avs_len, wires_len, shs_len] <;> omega) | decide) only [closeA, retV, deepL_avs, lookH_eq, cellsOf_c, deep_os, Nat.zero_add, takeD_all, fixm_is, frL_get, ↓reduceIte, Option.map_some, Option.bind_some, Nat.mul_one, List.getElem?_cons_zero, List.length_cons, List.length_nil, intssD]
    subst hke
    rw [hml]; rfl
end Go.Proofs.Ytgfnpfchdlcoeaa
