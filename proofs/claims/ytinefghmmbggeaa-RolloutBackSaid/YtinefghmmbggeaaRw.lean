/- The law RolloutBack: the order. -/
import Derived.Test.YtinefghmmbggeaaQ
import Derived.Test.YtinefghmmbggeaaRv
set_option linter.unusedVariables false
set_option linter.unusedSimpArgs false
namespace Go.Proofs.Ytinefghmmbggeaa
open Go Go.RowKit
def atI (b : List Int) (k : Nat) : Int := if k < b.length then nth b k % ((k : Int) + 1) else 0
def ordL (b : List Int) : Nat → List Int
  | 0 => []
  | k + 1 => (ordL b k).take (atI b k).toNat ++ [(k : Int)] ++ (ordL b k).drop (atI b k).toNat
theorem ord_len (b : List Int) : ∀ k, (ordL b k).length = k
  | 0 => rfl
  | k + 1 => by
    have := ord_len b k
    unfold ordL
    simp; omega
theorem mem_ord {b : List Int} {x : Int} : ∀ {k : Nat}, x ∈ ordL b k ↔ 0 ≤ x ∧ x < k
  | 0 => ⟨fun h => (by cases h), fun h => by have := h.1; have := h.2; omega⟩
  | k + 1 => by
    have ih := mem_ord (b := b) (x := x) (k := k)
    have e : x ∈ ordL b k ↔ x ∈ (ordL b k).take (atI b k).toNat ∨ x ∈ (ordL b k).drop (atI b k).toNat := by
      rw [← List.mem_append, List.take_append_drop]
    unfold ordL
    rw [List.mem_append, List.mem_append, List.mem_singleton]
    constructor
    · rintro ((h | h) | h)
      · have := ih.1 (e.2 (.inl h)); omega
      · omega
      · have := ih.1 (e.2 (.inr h)); omega
    · intro h
      by_cases hx : x = k
      · exact .inl (.inr hx)
      · rcases e.1 (ih.2 ⟨h.1, by omega⟩) with h | h
        · exact .inl (.inl h)
        · exact .inr h
set_option maxRecDepth 100000 in
set_option linter.unusedVariables false in
set_option maxHeartbeats 4000000 in
theorem order_c (n : Nat) (b : List Int) (hn : n ≤ 64) (hb : b.length ≤ maxLen ∧ ∀ n ∈ b, B8 n) : PCalls Try.prog 32 [iD n, bytesD b] (.d (intsD (ordL b n))) := by
  refine pcalls_of0 (fn := Try.f32) (by kernel_rfl) Try.func32 rfl (Nat.le_of_ble_eq_true rfl) fun c hc hp => ?_
  refine awp_less (τ' := frL [(0, .d (iD n)), (1, .d (bytesD b))]) (less_cons (less_cons (less_nil _) rfl) rfl) ?_
  have hb1 := hb.1
  refine awp_seq_s KT_ok hc rfl fun K1 hK1 => ?_
  simp -dsimp -implicitDefEqProofs (disch := first | assumption | omega | (simp [maxLen, avs_len] <;> omega) | decide) only [sT_assign, sT_nil, q_f, iD, bytesD, bytesD]
  refine hK1 _ _ ?_
  refine awp_seq_s KT_ok hc rfl fun K2 hK2 => ?_
  simp -dsimp -implicitDefEqProofs (disch := first | assumption | omega | (simp [maxLen, avs_len] <;> omega) | decide) only [sT_assign, sT_bs, deadH, sT_nil, oK_some, q_o, layF, ↓reduceIte, q_b, ifp, q_f, q_s, q_l, List.replicate_zero, reps_def, q_a, q_n, deadH, mk_27]
  refine hK2 _ _ ?_
  refine awp_seq_k fun K3 hK3 => ?_
  refine awp_seq_s KT_ok hc rfl fun K4 hK4 => ?_
  simp -dsimp -implicitDefEqProofs (disch := first | assumption | omega | (simp [maxLen, avs_len] <;> omega) | decide) only [sT_assign, sT_nil, q_f]
  refine hK4 _ _ ?_
  refine awp_block ?_
  refine awp_loop_rt hp (fun τ' H' mm => ∃ k, (k ≤ n) ∧ mm = 100 - k ∧ H' = [] ∧ τ' = frL [(0, .d (iD n)), (1, .d (bytesD b)), (5, .d (intsD (ordL b k))), (6, .d (iD k))]) (100) ?_ ⟨0, Nat.zero_le _, rfl, rfl, rfl⟩ ?_
  · refine Rt.trans (Rt.fz (id := 0) (l := []) rfl) ?_
    refine Rt.trans (Rt.slot 5 (fzV_os (takeD_all (by simp)))) ?_
    refine Rt.trans (Rt.gc (keep := []) (by decide) (by simp [fzH])) ?_
    refine Rt.end (less_cons (less_cons (less_cons (less_cons (less_nil _) rfl) rfl) rfl) rfl) ?_
    first | rfl | (simp only [intsD, boolsD, bytesD, intssD, bytessD, gcH, gcO, gcVs_avs, gcVs, gcV, gcV_d, fzH, fzO, fzVs_avs, fzVs, fzV, posN, avs_nil, avs_cons, List.map_cons, List.map_nil, List.getD_cons_zero, List.getD_cons_succ, ↓reduceIte, Nat.reduceEqDiff, Option.map_some, List.set_cons_zero, List.set_cons_succ, takeD_avs, takeD_all, Nat.mul_one, List.length_map, List.cons_append, List.nil_append, bytesD, intsD]; first | done | rfl)
  rintro τ' H' mm ⟨k, hk, rfl, rfl, rfl⟩
  refine awp_seq_k fun K5 hK5 => ?_
  refine awp_seq_s KT_ok hc rfl fun K6 hK6 => ?_
  simp -dsimp -implicitDefEqProofs (disch := first | assumption | omega | (simp [maxLen, avs_len] <;> omega) | decide) only [sT_move, sT_bin, sT_nil, oK_some, q_o, binF_v, v_lss, ↓reduceIte, q_b, q_f, Nat.reduceEqDiff, iD, intsD, bytesD, bytesD, intsD]
  refine hK6 _ _ ?_
  refine awp_cond rfl (fun ht => ?_) (fun ht => ?_)
  · have hkn : k < n := by simpa using ht
    have hol := ord_len b k
    refine awp_skip (hK5 _ _ ?_)
    refine awp_seq_k fun K7 hK7 => ?_
    refine awp_block ?_
    refine awp_seq_s KT_ok hc rfl fun K8 hK8 => ?_
    simp -dsimp -implicitDefEqProofs (disch := first | assumption | omega | (simp [maxLen, avs_len] <;> omega) | decide) only [sT_assign, sT_nil, q_f]
    refine hK8 _ _ ?_
    refine awp_seq_k fun K9 hK9 => ?_
    have hJ9 : ∀ τ' H', (∃ τ1 H1, ∃ (a : Int), (0 ≤ a ∧ a ≤ k ∧ atI b k = a) ∧ H1 = [] ∧ τ1 = frL [(0, .d (iD n)), (1, .d (bytesD b)), (5, .d (intsD (ordL b k))), (6, .d (iD k)), (7, .d (iD a))] ∧ Rt τ' H' τ1 H1) → K9 τ' H' := by
      rintro τ' H' ⟨_, _, a, ⟨ha0, ha1, ha2⟩, rfl, rfl, hrt⟩
      refine hK9 _ _ (awp_rt hp hrt ?_)
      clear hrt
      have hL : List.take a.toNat (List.map iD (ordL b k)) ++ [D.val (Value.int IntKind.i64 (k : Int))] ++ List.take (((ordL b k).length : Int) - a).toNat (List.drop a.toNat (List.map iD (ordL b k))) = List.map iD (ordL b (k + 1)) := by
        rw [List.take_of_length_le (l := List.drop a.toNat (List.map iD (ordL b k))) (by simp; omega)]
        conv => rhs; unfold ordL
        rw [ha2, List.map_append, List.map_append, List.map_take, List.map_drop]; rfl
      have hl2 : a.toNat + 1 + (((ordL b k).length : Int) - a).toNat = (ordL b (k + 1)).length := by rw [ord_len, ord_len]; omega
      refine awp_se KT_ok hc mixed rfl (q := 5) (by kernel_rfl) (by kernel_rfl) fun K10 hK10 => ?_
      simp -dsimp -implicitDefEqProofs (disch := first | assumption | omega | (simp [maxLen, avs_len] <;> omega) | decide) only [sE_move, sE_assign, sE_slice, sE_bs, sE_app, sE_nil, oK_some, q_o, sliceF, layF, layEF, srcF, sb_none, sb_some, ↓reduceIte, q_b, ifp, ifn, q_f, q_s, q_l, List.append_nil, List.replicate_zero, List.replicate_succ, reps_def, q_a, fill_cons, and_true, q_n, Nat.reduceEqDiff, shB, appB, baseOk_dd, killAll, appSh, map_d, avs_len, avs_app, avs_app1, List.drop_zero, iD, intsD, bytesD, Nat.reduceAdd, layEF, frzF, datas, Int.sub_zero, Int.toNat_zero, Nat.reduceBNe, List.filterMap_nil, bytesD, intsD, baseOk_in, List.filterMap_cons, hL, hl2, eo_27, mk_27]
      refine hK10 _ _ (hK7 _ _ ?_)
      refine awp_s KT_ok hc rfl fun K11 hK11 => ?_
      simp -dsimp -implicitDefEqProofs (disch := first | assumption | omega | (simp [maxLen, avs_len] <;> omega) | decide) only [sT_move, sT_assign, sT_bin, sT_nil, oK_some, q_o, binF_v, v_add, ↓reduceIte, q_b, q_f, Nat.reduceEqDiff]
      refine hK11 _ _ ⟨_, _, _, ?_, ⟨k + 1, hkn, rfl, rfl, rfl⟩, ?_⟩
      · first | omega | (simp only [List.length_cons]; omega) | (dsimp only; omega)
      · refine Rt.trans (Rt.fz (id := 4) rfl) ?_
        refine Rt.trans (Rt.slot 5 (fzV_os (takeD_all (by simp [eq_self, List.length_map])))) ?_
        refine Rt.trans (Rt.gc (keep := []) (by decide) (by simp [fzH])) ?_
        refine Rt.end (less_cons (less_cons (less_cons (less_cons (less_nil _) rfl) rfl) rfl) rfl) ?_
        first | rfl | (simp only [intsD, boolsD, bytesD, intssD, bytessD, gcH, gcO, gcVs_avs, gcVs, gcV, gcV_d, fzH, fzO, fzVs_avs, fzVs, fzV, posN, avs_nil, avs_cons, List.map_cons, List.map_nil, List.getD_cons_zero, List.getD_cons_succ, ↓reduceIte, Nat.reduceEqDiff, Option.map_some, List.set_cons_zero, List.set_cons_succ, takeD_avs, takeD_all, Nat.mul_one, List.length_map, List.cons_append, List.nil_append, bytesD, intsD]; first | done | rfl)
    refine awp_seq_s KT_ok hc rfl fun K12 hK12 => ?_
    simp -dsimp -implicitDefEqProofs (disch := first | assumption | omega | (simp [maxLen, avs_len] <;> omega) | decide) only [sT_move, sT_bin, sT_len, sT_nil, oK_some, q_o, binF_v, lenF, builtinF, v_lss, ↓reduceIte, q_b, q_f, q_s, Nat.reduceEqDiff, eo_22]
    refine hK12 _ _ ?_
    refine awp_cond rfl (fun ht => ?_) (fun ht => ?_)
    · have hkb : k < b.length := by simpa using ht
      have hb2 := hb.2 _ (nth_mem hkb)
      have hb3 := hb2.1
      have hb4 := hb2.2
      have hn0 : 0 ≤ nth b k % ((k : Int) + 1) := Int.emod_nonneg _ (by omega)
      have hn1 : nth b k % ((k : Int) + 1) < (k : Int) + 1 := Int.emod_lt_of_pos _ (by omega)
      refine awp_s KT_ok hc rfl fun K13 hK13 => ?_
      simp -dsimp -implicitDefEqProofs (disch := first | assumption | omega | (simp [maxLen, avs_len] <;> omega) | decide) only [sT_move, sT_assign, sT_load, sT_ia, sT_bin, sT_conv, sT_nil, oK_some, q_o, loadF, ixO, indexAddrF, binF_v, convF, v_add, v_rem, ↓reduceIte, q_b, ifp, q_f, Int.toNat_natCast, q_n, Nat.reduceEqDiff, get_map, w_i64, bD, eo_22, sz_5, ag_5, ik_5, ik_3]
      refine hK13 _ _ (hJ9 _ _ ⟨_, _, nth b k % ((k : Int) + 1), ⟨hn0, by omega, by unfold atI; rw [if_pos hkb]⟩, rfl, rfl, ?_⟩)
      refine Rt.end (less_cons (less_cons (less_cons (less_cons (less_cons (less_nil _) rfl) rfl) rfl) rfl) rfl) ?_
      first | rfl | (simp only [intsD, boolsD, bytesD, intssD, bytessD, gcH, gcO, gcVs_avs, gcVs, gcV, gcV_d, fzH, fzO, fzVs_avs, fzVs, fzV, posN, avs_nil, avs_cons, List.map_cons, List.map_nil, List.getD_cons_zero, List.getD_cons_succ, ↓reduceIte, Nat.reduceEqDiff, Option.map_some, List.set_cons_zero, List.set_cons_succ, takeD_avs, takeD_all, Nat.mul_one, List.length_map, List.cons_append, List.nil_append, bytesD, intsD]; first | done | rfl)
    · have hkb : ¬ k < b.length := by simpa using ht
      refine awp_skip (hJ9 _ _ ⟨_, _, 0, ⟨by omega, by omega, by unfold atI; rw [if_neg hkb]⟩, rfl, rfl, ?_⟩)
      refine Rt.end (less_cons (less_cons (less_cons (less_cons (less_cons (less_nil _) rfl) rfl) rfl) rfl) rfl) ?_
      first | rfl | (simp only [intsD, boolsD, bytesD, intssD, bytessD, gcH, gcO, gcVs_avs, gcVs, gcV, gcV_d, fzH, fzO, fzVs_avs, fzVs, fzV, posN, avs_nil, avs_cons, List.map_cons, List.map_nil, List.getD_cons_zero, List.getD_cons_succ, ↓reduceIte, Nat.reduceEqDiff, Option.map_some, List.set_cons_zero, List.set_cons_succ, takeD_avs, takeD_all, Nat.mul_one, List.length_map, List.cons_append, List.nil_append, bytesD, intsD]; first | done | rfl)
  · obtain rfl : k = n := by
      have : ¬ k < n := by simpa using ht
      omega
    refine awp_exit (hK3 _ _ ?_)
    refine awp_seq_s KT_ok hc rfl fun K14 hK14 => ?_
    simp -dsimp -implicitDefEqProofs (disch := first | assumption | omega | (simp [maxLen, avs_len] <;> omega) | decide) only [sT_move, sT_assign, sT_nil, ↓reduceIte, q_b, q_f, Nat.reduceEqDiff]
    refine hK14 _ _ ?_
    refine awp_ret ?_
    show closeA _ _ = _
    simp (disch := first | assumption | omega | (simp [maxLen, avs_len] <;> omega) | decide) only [closeA, retV, deep_d, D.fix, frL_get, ↓reduceIte, Option.map_some, List.length_nil, intsD, intsD]
end Go.Proofs.Ytinefghmmbggeaa
