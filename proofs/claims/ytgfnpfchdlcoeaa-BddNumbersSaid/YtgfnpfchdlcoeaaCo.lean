/- Which diagrams are valid. -/
import Derived.Test.YtgfnpfchdlcoeaaQ
import Derived.Test.YtgfnpfchdlcoeaaCn
set_option linter.unusedVariables false
set_option linter.unusedSimpArgs false
namespace Go.Proofs.Ytgfnpfchdlcoeaa
open Go Go.RowKit
/-- A node as it comes. -/
structure NI where
  v : Int
  lo : Int
  hi : Int
deriving DecidableEq, Inhabited
def niC (n : NI) : List D := [iD n.v, iD n.lo, iD n.hi]
def niV (n : NI) : Value := .agg #[.int .i64 n.v, .int .i64 n.lo, .int .i64 n.hi]
def niA (n : NI) : List AV := [.d (iD n.v), .d (iD n.lo), .d (iD n.hi)]
theorem ni_w (n : NI) : (niC n).length = 3 := rfl
theorem ni_row {l : List NI} {k : Nat} (h : k < l.length) : takeD (l.flatMap niC) (k * 3) 3 = some (niC (nth l k)) := flat_row ni_w h
theorem ni_0 {l : List NI} {k : Nat} (h : k < l.length) : (l.flatMap niC)[k * 3]? = some (iD (nth l k).v) := (flat_get (j := 0) ni_w h (by omega)).trans rfl
theorem nis_len {l : List NI} : (l.flatMap niC).length = l.length * 3 := flat_len ni_w l
def bdiC (ns : List NI) (rs : List Int) : List D := [.fs (ns.flatMap niC) ns.length, .fs (rs.map iD) rs.length]
def bdiD (ns : List NI) (rs : List Int) : D := .agg (bdiC ns rs)
structure N64 (n : NI) : Prop where
  v : I64 n.v
  lo : I64 n.lo
  hi : I64 n.hi
def kB (ns : List NI) (i : Nat) (v k : Int) : Bool := decide (0 ≤ k) && (decide (k < i + 2) && (decide (k < 2) || decide (v < (nth ns (k - 2).toNat).v)))
def vB (ns : List NI) (i : Nat) : Bool := decide (0 ≤ (nth ns i).v) && (decide ((nth ns i).v ≤ 999) && (decide ((nth ns i).lo ≠ (nth ns i).hi) && (decide (nth ns i ∉ ns.take i) && (kB ns i (nth ns i).v (nth ns i).lo && kB ns i (nth ns i).v (nth ns i).hi))))
def rootB (c k : Int) : Bool := decide (0 ≤ k) && decide (k < c)
def validB (ns : List NI) (rs : List Int) : Bool := decide (ns.length ≤ 3000) && ((List.range ns.length).all (vB ns) && rs.all (rootB (2 + ns.length)))
theorem val_len {ns : List NI} {rs : List Int} (h : 3000 < ns.length) : validB ns rs = false := by unfold validB; rw [decide_eq_false (by omega)]; rfl
theorem val_vB {ns : List NI} {rs : List Int} {i : Nat} (hi : i < ns.length) (h : vB ns i = false) : validB ns rs = false := by
  unfold validB
  have : (List.range ns.length).all (vB ns) = false := by
    rw [List.all_eq_false]
    exact ⟨i, List.mem_range.2 hi, by simp [h]⟩
  rw [this]; simp
theorem val_all {ns : List NI} {rs : List Int} (h0 : ns.length ≤ 3000) (h : ∀ i, i < ns.length → vB ns i = true) : validB ns rs = rs.all (rootB (2 + ns.length)) := by
  unfold validB
  have : (List.range ns.length).all (vB ns) = true := List.all_eq_true.2 fun i hi => h i (List.mem_range.1 hi)
  rw [this, decide_eq_true h0]; rfl
theorem not_root (c k : Int) : (!rootB c k) = unkB c k := by
  unfold rootB unkB
  rw [Bool.eq_iff_iff]; simp <;> omega
theorem all_root (c : Int) (l : List Int) : l.all (rootB c) = !l.any (unkB c) := by
  rw [List.all_eq_not_any_not]
  congr 1
  exact congrArg (List.any l) (funext fun k => not_root c k)
set_option maxRecDepth 100000 in
set_option linter.unusedVariables false in
set_option maxHeartbeats 4000000 in
theorem vun_c (ns : List NI) (rs : List Int) (k : Int) (hl : ns.length ≤ 3000) : PCalls Try.prog 45 [iD k, .fp (bdiC ns rs) 0] (.d (oD (unkB (2 + ns.length) k))) := by
  refine pcalls_of0 (fn := Try.f45) (by kernel_rfl) Try.func45 rfl (Nat.le_of_ble_eq_true rfl) fun c hc hp => ?_
  refine awp_less (τ' := frL [(0, .d (iD k)), (1, .d (.fp (bdiC ns rs) 0))]) (less_cons (less_cons (less_nil _) rfl) rfl) ?_
  refine awp_seq_s hp KT_ok hc rfl fun K1 hK1 => ?_
  simp -dsimp -implicitDefEqProofs (disch := first | assumption | omega | (simp [maxLen, avs_len, nis_len] <;> omega) | decide) only [sT_assign, sT_nil, q_f, iD, bdiC]
  refine hK1 _ _ ?_
  refine awp_seq_s hp KT_ok hc rfl fun K2 hK2 => ?_
  rcases tf (decide (k < 0)) with q | q
  · simp -dsimp -implicitDefEqProofs (disch := first | assumption | omega | (simp [maxLen, avs_len, nis_len] <;> omega) | decide) only [sT_move, sT_assign, sT_pick, sT_bin, sT_nil, sT_g, oK_some, gK_f, q_o, binF_v, v_lss, ↓reduceIte, q_b, guardA_some, guardV_f, q_f, q_l, Nat.reduceEqDiff, q]
    refine hK2 _ _ ?_
    refine awp_ret ?_
    show closeA _ _ = _
    simp (disch := first | assumption | omega | (simp [maxLen, avs_len, nis_len] <;> omega) | decide) only [closeA, retV, deep_d, D.fix, frL_get, ↓reduceIte, Option.map_some, List.length_nil, oD]
    simp [unkB, q]
  · simp -dsimp -implicitDefEqProofs (disch := first | assumption | omega | (simp [maxLen, avs_len, nis_len] <;> omega) | decide) only [sT_move, sT_assign, sT_pick, sT_load, sT_fa, sT_bin, sT_len, sT_nil, sT_g, oK_some, gK_t, q_o, loadF, fieldAddrF, binF_v, lenF, builtinF, v_add, v_lss, v_geq, ↓reduceIte, q_b, guardA_some, guardV_f, q_f, q_s, q_l, q_n, Nat.reduceEqDiff, q, fo_31_0, sz_28, ag_28, eo_28]
    refine hK2 _ _ ?_
    refine awp_ret ?_
    show closeA _ _ = _
    simp (disch := first | assumption | omega | (simp [maxLen, avs_len, nis_len] <;> omega) | decide) only [closeA, retV, deep_d, D.fix, frL_get, ↓reduceIte, Option.map_some, List.length_nil, oD]
    simp [unkB, q]
abbrev vclo (ns : List NI) (rs : List Int) : D := .clo (.func 45) [] [.fp (bdiC ns rs) 0]
set_option maxRecDepth 100000 in
set_option linter.unusedVariables false in
set_option maxHeartbeats 4000000 in
theorem index_v (ns : List NI) (rs l : List Int) (hns : ns.length ≤ 3000) (hl : l.length ≤ maxLen) : RCalls Try.prog 66 [intsD l, vclo ns rs] (fun r => ∃ z : Int, r = .d (iD z) ∧ (0 ≤ z ↔ l.any (unkB (2 + ns.length)) = true)) := by
  unfold maxLen at hl
  refine rcalls_of0 (fn := Try.f66) (by kernel_rfl) Try.func66 rfl (Nat.le_of_ble_eq_true rfl) fun c hc hp => ?_
  refine awp_less (τ' := frL [(0, .d (intsD l)), (1, .d (vclo ns rs))]) (less_cons (less_cons (less_nil _) rfl) rfl) ?_
  refine awp_seq_s hp KT_ok hc rfl fun K1 hK1 => ?_
  simp -dsimp -implicitDefEqProofs (disch := first | assumption | omega | (simp [maxLen, avs_len] <;> omega) | decide) only [sT_assign, sT_nil, q_f, intsD]
  refine hK1 _ _ ?_
  refine awp_seq_k fun K2 hK2 => ?_
  refine awp_seq_s hp KT_ok hc rfl fun K3 hK3 => ?_
  simp -dsimp -implicitDefEqProofs (disch := first | assumption | omega | (simp [maxLen, avs_len] <;> omega) | decide) only [sT_move, sT_len, sT_nil, oK_some, q_o, lenF, builtinF, ↓reduceIte, q_b, q_f, q_s, Nat.reduceEqDiff, eo_29]
  refine hK3 _ _ ?_
  refine awp_block ?_
  refine awp_loop_rt hp (fun τ' H' mm => ∃ k, (k ≤ l.length ∧ (l.take k).any (unkB (2 + ns.length)) = false) ∧ mm = l.length - k ∧ H' = [] ∧ τ' = frL [(0, .d (intsD l)), (1, .d (vclo ns rs)), (7, .d (iD l.length)), (8, .d (iD k))]) (l.length) ?_ ⟨0, ⟨Nat.zero_le _, rfl⟩, rfl, rfl, rfl⟩ ?_
  · refine Rt.end (less_cons (less_cons (less_cons (less_cons (less_nil _) rfl) rfl) rfl) rfl) ?_
    first | rfl | (simp only [intsD, boolsD, bytesD, intssD, bytessD, gcH, gcO_c, gcO_de, gcO_fr, gc_m, fz_m, gcVs_avs, gcVs, gcV, gcV_d, fzH, fzO_c, fzO_de, fzO_fr, fzVs_avs, Nat.reduceAdd, fzVs, fzV, posN, avs_nil, avs_cons, List.map_cons, List.map_nil, List.getD_cons_zero, List.getD_cons_succ, ↓reduceIte, Nat.reduceEqDiff, Option.map_some, List.set_cons_zero, List.set_cons_succ, takeD_avs, takeD_all, Nat.mul_one, List.length_map, List.cons_append, List.nil_append]; first | done | rfl)
  rintro τ' H' mm ⟨k, ⟨hk, hno⟩, rfl, rfl, rfl⟩
  refine awp_seq_s hp KT_ok hc rfl fun K4 hK4 => ?_
  simp -dsimp -implicitDefEqProofs (disch := first | assumption | omega | (simp [maxLen, avs_len] <;> omega) | decide) only [sT_bin, sT_nil, oK_some, q_o, binF_v, v_lss, ↓reduceIte, q_b, q_f, Nat.reduceEqDiff, iD, intsD]
  refine hK4 _ _ ?_
  refine awp_seq_k fun K5 hK5 => ?_
  refine awp_cond rfl (fun ht => ?_) (fun ht => ?_)
  · have hlt : k < l.length := by simp at ht; omega
    refine awp_skip (hK5 _ _ ?_)
    refine awp_seq_k fun K6 hK6 => ?_
    refine awp_block ?_
    refine awp_seq_s hp KT_ok hc rfl fun K7 hK7 => ?_
    simp -dsimp -implicitDefEqProofs (disch := first | assumption | omega | (simp [maxLen, avs_len] <;> omega) | decide) only [sT_move, sT_assign, sT_nil, ↓reduceIte, q_b, q_f, Nat.reduceEqDiff]
    refine hK7 _ _ ?_
    refine awp_seq_s hp KT_ok hc rfl fun K8 hK8 => ?_
    simp -dsimp -implicitDefEqProofs (disch := first | assumption | omega | (simp [maxLen, avs_len] <;> omega) | decide) only [sT_move, sT_load, sT_ia, sT_callt, oK_some, q_o, loadF, ixO, indexAddrF, ↓reduceIte, q_b, ifp, q_f, q_s, q_l, Int.toNat_natCast, q_n, Nat.reduceEqDiff, get_map, iD, eo_29, sz_3, ag_3]
    refine kc_clod (fi := []) (ca := [.fp (bdiC ns rs) 0]) (ds := [iD (nth l k)]) (vun_c ns rs (nth l k) hns) rfl ?_
    simp -dsimp -implicitDefEqProofs (disch := first | assumption | omega | (simp [maxLen, avs_len] <;> omega) | decide) only [sT_nil, q_f, oD]
    refine hK8 _ _ ?_
    refine awp_cond rfl (fun ht => ?_) (fun ht => ?_)
    · have hy := ht
      refine awp_seq_s hp KT_ok hc rfl fun K9 hK9 => ?_
      simp -dsimp -implicitDefEqProofs (disch := first | assumption | omega | (simp [maxLen, avs_len] <;> omega) | decide) only [sT_move, sT_assign, sT_nil, ↓reduceIte, q_b, q_f, Nat.reduceEqDiff]
      refine hK9 _ _ ?_
      refine awp_ret ?_
      show ∃ r, closeA _ _ = some r ∧ _
      simp (disch := first | assumption | omega | (simp [maxLen, avs_len] <;> omega) | decide) only [closeA, retV, deep_d, D.fix, frL_get, ↓reduceIte, Option.map_some, List.length_nil, iD]
      exact ⟨_, rfl, _, rfl, fun _ => any_here hlt hy, fun _ => by omega⟩
    · refine awp_skip (hK6 _ _ ?_)
      refine awp_s hp KT_ok hc rfl fun K10 hK10 => ?_
      simp -dsimp -implicitDefEqProofs (disch := first | assumption | omega | (simp [maxLen, avs_len] <;> omega) | decide) only [sT_move, sT_bin, sT_nil, oK_some, q_o, binF_v, v_add, ↓reduceIte, q_b, q_f, Nat.reduceEqDiff]
      refine hK10 _ _ ⟨_, _, _, ?_, ⟨k + 1, ⟨by omega, by rw [any_step hlt, hno, ht]; rfl⟩, rfl, rfl, rfl⟩, ?_⟩
      · first | omega | (simp only [List.length_cons]; omega) | (dsimp only; omega)
      · refine Rt.end (less_cons (less_cons (less_cons (less_cons (less_nil _) rfl) rfl) rfl) rfl) ?_
        first | rfl | (simp only [intsD, boolsD, bytesD, intssD, bytessD, gcH, gcO_c, gcO_de, gcO_fr, gc_m, fz_m, gcVs_avs, gcVs, gcV, gcV_d, fzH, fzO_c, fzO_de, fzO_fr, fzVs_avs, Nat.reduceAdd, fzVs, fzV, posN, avs_nil, avs_cons, List.map_cons, List.map_nil, List.getD_cons_zero, List.getD_cons_succ, ↓reduceIte, Nat.reduceEqDiff, Option.map_some, List.set_cons_zero, List.set_cons_succ, takeD_avs, takeD_all, Nat.mul_one, List.length_map, List.cons_append, List.nil_append]; first | done | rfl)
  · have hge : k = l.length := by simp at ht; omega
    rw [hge, List.take_length] at hno
    refine awp_exit (hK2 _ _ ?_)
    refine awp_seq_s hp KT_ok hc rfl fun K11 hK11 => ?_
    simp -dsimp -implicitDefEqProofs (disch := first | assumption | omega | (simp [maxLen, avs_len] <;> omega) | decide) only [sT_assign, sT_nil, q_f]
    refine hK11 _ _ ?_
    refine awp_ret ?_
    show ∃ r, closeA _ _ = some r ∧ _
    simp (disch := first | assumption | omega | (simp [maxLen, avs_len] <;> omega) | decide) only [closeA, retV, deep_d, D.fix, frL_get, ↓reduceIte, Option.map_some, List.length_nil, iD]
    exact ⟨_, rfl, _, rfl, fun h => by omega, fun h => by rw [hno] at h; cases h⟩
set_option maxRecDepth 100000 in
set_option linter.unusedVariables false in
set_option maxHeartbeats 4000000 in
theorem contains_v (ns : List NI) (rs l : List Int) (hns : ns.length ≤ 3000) (hl : l.length ≤ maxLen) : PCalls Try.prog 44 [intsD l, vclo ns rs] (.d (oD (l.any (unkB (2 + ns.length))))) := by
  refine pcalls_of0 (fn := Try.f44) (by kernel_rfl) Try.func44 rfl (Nat.le_of_ble_eq_true rfl) fun c hc hp => ?_
  refine awp_less (τ' := frL [(0, .d (intsD l)), (1, .d (vclo ns rs))]) (less_cons (less_cons (less_nil _) rfl) rfl) ?_
  refine awp_seq_s hp KT_ok hc rfl fun K1 hK1 => ?_
  simp -dsimp -implicitDefEqProofs (disch := first | assumption | omega | (simp [maxLen, avs_len] <;> omega) | decide) only [sT_assign, sT_nil, q_f, intsD]
  refine hK1 _ _ ?_
  refine awp_seq_s hp KT_ok hc rfl fun K2 hK2 => ?_
  simp -dsimp -implicitDefEqProofs (disch := first | assumption | omega | (simp [maxLen, avs_len] <;> omega) | decide) only [sT_move, sT_call0, ↓reduceIte, q_b, q_f, q_s, q_l, Nat.reduceEqDiff]
  refine kc_rel (index_v ns rs l hns hl) rfl fun r hr => ?_
  obtain ⟨z, rfl, hz⟩ := hr
  simp -dsimp -implicitDefEqProofs (disch := first | assumption | omega | (simp [maxLen, avs_len] <;> omega) | decide) only [sT_assign, sT_bin, sT_nil, oK_some, q_o, binF_v, v_geq, ↓reduceIte, q_b, q_f, iD]
  refine hK2 _ _ ?_
  refine awp_ret ?_
  show closeA _ _ = _
  simp (disch := first | assumption | omega | (simp [maxLen, avs_len] <;> omega) | decide) only [closeA, retV, deep_d, D.fix, frL_get, ↓reduceIte, Option.map_some, List.length_nil, oD]
  congr 4
  rw [Bool.eq_iff_iff, decide_eq_true_iff]
  exact hz
/-! ### Nodes that were seen -/
abbrev tV : TypeId := 96
theorem mtV : mtB Try.prog KT tV = some (.bool false) := by kernel_rfl
theorem key_ni {n : NI} (h : N64 n) : KeyP Try.prog tV (niV n) := by
  obtain ⟨ha, hb, hc⟩ := h
  refine ⟨rfl, fun kt et hm => ?_⟩
  have h0 : mapO Try.prog tV = some (83, 4) := by kernel_rfl
  rw [h0] at hm; cases hm
  exact (key_nd ha hb hc).2 _ 3 (by kernel_rfl)
theorem niV_inj {m n : NI} (h : niV m = niV n) : m = n := by
  cases m; cases n
  simp only [niV, Value.agg.injEq, Array.mk.injEq, List.cons.injEq, Value.int.injEq, true_and, and_true] at h
  obtain ⟨rfl, rfl, rfl⟩ := h
  rfl
theorem niV_fold {n : NI} : Value.agg #[.int .i64 n.v, .int .i64 n.lo, .int .i64 n.hi] = niV n := rfl
structure SOk (ns : List NI) (μ : Mp) : Prop where
  ok : OkM Try.prog tV μ
  get : ∀ n, getM (niV n) μ = if n ∈ ns then some (.bool true) else none
theorem SOk.nil : SOk [] ([], 0) := ⟨OkM.nil _ _, fun n => rfl⟩
theorem SOk.add {ns : List NI} {μ : Mp} (h : SOk ns μ) {n : NI} (hn : N64 n) : SOk (ns ++ [n]) (putM (niV n) (.bool true) μ) := by
  refine ⟨h.ok.put (key_ni hn), fun m => ?_⟩
  classical
  rw [getM_put (rfl : vKey (niV n) = true) rfl, h.get m]
  by_cases e : m = n
  · subst e; simp
  · rw [if_neg fun e' => e (niV_inj e')]; simp [e]
theorem or4 (a b c d : Bool) : a = true ∨ (a = false ∧ b = true) ∨ (a = false ∧ b = false ∧ c = true) ∨ (a = false ∧ b = false ∧ c = false ∧ d = true) ∨ (a = false ∧ b = false ∧ c = false ∧ d = false) := by
  cases a <;> cases b <;> cases c <;> cases d <;> simp
theorem k_bad {ns : List NI} {i : Nat} (h : kB ns i (nth ns i).v (nth ns i).lo = false ∨ kB ns i (nth ns i).v (nth ns i).hi = false) : vB ns i = false := by
  unfold vB
  rcases h with h | h <;> simp [h]
set_option maxRecDepth 100000 in
set_option linter.unusedVariables false in
set_option maxHeartbeats 4000000 in
theorem valid_c (ns : List NI) (rs : List Int) (hI : ∀ n ∈ ns, N64 n) (hnl : ns.length ≤ maxLen) (hrl : rs.length ≤ maxLen) : PCalls Try.prog 17 [bdiD ns rs] (.d (oD (validB ns rs))) := by
  unfold maxLen at hnl
  refine pcalls_of0 (fn := Try.f17) (by kernel_rfl) Try.func17 rfl (Nat.le_of_ble_eq_true rfl) fun c hc hp => ?_
  refine awp_less (τ' := frL [(0, .d (bdiD ns rs))]) (less_cons (less_nil _) rfl) ?_
  refine awp_seq_s hp KT_ok hc rfl fun K1 hK1 => ?_
  simp -dsimp -implicitDefEqProofs (disch := first | assumption | omega | (simp [maxLen, avs_len, nis_len] <;> omega) | decide) only [sT_assign, sT_box, deadH, sT_nil, oK_some, q_o, layF, ↓reduceIte, q_b, q_f, q_s, q_l, as_dagg, D.one, deadH, bdiD, bdiC]
  refine hK1 _ _ ?_
  refine awp_seq_k fun K2 hK2 => ?_
  refine awp_seq_s hp KT_ok hc rfl fun K3 hK3 => ?_
  simp -dsimp -implicitDefEqProofs (disch := first | assumption | omega | (simp [maxLen, avs_len, nis_len] <;> omega) | decide) only [sT_load, sT_fa, sT_bin, sT_len, sT_nil, oK_some, q_o, loadF, fieldAddrF, binF_v, lenF, builtinF, v_gtr, ↓reduceIte, q_b, ifp, q_f, q_s, q_l, q_n, Nat.reduceEqDiff, fo_31_0, sz_28, ag_28, eo_28]
  refine hK3 _ _ ?_
  refine awp_cond rfl (fun ht => ?_) (fun ht => ?_)
  · have hbig : 3000 < ns.length := by simp at ht; omega
    refine awp_seq_s hp KT_ok hc rfl fun K4 hK4 => ?_
    simp -dsimp -implicitDefEqProofs (disch := first | assumption | omega | (simp [maxLen, avs_len, nis_len] <;> omega) | decide) only [sT_assign, sT_nil, q_f]
    refine hK4 _ _ ?_
    refine awp_ret ?_
    show closeA _ _ = _
    simp (disch := first | assumption | omega | (simp [maxLen, avs_len, nis_len] <;> omega) | decide) only [closeA, retV, deep_d, Nat.zero_add, D.fix, frL_get, ↓reduceIte, Option.map_some, List.length_cons, List.length_nil, oD]
    rw [val_len hbig]
  · have hsm : ns.length ≤ 3000 := by simp at ht; omega
    refine awp_skip (hK2 _ _ ?_)
    refine awp_seq_s hp KT_ok hc rfl fun K5 hK5 => ?_
    simp -dsimp -implicitDefEqProofs (disch := first | assumption | omega | (simp [maxLen, avs_len, nis_len] <;> omega) | decide) only [sT_assign, sT_mm, deadH, sT_nil, oK_some, layF, ↓reduceIte, q_b, q_f, q_l, q_s, q_n, deadH, mm_m]
    refine hK5 _ _ ?_
    refine awp_seq_k fun K6 hK6 => ?_
    refine awp_seq_s hp KT_ok hc rfl fun K7 hK7 => ?_
    simp -dsimp -implicitDefEqProofs (disch := first | assumption | omega | (simp [maxLen, avs_len, nis_len] <;> omega) | decide) only [sT_move, sT_load, sT_fa, sT_len, sT_nil, oK_some, q_o, loadF, fieldAddrF, lenF, builtinF, ↓reduceIte, q_b, ifp, q_f, q_s, q_l, q_n, Nat.reduceEqDiff, Nat.reduceAdd, fo_31_0, sz_28, ag_28, eo_28]
    refine hK7 _ _ ?_
    refine awp_block ?_
    refine awp_loop_rt hp (fun τ' H' mm => ∃ (i : Nat) (μ : Mp), (i ≤ ns.length ∧ SOk (ns.take i) μ ∧ ∀ j, j < i → vB ns j = true) ∧ mm = ns.length - i ∧ H' = [.cells (avs (bdiC ns rs)), mO μ] ∧ τ' = frL [(1, .op 0 0), (3, .om 1), (14, .d (.fs (ns.flatMap niC) ns.length)), (15, .d (iD ns.length)), (16, .d (iD i))]) (ns.length) ?_ ⟨0, ([], 0), ⟨Nat.zero_le _, SOk.nil, fun j hj => absurd hj (by omega)⟩, rfl, rfl, rfl⟩ ?_
    · refine Rt.end (less_cons (less_cons (less_cons (less_cons (less_cons (less_nil _) rfl) rfl) rfl) rfl) rfl) ?_
      first | rfl | (simp only [intsD, boolsD, bytesD, intssD, bytessD, gcH, gcO_c, gcO_de, gcO_fr, gc_m, fz_m, gcVs_avs, gcVs, gcV, gcV_d, fzH, fzO_c, fzO_de, fzO_fr, fzVs_avs, Nat.reduceAdd, fzVs, fzV, posN, avs_nil, avs_cons, List.map_cons, List.map_nil, List.getD_cons_zero, List.getD_cons_succ, ↓reduceIte, Nat.reduceEqDiff, Option.map_some, List.set_cons_zero, List.set_cons_succ, takeD_avs, takeD_all, Nat.mul_one, List.length_map, List.cons_append, List.nil_append, mapF_muK, mapF_inK, muK_om, mapF_meK, meK_om, mapF_esK, esK_om, lk_dK, esOf_m, kv_val, kv_dagg, kv_agg, va_nil, va_cons, gc_m, fz_m, maps_m, mD_eq, fix_mD, mm_m, bdiD, bdiC, niA]; first | done | rfl)
    rintro τ' H' mm ⟨i, μ, ⟨hi, hS, hv⟩, rfl, rfl, rfl⟩
    refine awp_seq_s hp KT_ok hc rfl fun K8 hK8 => ?_
    simp -dsimp -implicitDefEqProofs (disch := first | assumption | omega | (simp [maxLen, avs_len, nis_len] <;> omega) | decide) only [sT_bin, sT_nil, oK_some, q_o, binF_v, v_lss, ↓reduceIte, q_b, q_f, Nat.reduceEqDiff, avs_nil, avs_cons, iD, bdiC]
    refine hK8 _ _ ?_
    refine awp_seq_k fun K9 hK9 => ?_
    refine awp_cond rfl (fun ht => ?_) (fun ht => ?_)
    · have hlt : i < ns.length := by simp at ht; omega
      have hn := hI _ (nth_mem hlt)
      have hk := key_ni hn
      have hgm := hS.get (nth ns i)
      refine awp_skip (hK9 _ _ ?_)
      refine awp_seq_k fun K10 hK10 => ?_
      refine awp_block ?_
      refine awp_seq_s hp KT_ok hc rfl fun K11 hK11 => ?_
      simp -dsimp -implicitDefEqProofs (disch := first | assumption | omega | (simp [maxLen, avs_len, nis_len] <;> omega) | decide) only [sT_move, sT_assign, sT_load, sT_ia, sT_alloc, sT_store, deadH, sT_nil, oK_some, q_o, loadF, ixO, indexAddrF, layF, storeF, ↓reduceIte, q_b, ifp, q_f, q_s, q_l, as_dagg, q_a, D.one, Value.oneCell', Int.toNat_natCast, q_n, Nat.reduceEqDiff, map_d, avs_nil, avs_cons, iD, Nat.reduceAdd, deadH, ni_row, niC, eo_28, sz_83, ag_83, za_83]
      refine hK11 _ _ ?_
      refine awp_seq_k fun K12 hK12 => ?_
      refine awp_seq_s hp KT_ok hc rfl fun K13 hK13 => ?_
      rcases or4 (decide ((nth ns i).v < 0)) (decide (999 < (nth ns i).v)) ((nth ns i).lo == (nth ns i).hi) (decide (nth ns i ∈ ns.take i)) with q1 | ⟨q1, q2⟩ | ⟨q1, q2, q3⟩ | ⟨q1, q2, q3, q4⟩ | ⟨q1, q2, q3, q4⟩
      · have q2 := q1
        have q3 := q1
        have hbad : vB ns i = false := by simp only [decide_eq_true_eq] at q1; unfold vB; rw [decide_eq_false (p := 0 ≤ (nth ns i).v) (by omega)]; rfl
        simp -dsimp -implicitDefEqProofs (disch := first | assumption | omega | (simp [maxLen, avs_len, nis_len] <;> omega) | decide) only [sT_move, sT_pick, sT_load, sT_fa, sT_bin, sT_nil, sT_g, oK_some, gK_f, q_o, loadF, fieldAddrF, binF_v, v_lss, ↓reduceIte, q_b, ifp, guardA_some, guardV_f, q_f, q_l, q_n, Nat.reduceEqDiff, Nat.reduceAdd, q1, fo_83_0, sz_3, ag_3]
        refine hK13 _ _ ?_
        refine awp_cond rfl (fun ht => ?_) (fun ht => ?_)
        · refine awp_seq_s hp KT_ok hc rfl fun K14 hK14 => ?_
          simp -dsimp -implicitDefEqProofs (disch := first | assumption | omega | (simp [maxLen, avs_len, nis_len] <;> omega) | decide) only [sT_assign, sT_nil, q_f]
          refine hK14 _ _ ?_
          refine awp_ret ?_
          show closeA _ _ = _
          simp (disch := first | assumption | omega | (simp [maxLen, avs_len, nis_len] <;> omega) | decide) only [closeA, retV, deep_d, Nat.reduceAdd, Nat.zero_add, D.fix, frL_get, ↓reduceIte, Option.map_some, List.length_cons, List.length_nil, oD]
          rw [val_vB hlt hbad]
        · cases ht
      · have q3 := q1
        have hbad : vB ns i = false := by simp only [decide_eq_true_eq] at q2; unfold vB; rw [decide_eq_false (p := (nth ns i).v ≤ 999) (by omega)]; simp
        simp -dsimp -implicitDefEqProofs (disch := first | assumption | omega | (simp [maxLen, avs_len, nis_len] <;> omega) | decide) only [sT_move, sT_pick, sT_load, sT_fa, sT_bin, sT_nil, sT_g, oK_some, gK_t, gK_f, q_o, loadF, fieldAddrF, binF_v, v_lss, v_gtr, ↓reduceIte, q_b, ifp, guardA_some, guardV_f, q_f, q_l, q_n, Nat.reduceEqDiff, Nat.reduceAdd, q1, q2, fo_83_0, sz_3, ag_3]
        refine hK13 _ _ ?_
        refine awp_cond rfl (fun ht => ?_) (fun ht => ?_)
        · refine awp_seq_s hp KT_ok hc rfl fun K15 hK15 => ?_
          simp -dsimp -implicitDefEqProofs (disch := first | assumption | omega | (simp [maxLen, avs_len, nis_len] <;> omega) | decide) only [sT_assign, sT_nil, q_f]
          refine hK15 _ _ ?_
          refine awp_ret ?_
          show closeA _ _ = _
          simp (disch := first | assumption | omega | (simp [maxLen, avs_len, nis_len] <;> omega) | decide) only [closeA, retV, deep_d, Nat.reduceAdd, Nat.zero_add, D.fix, frL_get, ↓reduceIte, Option.map_some, List.length_cons, List.length_nil, oD]
          rw [val_vB hlt hbad]
        · cases ht
      · have hbad : vB ns i = false := by
          have q3' : (nth ns i).lo = (nth ns i).hi := by simpa using q3
          unfold vB; simp [q3']
        simp -dsimp -implicitDefEqProofs (disch := first | assumption | omega | (simp [maxLen, avs_len, nis_len] <;> omega) | decide) only [sT_move, sT_pick, sT_load, sT_fa, sT_bin, sT_nil, sT_g, oK_some, gK_t, gK_f, q_o, loadF, fieldAddrF, binF_v, v_eql, v_lss, v_gtr, ↓reduceIte, q_b, ifp, guardA_some, guardV_f, q_f, q_l, q_n, Nat.reduceEqDiff, Nat.reduceAdd, q1, q2, q3, fo_83_0, sz_3, ag_3, fo_83_1, fo_83_2]
        refine hK13 _ _ ?_
        refine awp_cond rfl (fun ht => ?_) (fun ht => ?_)
        · refine awp_seq_s hp KT_ok hc rfl fun K16 hK16 => ?_
          simp -dsimp -implicitDefEqProofs (disch := first | assumption | omega | (simp [maxLen, avs_len, nis_len] <;> omega) | decide) only [sT_assign, sT_nil, q_f]
          refine hK16 _ _ ?_
          refine awp_ret ?_
          show closeA _ _ = _
          simp (disch := first | assumption | omega | (simp [maxLen, avs_len, nis_len] <;> omega) | decide) only [closeA, retV, deep_d, Nat.reduceAdd, Nat.zero_add, D.fix, frL_get, ↓reduceIte, Option.map_some, List.length_cons, List.length_nil, oD]
          rw [val_vB hlt hbad]
        · cases ht
      · have q4' : nth ns i ∈ ns.take i := by simpa using q4
        rw [if_pos q4'] at hgm
        have hbad : vB ns i = false := by
          unfold vB; simp [q4']
        simp -dsimp -implicitDefEqProofs (disch := first | assumption | omega | (simp [maxLen, avs_len, nis_len] <;> omega) | decide) only [sT_move, sT_pick, sT_load, sT_fa, sT_bin, sT_lookup, sT_nil, sT_g, oK_some, gK_t, q_o, loadF, fieldAddrF, binF_v, v_eql, v_lss, v_gtr, ↓reduceIte, q_b, ifp, guardA_some, guardV_f, q_f, q_l, q_n, Nat.reduceEqDiff, takeD_all, Nat.reduceAdd, esOf_m, kv_agg, va_nil, va_cons, q1, q2, q3, niV_fold, lk_omK, lkK_f mtV hk hS.ok, hgm, Option.getD_some, fo_83_0, sz_83, ag_83, sz_3, ag_3, fo_83_1, fo_83_2]
        refine hK13 _ _ ?_
        refine awp_cond rfl (fun ht => ?_) (fun ht => ?_)
        · refine awp_seq_s hp KT_ok hc rfl fun K17 hK17 => ?_
          simp -dsimp -implicitDefEqProofs (disch := first | assumption | omega | (simp [maxLen, avs_len, nis_len] <;> omega) | decide) only [sT_assign, sT_nil, q_f]
          refine hK17 _ _ ?_
          refine awp_ret ?_
          show closeA _ _ = _
          simp (disch := first | assumption | omega | (simp [maxLen, avs_len, nis_len] <;> omega) | decide) only [closeA, retV, deep_d, Nat.reduceAdd, Nat.zero_add, D.fix, frL_get, ↓reduceIte, Option.map_some, List.length_cons, List.length_nil, oD]
          rw [val_vB hlt hbad]
        · cases ht
      · have q4' : nth ns i ∉ ns.take i := by simpa using q4
        rw [if_neg q4'] at hgm
        have q1' : 0 ≤ (nth ns i).v := by simpa using q1
        have q2' : (nth ns i).v ≤ 999 := by simpa using q2
        have q3' : (nth ns i).lo ≠ (nth ns i).hi := by simpa using q3
        simp -dsimp -implicitDefEqProofs (disch := first | assumption | omega | (simp [maxLen, avs_len, nis_len] <;> omega) | decide) only [sT_move, sT_pick, sT_load, sT_fa, sT_bin, sT_lookup, sT_nil, sT_g, oK_some, gK_t, q_o, loadF, fieldAddrF, binF_v, v_eql, v_lss, v_gtr, ↓reduceIte, q_b, ifp, guardA_some, guardV_f, q_f, q_l, q_n, Nat.reduceEqDiff, takeD_all, Nat.reduceAdd, esOf_m, kv_agg, va_nil, va_cons, q1, q2, q3, niV_fold, lk_omK, lkK_f mtV hk hS.ok, hgm, Option.getD_none, fo_83_0, sz_83, ag_83, sz_3, ag_3, fo_83_1, fo_83_2]
        refine hK13 _ _ ?_
        refine awp_cond rfl (fun ht => ?_) (fun ht => ?_)
        · cases ht
        · refine awp_skip (hK12 _ _ ?_)
          refine awp_seq_k fun K18 hK18 => ?_
          obtain ⟨kl, hkl⟩ : ∃ kl, kl = [(nth ns i).lo, (nth ns i).hi] := ⟨_, rfl⟩
          have hkll : kl.length = 2 := by rw [hkl]; rfl
          have hok : ∀ q, q < 2 → kB ns i (nth ns i).v (nth kl q) = false → vB ns i = false := fun q hq h => k_bad (by
            rw [hkl] at h
            match q, hq with
            | 0, _ => exact .inl h
            | 1, _ => exact .inr h)
          refine awp_seq_s hp KT_ok hc rfl fun K19 hK19 => ?_
          simp -dsimp -implicitDefEqProofs (disch := first | assumption | omega | (simp [maxLen, avs_len, nis_len] <;> omega) | decide) only [sT_move, sT_load, sT_fa, sT_len, sT_bs, deadH, sT_nil, oK_some, q_o, loadF, fieldAddrF, lenF, builtinF, layF, ↓reduceIte, q_b, ifp, ifn, q_f, q_s, q_l, List.replicate_zero, List.replicate_succ, reps_def, q_a, fill_cons, q_n, Nat.reduceEqDiff, Nat.reduceAdd, deadH, fo_83_1, sz_3, ag_3, fo_83_2, eo_29, mk_29]
          refine hK19 _ _ ?_
          refine awp_block ?_
          refine awp_loop_rt hp (fun τ' H' mm => ∃ (q : Nat), (q ≤ 2 ∧ ∀ j, j < q → kB ns i (nth ns i).v (nth kl j) = true) ∧ mm = 2 - q ∧ H' = [.cells (avs (bdiC ns rs)), mO μ, .cells (niA (nth ns i)), .cells (avs (kl.map iD))] ∧ τ' = frL [(1, .op 0 0), (3, .om 1), (4, .d (iD i)), (5, .op 2 0), (14, .d (.fs (ns.flatMap niC) ns.length)), (15, .d (iD ns.length)), (16, .d (iD i)), (45, .os 1 3 0 2), (46, .d (iD 2)), (47, .d (iD q))]) (2) ?_ ⟨0, ⟨Nat.zero_le _, fun j hj => absurd hj (by omega)⟩, rfl, rfl, rfl⟩ ?_
          · refine Rt.end (less_cons (less_cons (less_cons (less_cons (less_cons (less_cons (less_cons (less_cons (less_cons (less_cons (less_nil _) rfl) rfl) rfl) rfl) rfl) rfl) rfl) rfl) rfl) rfl) ?_
            simp only [avs_nil, avs_cons, bdiC, niA]; rw [hkl]; rfl
          rintro τ' H' mm ⟨q, ⟨hq, hvq⟩, rfl, rfl, rfl⟩
          refine awp_seq_s hp KT_ok hc rfl fun K20 hK20 => ?_
          simp -dsimp -implicitDefEqProofs (disch := first | assumption | omega | (simp [maxLen, avs_len, nis_len] <;> omega) | decide) only [sT_bin, sT_nil, oK_some, q_o, binF_v, v_lss, ↓reduceIte, q_b, q_f, Nat.reduceEqDiff, avs_nil, avs_cons, iD, bdiC, niA]
          refine hK20 _ _ ?_
          refine awp_seq_k fun K21 hK21 => ?_
          refine awp_cond rfl (fun ht => ?_) (fun ht => ?_)
          · have hq2 : q < 2 := by simp at ht; omega
            refine awp_skip (hK21 _ _ ?_)
            refine awp_seq_k fun K22 hK22 => ?_
            refine awp_block ?_
            refine awp_seq_s hp KT_ok hc rfl fun K23 hK23 => ?_
            simp -dsimp -implicitDefEqProofs (disch := first | assumption | omega | (simp [maxLen, avs_len, nis_len] <;> omega) | decide) only [sT_assign, sT_load, sT_ia, sT_nil, oK_some, q_o, loadF, ixO, indexAddrF, ↓reduceIte, q_b, ifp, q_f, q_l, and_true, Int.toNat_natCast, q_n, Nat.reduceEqDiff, avs_get, get_map, iD, Nat.reduceAdd, get_map, eo_29, sz_3, ag_3]
            refine hK23 _ _ ?_
            refine awp_seq_se KT_ok hc mixed rfl (q := 0) (by kernel_rfl) (by kernel_rfl) fun K24 hK24 => ?_
            rcases (show nth kl q < 0 ∨ (0 ≤ nth kl q ∧ (i : Int) + 2 ≤ nth kl q) ∨ (0 ≤ nth kl q ∧ nth kl q < (i : Int) + 2 ∧ nth kl q < 2) ∨ (2 ≤ nth kl q ∧ nth kl q < (i : Int) + 2 ∧ (nth ns (nth kl q - 2).toNat).v ≤ (nth ns i).v) ∨ (2 ≤ nth kl q ∧ nth kl q < (i : Int) + 2 ∧ (nth ns i).v < (nth ns (nth kl q - 2).toNat).v) by omega) with p | ⟨p, p'⟩ | ⟨p, p', p''⟩ | ⟨p, p', p''⟩ | ⟨p, p', p''⟩
            · have p1 : decide (nth kl q < 0) = true := by simp; omega
              have p2 := p1
              have p3 := p1
              have p4 := p1
              have hkb : kB ns i (nth ns i).v (nth kl q) = false := by unfold kB; rw [decide_eq_false (by omega)]; rfl
              simp -dsimp -implicitDefEqProofs (disch := first | assumption | omega | (simp [maxLen, avs_len, nis_len] <;> omega) | decide) only [sE_move, sE_pick, sE_bin, sE_nil, oK_some, gK_f, q_o, binF_v, v_lss, ↓reduceIte, q_b, guardA_some, guardV_f, guardV_u, q_f, q_l, List.append_nil, List.replicate_zero, q_n, Nat.reduceEqDiff, killAll, Nat.reduceAdd, sE_gg, ly_move, ly_pick, ly_load, ly_fa, ly_ia, ly_bin, p1]
              refine hK24 _ _ ?_
              refine awp_cond rfl (fun ht => ?_) (fun ht => ?_)
              · refine awp_seq_s hp KT_ok hc rfl fun K25 hK25 => ?_
                simp -dsimp -implicitDefEqProofs (disch := first | assumption | omega | (simp [maxLen, avs_len, nis_len] <;> omega) | decide) only [sT_assign, sT_nil, q_f]
                refine hK25 _ _ ?_
                refine awp_ret ?_
                show closeA _ _ = _
                simp (disch := first | assumption | omega | (simp [maxLen, avs_len, nis_len] <;> omega) | decide) only [closeA, retV, deep_d, Nat.reduceAdd, Nat.zero_add, D.fix, frL_get, ↓reduceIte, Option.map_some, List.length_cons, List.length_nil, oD]
                rw [val_vB hlt (hok q hq2 hkb)]
              · cases ht
            · have p1 : decide (nth kl q < 0) = false := by simp; omega
              have p2 : decide ((i : Int) + 2 ≤ nth kl q) = true := by simp; omega
              have p3 := p1
              have p4 := p1
              have hkb : kB ns i (nth ns i).v (nth kl q) = false := by unfold kB; rw [decide_eq_false (p := nth kl q < i + 2) (by omega)]; simp
              simp -dsimp -implicitDefEqProofs (disch := first | assumption | omega | (simp [maxLen, avs_len, nis_len] <;> omega) | decide) only [sE_move, sE_pick, sE_bin, sE_nil, oK_some, gK_t, gK_f, q_o, binF_v, v_add, v_lss, v_geq, ↓reduceIte, q_b, guardA_some, guardV_f, guardV_u, q_f, q_l, List.append_nil, List.replicate_zero, q_n, Nat.reduceEqDiff, killAll, Nat.reduceAdd, sE_gg, ly_move, ly_pick, ly_load, ly_fa, ly_ia, ly_bin, p1, p2]
              refine hK24 _ _ ?_
              refine awp_cond rfl (fun ht => ?_) (fun ht => ?_)
              · refine awp_seq_s hp KT_ok hc rfl fun K26 hK26 => ?_
                simp -dsimp -implicitDefEqProofs (disch := first | assumption | omega | (simp [maxLen, avs_len, nis_len] <;> omega) | decide) only [sT_assign, sT_nil, q_f]
                refine hK26 _ _ ?_
                refine awp_ret ?_
                show closeA _ _ = _
                simp (disch := first | assumption | omega | (simp [maxLen, avs_len, nis_len] <;> omega) | decide) only [closeA, retV, deep_d, Nat.reduceAdd, Nat.zero_add, D.fix, frL_get, ↓reduceIte, Option.map_some, List.length_cons, List.length_nil, oD]
                rw [val_vB hlt (hok q hq2 hkb)]
              · cases ht
            · have p1 : decide (nth kl q < 0) = false := by simp; omega
              have p2 : decide ((i : Int) + 2 ≤ nth kl q) = false := by simp; omega
              have p3 : decide (2 ≤ nth kl q) = false := by simp; omega
              have p4 := p1
              have hkb : kB ns i (nth ns i).v (nth kl q) = true := by unfold kB; simp only [Bool.and_eq_true, Bool.or_eq_true, decide_eq_true_eq]; omega
              simp -dsimp -implicitDefEqProofs (disch := first | assumption | omega | (simp [maxLen, avs_len, nis_len] <;> omega) | decide) only [sE_move, sE_pick, sE_bin, sE_nil, oK_some, gK_t, gK_f, q_o, binF_v, v_add, v_lss, v_geq, ↓reduceIte, q_b, guardA_some, guardV_t, guardV_f, q_f, q_l, List.append_nil, List.replicate_zero, q_n, Nat.reduceEqDiff, killAll, Nat.reduceAdd, sE_gg, ly_move, ly_load, ly_fa, ly_ia, ly_bin, p1, p2, p3]
              refine hK24 _ _ ?_
              refine awp_cond rfl (fun ht => ?_) (fun ht => ?_)
              · cases ht
              · refine awp_skip (hK22 _ _ ?_)
                refine awp_s hp KT_ok hc rfl fun K27 hK27 => ?_
                simp -dsimp -implicitDefEqProofs (disch := first | assumption | omega | (simp [maxLen, avs_len, nis_len] <;> omega) | decide) only [sT_move, sT_bin, sT_nil, oK_some, q_o, binF_v, v_add, ↓reduceIte, q_b, q_f, Nat.reduceEqDiff]
                have hvq2 : ∀ j, j < q + 1 → kB ns i (nth ns i).v (nth kl j) = true := fun j hj => by
                  by_cases e : j = q
                  · subst e; exact hkb
                  · exact hvq j (by omega)
                refine hK27 _ _ ⟨_, _, _, ?_, ⟨q + 1, ⟨by omega, hvq2⟩, rfl, rfl, rfl⟩, ?_⟩
                · first | omega | (simp only [List.length_cons]; omega) | (dsimp only; omega)
                · refine Rt.end (less_cons (less_cons (less_cons (less_cons (less_cons (less_cons (less_cons (less_cons (less_cons (less_cons (less_nil _) rfl) rfl) rfl) rfl) rfl) rfl) rfl) rfl) rfl) rfl) ?_
                  first | rfl | (simp only [intsD, boolsD, bytesD, intssD, bytessD, gcH, gcO_c, gcO_de, gcO_fr, gc_m, fz_m, gcVs_avs, gcVs, gcV, gcV_d, fzH, fzO_c, fzO_de, fzO_fr, fzVs_avs, Nat.reduceAdd, fzVs, fzV, posN, avs_nil, avs_cons, List.map_cons, List.map_nil, List.getD_cons_zero, List.getD_cons_succ, ↓reduceIte, Nat.reduceEqDiff, Option.map_some, List.set_cons_zero, List.set_cons_succ, takeD_avs, takeD_all, Nat.mul_one, List.length_map, List.cons_append, List.nil_append, mapF_muK, mapF_inK, muK_om, mapF_meK, meK_om, mapF_esK, esK_om, lk_dK, esOf_m, kv_val, kv_dagg, kv_agg, va_nil, va_cons, gc_m, fz_m, maps_m, mD_eq, fix_mD, mm_m, bdiD, bdiC, niA]; first | done | rfl)
            · have p1 : decide (nth kl q < 0) = false := by simp; omega
              have p2 : decide ((i : Int) + 2 ≤ nth kl q) = false := by simp; omega
              have p3 : decide (2 ≤ nth kl q) = true := by simp; omega
              have p4 : decide ((nth ns (nth kl q - 2).toNat).v ≤ (nth ns i).v) = true := by simp; omega
              have hkb : kB ns i (nth ns i).v (nth kl q) = false := by unfold kB; rw [decide_eq_false (p := nth kl q < 2) (by omega), decide_eq_false (p := (nth ns i).v < _) (by omega)]; simp
              simp -dsimp -implicitDefEqProofs (disch := first | assumption | omega | (simp [maxLen, avs_len, nis_len] <;> omega) | decide) only [sE_move, sE_pick, sE_load, sE_fa, sE_ia, sE_bin, sE_nil, oK_some, gK_t, q_o, loadF, fieldAddrF, ixO, indexAddrF, binF_v, v_add, v_sub, v_lss, v_leq, v_geq, ↓reduceIte, q_b, ifp, guardA_some, guardV_t, guardV_f, q_f, q_l, List.append_nil, List.replicate_zero, q_n, Nat.reduceEqDiff, killAll, iD, Nat.reduceAdd, sE_gg, p1, p2, p3, p4, ni_0, sz_3, ag_3, fo_31_0, sz_28, ag_28, eo_28, fo_83_0]
              refine hK24 _ _ ?_
              refine awp_cond rfl (fun ht => ?_) (fun ht => ?_)
              · refine awp_seq_s hp KT_ok hc rfl fun K28 hK28 => ?_
                simp -dsimp -implicitDefEqProofs (disch := first | assumption | omega | (simp [maxLen, avs_len, nis_len] <;> omega) | decide) only [sT_assign, sT_nil, q_f]
                refine hK28 _ _ ?_
                refine awp_ret ?_
                show closeA _ _ = _
                simp (disch := first | assumption | omega | (simp [maxLen, avs_len, nis_len] <;> omega) | decide) only [closeA, retV, deep_d, Nat.reduceAdd, Nat.zero_add, D.fix, frL_get, ↓reduceIte, Option.map_some, List.length_cons, List.length_nil, oD]
                rw [val_vB hlt (hok q hq2 hkb)]
              · cases ht
            · have p1 : decide (nth kl q < 0) = false := by simp; omega
              have p2 : decide ((i : Int) + 2 ≤ nth kl q) = false := by simp; omega
              have p3 : decide (2 ≤ nth kl q) = true := by simp; omega
              have p4 : decide ((nth ns (nth kl q - 2).toNat).v ≤ (nth ns i).v) = false := by simp; omega
              have hkb : kB ns i (nth ns i).v (nth kl q) = true := by unfold kB; simp only [Bool.and_eq_true, Bool.or_eq_true, decide_eq_true_eq]; omega
              simp -dsimp -implicitDefEqProofs (disch := first | assumption | omega | (simp [maxLen, avs_len, nis_len] <;> omega) | decide) only [sE_move, sE_pick, sE_load, sE_fa, sE_ia, sE_bin, sE_nil, oK_some, gK_t, q_o, loadF, fieldAddrF, ixO, indexAddrF, binF_v, v_add, v_sub, v_lss, v_leq, v_geq, ↓reduceIte, q_b, ifp, guardA_some, guardV_t, guardV_f, q_f, q_l, List.append_nil, List.replicate_zero, q_n, Nat.reduceEqDiff, killAll, iD, Nat.reduceAdd, sE_gg, p1, p2, p3, p4, ni_0, sz_3, ag_3, fo_31_0, sz_28, ag_28, eo_28, fo_83_0]
              refine hK24 _ _ ?_
              refine awp_cond rfl (fun ht => ?_) (fun ht => ?_)
              · cases ht
              · refine awp_skip (hK22 _ _ ?_)
                refine awp_s hp KT_ok hc rfl fun K29 hK29 => ?_
                simp -dsimp -implicitDefEqProofs (disch := first | assumption | omega | (simp [maxLen, avs_len, nis_len] <;> omega) | decide) only [sT_move, sT_bin, sT_nil, oK_some, q_o, binF_v, v_add, ↓reduceIte, q_b, q_f, Nat.reduceEqDiff]
                have hvq2 : ∀ j, j < q + 1 → kB ns i (nth ns i).v (nth kl j) = true := fun j hj => by
                  by_cases e : j = q
                  · subst e; exact hkb
                  · exact hvq j (by omega)
                refine hK29 _ _ ⟨_, _, _, ?_, ⟨q + 1, ⟨by omega, hvq2⟩, rfl, rfl, rfl⟩, ?_⟩
                · first | omega | (simp only [List.length_cons]; omega) | (dsimp only; omega)
                · refine Rt.end (less_cons (less_cons (less_cons (less_cons (less_cons (less_cons (less_cons (less_cons (less_cons (less_cons (less_nil _) rfl) rfl) rfl) rfl) rfl) rfl) rfl) rfl) rfl) rfl) ?_
                  first | rfl | (simp only [intsD, boolsD, bytesD, intssD, bytessD, gcH, gcO_c, gcO_de, gcO_fr, gc_m, fz_m, gcVs_avs, gcVs, gcV, gcV_d, fzH, fzO_c, fzO_de, fzO_fr, fzVs_avs, Nat.reduceAdd, fzVs, fzV, posN, avs_nil, avs_cons, List.map_cons, List.map_nil, List.getD_cons_zero, List.getD_cons_succ, ↓reduceIte, Nat.reduceEqDiff, Option.map_some, List.set_cons_zero, List.set_cons_succ, takeD_avs, takeD_all, Nat.mul_one, List.length_map, List.cons_append, List.nil_append, mapF_muK, mapF_inK, muK_om, mapF_meK, meK_om, mapF_esK, esK_om, lk_dK, esOf_m, kv_val, kv_dagg, kv_agg, va_nil, va_cons, gc_m, fz_m, maps_m, mD_eq, fix_mD, mm_m, bdiD, bdiC, niA]; first | done | rfl)
          · have hq2 : q = 2 := by simp at ht; omega
            subst hq2
            have hvi : vB ns i = true := by
              have a0 := hvq 0 (by omega)
              have a1 := hvq 1 (by omega)
              rw [hkl] at a0 a1
              unfold vB
              rw [decide_eq_true q1', decide_eq_true q2', decide_eq_true q3', decide_eq_true q4']
              simp only [Bool.true_and]
              exact Bool.and_eq_true_iff.2 ⟨a0, a1⟩
            refine awp_exit (hK18 _ _ ?_)
            refine awp_s hp KT_ok hc rfl fun K30 hK30 => ?_
            simp -dsimp -implicitDefEqProofs (disch := first | assumption | omega | (simp [maxLen, avs_len, nis_len] <;> omega) | decide) only [sT_move, sT_load, sT_mu, sT_nil, oK_some, q_o, loadF, ↓reduceIte, q_b, ifp, q_f, q_l, q_s, q_n, Nat.reduceEqDiff, takeD_all, Nat.reduceAdd, mapF_muK, muK_om, kv_agg, va_nil, va_cons, niV_fold, muO_m mtV hk hS.ok, sz_83, ag_83]
            refine hK30 _ _ (hK10 _ _ ?_)
            refine awp_s hp KT_ok hc rfl fun K31 hK31 => ?_
            simp -dsimp -implicitDefEqProofs (disch := first | assumption | omega | (simp [maxLen, avs_len, nis_len] <;> omega) | decide) only [sT_move, sT_bin, sT_nil, oK_some, q_o, binF_v, v_add, ↓reduceIte, q_b, q_f, Nat.reduceEqDiff]
            have hv2 : ∀ j, j < i + 1 → vB ns j = true := fun j hj => by
              by_cases e : j = i
              · subst e; exact hvi
              · exact hv j (by omega)
            refine hK31 _ _ ⟨_, _, _, ?_, ⟨i + 1, putM (niV (nth ns i)) (.bool true) μ, ⟨by omega, by rw [take_nth hlt]; exact hS.add hn, hv2⟩, rfl, rfl, rfl⟩, ?_⟩
            · first | omega | (simp only [List.length_cons]; omega) | (dsimp only; omega)
            · refine Rt.trans (Rt.gc (keep := [0,1]) (by decide) (by decide) (by simp [])) ?_
              refine Rt.end (less_cons (less_cons (less_cons (less_cons (less_cons (less_nil _) rfl) rfl) rfl) rfl) rfl) ?_
              first | rfl | (simp only [gcH, gcO_c, gc_m, gcVs, gcV, avs_nil, avs_cons, List.map_cons, List.map_nil, List.getD_cons_zero, List.getD_cons_succ, gc_m, bdiC]; first | done | rfl)
    · have hie : i = ns.length := by simp at ht; omega
      subst hie
      have hva := val_all (rs := rs) hsm hv
      refine awp_exit (hK6 _ _ ?_)
      refine awp_seq_s hp KT_ok hc rfl fun K32 hK32 => ?_
      simp -dsimp -implicitDefEqProofs (disch := first | assumption | omega | (simp [maxLen, avs_len, nis_len] <;> omega) | decide) only [sT_load, sT_fa, sT_mf, sT_call0, oK_some, loadF, fieldAddrF, ↓reduceIte, q_b, ifp, q_f, q_s, q_l, q_n, Nat.reduceEqDiff, Nat.reduceAdd, fo_31_1, sz_29, ag_29]
      refine kc_own (contains_v ns rs rs hsm hrl) ?_ ?_
      · simp (disch := first | assumption | omega | (simp [maxLen, avs_len, nis_len] <;> omega) | decide) only [deep_d, deepL_nil, deepL_cons, lookH_eq, cellsOf_c, deep_op, deep_clo, Nat.reduceAdd, D.fix, Option.map_some, Option.bind_some, List.getElem?_cons_zero, intsD, bdiC, vclo]
      simp -dsimp -implicitDefEqProofs (disch := first | assumption | omega | (simp [maxLen, avs_len, nis_len] <;> omega) | decide) only [sT_assign, sT_un, sT_nil, oK_some, u_not, ↓reduceIte, q_b, q_f]
      refine hK32 _ _ ?_
      refine awp_ret ?_
      show closeA _ _ = _
      simp (disch := first | assumption | omega | (simp [maxLen, avs_len, nis_len] <;> omega) | decide) only [closeA, retV, deep_d, Nat.reduceAdd, Nat.zero_add, D.fix, frL_get, ↓reduceIte, Option.map_some, List.length_cons, List.length_nil, oD]
      rw [hva, all_root]
end Go.Proofs.Ytgfnpfchdlcoeaa
