/- Sets: of, has. -/
import Derived.Test.YtinefghmmbggeaaQ
import Derived.Test.YtinefghmmbggeaaTy
import Derived.Test.YtinefghmmbggeaaSx
import Derived.Maps.RangeWalk
import Derived.Maps.AppendAt
import Derived.Sort.OwnSortedInts
import Derived.WalkKit
import Derived.OwnWalk
import Derived.Shelf.Spec.SlicesGrow
set_option linter.unusedVariables false
set_option linter.unusedSimpArgs false
namespace Go.Proofs.Ytinefghmmbggeaa
open Go Go.RowKit
theorem st_66 : setT Try.prog KT 66 = true := by kernel_rfl
theorem cl_66 {id : Nat} {H : AHeap} {σ : SetS} : clG Try.prog 66 id H (some (setO σ)) = some (.tup [], H.set id (setO (clrS σ))) := clG_set (KT := KT) st_66
theorem of_step {l : List Int} {k : Nat} (h : k < l.length) : ofS (l.take (k + 1)) = putS (nth l k) (ofS (l.take k)) := by
  rw [take_nth h]; simp [ofS]
/-- All are in range. -/
def I64s (l : List Int) : Prop := ∀ x ∈ l, I64 x
theorem I64s.nth {l : List Int} (h : I64s l) {k : Nat} (hk : k < l.length) : I64 (nth l k) := h _ (nth_mem hk)
theorem I64s.take {l : List Int} (h : I64s l) (k : Nat) : I64s (l.take k) := fun x hx => h x (List.mem_of_mem_take hx)
set_option maxRecDepth 100000 in
set_option linter.unusedVariables false in
set_option maxHeartbeats 4000000 in
theorem of_c (l : List Int) (hI : I64s l) (hl : l.length ≤ 1000000) : LCalls Try.prog 36 [intsD l] .om (setO (ofS l)) := by
  refine lcalls_set (fn := Try.f36) (by kernel_rfl) Try.func36 rfl (Nat.le_of_ble_eq_true rfl) fun c hc hp => ?_
  refine awp_less (τ' := frL [(0, .d (intsD l))]) (less_cons (less_nil _) rfl) ?_
  refine awp_seq_s KT_ok hc rfl fun K1 hK1 => ?_
  simp -dsimp -implicitDefEqProofs (disch := first | assumption | omega | (simp [maxLen, avs_len] <;> omega) | decide) only [sT_assign, sT_nil, q_f, intsD]
  refine hK1 _ _ ?_
  refine awp_seq_s KT_ok hc rfl fun K2 hK2 => ?_
  simp -dsimp -implicitDefEqProofs (disch := first | assumption | omega | (simp [maxLen, avs_len] <;> omega) | decide) only [sT_assign, sT_mm, deadH, sT_nil, oK_some, layF, ↓reduceIte, q_b, q_f, q_l, q_s, deadH]
  refine hK2 _ _ ?_
  refine awp_seq_k fun K3 hK3 => ?_
  refine awp_seq_s KT_ok hc rfl fun K4 hK4 => ?_
  simp -dsimp -implicitDefEqProofs (disch := first | assumption | omega | (simp [maxLen, avs_len] <;> omega) | decide) only [sT_move, sT_len, sT_nil, oK_some, q_o, lenF, builtinF, ↓reduceIte, q_b, q_f, q_s, Nat.reduceEqDiff, eo_27]
  refine hK4 _ _ ?_
  refine awp_block ?_
  refine awp_loop_rt hp (fun τ' H' mm => ∃ k, (k ≤ l.length) ∧ mm = l.length - k ∧ H' = [setO (ofS (l.take k))] ∧ τ' = frL [(3, .om 0), (7, .d (intsD l)), (8, .d (iD l.length)), (9, .d (iD k))]) (l.length) ?_ ⟨0, Nat.zero_le _, rfl, rfl, rfl⟩ ?_
  · refine Rt.end (less_cons (less_cons (less_cons (less_cons (less_nil _) rfl) rfl) rfl) rfl) ?_
    rfl
  rintro τ' H' mm ⟨k, hk, rfl, rfl, rfl⟩
  refine awp_seq_s KT_ok hc rfl fun K5 hK5 => ?_
  simp -dsimp -implicitDefEqProofs (disch := first | assumption | omega | (simp [maxLen, avs_len] <;> omega) | decide) only [sT_bin, sT_nil, oK_some, q_o, binF_v, v_lss, ↓reduceIte, q_b, q_f, Nat.reduceEqDiff, iD, intsD]
  refine hK5 _ _ ?_
  refine awp_seq_k fun K6 hK6 => ?_
  refine awp_cond rfl (fun ht => ?_) (fun ht => ?_)
  · have hlt : k < l.length := by simp at ht; omega
    have hn := hI.nth hlt
    have hs : OkS (ofS (l.take k)) := OkS.of (hI.take k)
    refine awp_skip (hK6 _ _ ?_)
    refine awp_seq_k fun K7 hK7 => ?_
    refine awp_block ?_
    refine awp_seq_s KT_ok hc rfl fun K8 hK8 => ?_
    simp -dsimp -implicitDefEqProofs (disch := first | assumption | omega | (simp [maxLen, avs_len] <;> omega) | decide) only [sT_assign, sT_load, sT_ia, sT_nil, oK_some, q_o, loadF, ixO, indexAddrF, ↓reduceIte, q_b, ifp, q_f, Int.toNat_natCast, q_n, Nat.reduceEqDiff, get_map, iD, eo_27, sz_3, ag_3]
    refine hK8 _ _ ?_
    refine awp_s KT_ok hc rfl fun K9 hK9 => ?_
    simp -dsimp -implicitDefEqProofs (disch := first | assumption | omega | (simp [maxLen, avs_len] <;> omega) | decide) only [sT_move, sT_mu, sT_nil, oK_some, ↓reduceIte, q_b, q_f, q_l, q_s, Nat.reduceEqDiff, mapF_mu, muF_om, muG_set]
    refine hK9 _ _ (hK7 _ _ ?_)
    refine awp_s KT_ok hc rfl fun K10 hK10 => ?_
    simp -dsimp -implicitDefEqProofs (disch := first | assumption | omega | (simp [maxLen, avs_len] <;> omega) | decide) only [sT_move, sT_bin, sT_nil, oK_some, q_o, binF_v, v_add, ↓reduceIte, q_b, q_f, Nat.reduceEqDiff]
    refine hK10 _ _ ⟨_, _, _, ?_, ⟨k + 1, by omega, rfl, rfl, rfl⟩, ?_⟩
    · first | omega | (simp only [List.length_cons]; omega) | (dsimp only; omega)
    · refine Rt.end (less_cons (less_cons (less_cons (less_cons (less_nil _) rfl) rfl) rfl) rfl) ?_
      rw [of_step hlt]
  · have hkk : k = l.length := by simp at ht; omega
    subst hkk
    refine awp_exit (hK3 _ _ ?_)
    refine awp_seq_s KT_ok hc rfl fun K11 hK11 => ?_
    simp -dsimp -implicitDefEqProofs (disch := first | assumption | omega | (simp [maxLen, avs_len] <;> omega) | decide) only [sT_move, sT_assign, sT_nil, ↓reduceIte, q_b, q_f, Nat.reduceEqDiff]
    refine hK11 _ _ ?_
    refine awp_ret ?_
    refine ⟨_, rfl, ?_⟩
    simp
end Go.Proofs.Ytinefghmmbggeaa

/- Sets: has. Waves. -/
set_option linter.unusedVariables false
set_option linter.unusedSimpArgs false
namespace Go.Proofs.Ytinefghmmbggeaa
open Go Go.RowKit
theorem as_set {σ : SetS} : asCells (.d (setD σ)) = some [.d (setD σ)] := rfl
/-- The first index at which p holds, or -1. -/
def findI {α : Type} (p : α → Bool) (l : List α) : Int := match l.findIdx? p with | some i => i | none => -1
theorem findI_at {α : Type} [Inhabited α] {p : α → Bool} : ∀ {l : List α} {k : Nat}, k < l.length → (∀ j, j < k → p (nth l j) = false) → p (nth l k) = true → findI p l = k := by
  intro l k hk hf ht
  have : l.findIdx? p = some k := by
    rw [List.findIdx?_eq_some_iff_getElem]
    refine ⟨hk, by rw [← nth_eq hk]; exact ht, fun j hj => ?_⟩
    rw [← nth_eq (by omega), hf j hj]; simp
  simp [findI, this]
theorem findI_none {α : Type} [Inhabited α] {p : α → Bool} {l : List α} (hf : ∀ j, j < l.length → p (nth l j) = false) : findI p l = -1 := by
  have : l.findIdx? p = none := by
    rw [List.findIdx?_eq_none_iff]
    intro x hx
    obtain ⟨i, hi, rfl⟩ := List.getElem_of_mem hx
    rw [← nth_eq hi]; exact hf i hi
  simp [findI, this]
theorem findI_neg {α : Type} {p : α → Bool} {l : List α} : decide (0 ≤ findI p l) = l.any p := by
  unfold findI
  cases h : l.findIdx? p with
  | none =>
    rw [List.findIdx?_eq_none_iff] at h
    have : l.any p = false := by rw [List.any_eq_false]; intro x hx; simp [h x hx]
    rw [this]; rfl
  | some i =>
    have hi := List.findIdx?_eq_some_iff_getElem.1 h
    obtain ⟨h1, h2, _⟩ := hi
    have : l.any p = true := List.any_eq_true.2 ⟨_, List.getElem_mem h1, h2⟩
    rw [this]; simp
def notIn (σ : SetS) (n : Int) : Bool := !decide (n ∈ keysS σ)
def hasD (σ : SetS) : D := .clo (.func 50) [] [.fp [setD σ] 0]
set_option maxRecDepth 100000 in
set_option linter.unusedVariables false in
set_option maxHeartbeats 4000000 in
theorem has1_c (σ : SetS) (hσ : OkS σ) (n : Int) (hn : I64 n) : PCalls Try.prog 50 [iD n, .fp [setD σ] 0] (.d (.val (.bool (notIn σ n)))) := by
  refine pcalls_of0 (fn := Try.f50) (by kernel_rfl) Try.func50 rfl (Nat.le_of_ble_eq_true rfl) fun c hc hp => ?_
  refine awp_less (τ' := frL [(0, .d (iD n)), (1, .d (.fp [setD σ] 0))]) (less_cons (less_cons (less_nil _) rfl) rfl) ?_
  refine awp_seq_s KT_ok hc rfl fun K1 hK1 => ?_
  simp -dsimp -implicitDefEqProofs (disch := first | assumption | omega | (simp [maxLen, avs_len] <;> omega) | decide) only [sT_assign, sT_nil, q_f, iD]
  refine hK1 _ _ ?_
  refine awp_seq_s KT_ok hc rfl fun K2 hK2 => ?_
  simp -dsimp -implicitDefEqProofs (disch := first | assumption | omega | (simp [maxLen, avs_len] <;> omega) | decide) only [sT_move, sT_assign, sT_load, sT_un, sT_lookup, sT_nil, oK_some, q_o, loadF, u_not, ↓reduceIte, q_b, q_f, q_l, Nat.reduceEqDiff, lk_mp, sz_66, ag_66]
  refine hK2 _ _ ?_
  refine awp_ret ?_
  show closeA _ _ = _
  simp (disch := first | assumption | omega | (simp [maxLen, avs_len] <;> omega) | decide) only [closeA, retV, deep_d, D.fix, frL_get, ↓reduceIte, Option.map_some, List.length_nil, notIn]
set_option maxRecDepth 100000 in
set_option linter.unusedVariables false in
set_option maxHeartbeats 4000000 in
theorem idxf_c (σ : SetS) (hσ : OkS σ) (l : List Int) (hI : I64s l) (hl : l.length ≤ 1000000) : PCalls Try.prog 57 [intsD l, hasD σ] (.d (iD (findI (notIn σ) l))) := by
  refine pcalls_of0 (fn := Try.f57) (by kernel_rfl) Try.func57 rfl (Nat.le_of_ble_eq_true rfl) fun c hc hp => ?_
  refine awp_less (τ' := frL [(0, .d (intsD l)), (1, .d (hasD σ))]) (less_cons (less_cons (less_nil _) rfl) rfl) ?_
  refine awp_seq_s KT_ok hc rfl fun K1 hK1 => ?_
  simp -dsimp -implicitDefEqProofs (disch := first | assumption | omega | (simp [maxLen, avs_len] <;> omega) | decide) only [sT_assign, sT_nil, q_f, intsD]
  refine hK1 _ _ ?_
  refine awp_seq_k fun K2 hK2 => ?_
  refine awp_seq_s KT_ok hc rfl fun K3 hK3 => ?_
  simp -dsimp -implicitDefEqProofs (disch := first | assumption | omega | (simp [maxLen, avs_len] <;> omega) | decide) only [sT_move, sT_len, sT_nil, oK_some, q_o, lenF, builtinF, ↓reduceIte, q_b, q_f, q_s, Nat.reduceEqDiff, eo_27]
  refine hK3 _ _ ?_
  refine awp_block ?_
  refine awp_loop_rt hp (fun τ' H' mm => ∃ k, (k ≤ l.length ∧ ∀ j, j < k → notIn σ (nth l j) = false) ∧ mm = l.length - k ∧ H' = [] ∧ τ' = frL [(0, .d (intsD l)), (1, .d (hasD σ)), (6, .d (intsD l)), (7, .d (iD l.length)), (8, .d (iD k))]) (l.length) ?_ ⟨0, ⟨Nat.zero_le _, fun j hj => absurd hj (by omega)⟩, rfl, rfl, rfl⟩ ?_
  · refine Rt.end (less_cons (less_cons (less_cons (less_cons (less_cons (less_nil _) rfl) rfl) rfl) rfl) rfl) ?_
    first | rfl | (simp only [intsD, boolsD, bytesD, intssD, bytessD, gcH, gcO, gcVs_avs, gcVs, gcV, gcV_d, fzH, fzO, fzVs_avs, fzVs, fzV, posN, avs_nil, avs_cons, List.map_cons, List.map_nil, List.getD_cons_zero, List.getD_cons_succ, ↓reduceIte, Nat.reduceEqDiff, Option.map_some, List.set_cons_zero, List.set_cons_succ, takeD_avs, takeD_all, Nat.mul_one, List.length_map, List.cons_append, List.nil_append]; first | done | rfl)
  rintro τ' H' mm ⟨k, ⟨hk, hf⟩, rfl, rfl, rfl⟩
  refine awp_seq_s KT_ok hc rfl fun K4 hK4 => ?_
  simp -dsimp -implicitDefEqProofs (disch := first | assumption | omega | (simp [maxLen, avs_len] <;> omega) | decide) only [sT_bin, sT_nil, oK_some, q_o, binF_v, v_lss, ↓reduceIte, q_b, q_f, Nat.reduceEqDiff, iD, intsD]
  refine hK4 _ _ ?_
  refine awp_seq_k fun K5 hK5 => ?_
  refine awp_cond rfl (fun ht => ?_) (fun ht => ?_)
  · have hlt : k < l.length := by simp at ht; omega
    refine awp_skip (hK5 _ _ ?_)
    refine awp_seq_k fun K6 hK6 => ?_
    refine awp_block ?_
    refine awp_seq_s KT_ok hc rfl fun K7 hK7 => ?_
    simp -dsimp -implicitDefEqProofs (disch := first | assumption | omega | (simp [maxLen, avs_len] <;> omega) | decide) only [sT_move, sT_assign, sT_nil, ↓reduceIte, q_b, q_f, Nat.reduceEqDiff]
    refine hK7 _ _ ?_
    refine awp_seq_s KT_ok hc rfl fun K8 hK8 => ?_
    simp -dsimp -implicitDefEqProofs (disch := first | assumption | omega | (simp [maxLen, avs_len] <;> omega) | decide) only [sT_move, sT_load, sT_ia, sT_callt, oK_some, q_o, loadF, ixO, indexAddrF, ↓reduceIte, q_b, ifp, q_f, q_s, q_l, Int.toNat_natCast, q_n, Nat.reduceEqDiff, get_map, iD, eo_27, sz_3, ag_3]
    refine kc_clod (fi := []) (ds := [iD (nth l k)]) (ca := [.fp [setD σ] 0]) (has1_c σ hσ (nth l k) (hI.nth hlt)) rfl ?_
    simp -dsimp -implicitDefEqProofs (disch := first | assumption | omega | (simp [maxLen, avs_len] <;> omega) | decide) only [sT_nil, q_f]
    refine hK8 _ _ ?_
    refine awp_cond rfl (fun ht => ?_) (fun ht => ?_)
    · have hx := findI_at hlt hf ht
      refine awp_seq_s KT_ok hc rfl fun K9 hK9 => ?_
      simp -dsimp -implicitDefEqProofs (disch := first | assumption | omega | (simp [maxLen, avs_len] <;> omega) | decide) only [sT_move, sT_assign, sT_nil, ↓reduceIte, q_b, q_f, Nat.reduceEqDiff]
      refine hK9 _ _ ?_
      refine awp_ret ?_
      show closeA _ _ = _
      simp (disch := first | assumption | omega | (simp [maxLen, avs_len] <;> omega) | decide) only [closeA, retV, deep_d, D.fix, frL_get, ↓reduceIte, Option.map_some, List.length_nil, iD, hx]
    · have hf' : ∀ j, j < k + 1 → notIn σ (nth l j) = false := fun j hj => by
        rcases Nat.lt_or_ge j k with h | h
        · exact hf j h
        · obtain rfl : j = k := by omega
          exact ht
      refine awp_skip (hK6 _ _ ?_)
      refine awp_s KT_ok hc rfl fun K10 hK10 => ?_
      simp -dsimp -implicitDefEqProofs (disch := first | assumption | omega | (simp [maxLen, avs_len] <;> omega) | decide) only [sT_move, sT_bin, sT_nil, oK_some, q_o, binF_v, v_add, ↓reduceIte, q_b, q_f, Nat.reduceEqDiff]
      refine hK10 _ _ ⟨_, _, _, ?_, ⟨k + 1, ⟨by omega, hf'⟩, rfl, rfl, rfl⟩, ?_⟩
      · first | omega | (simp only [List.length_cons]; omega) | (dsimp only; omega)
      · refine Rt.end (less_cons (less_cons (less_cons (less_cons (less_cons (less_nil _) rfl) rfl) rfl) rfl) rfl) ?_
        first | rfl | (simp only [intsD, boolsD, bytesD, intssD, bytessD, gcH, gcO, gcVs_avs, gcVs, gcV, gcV_d, fzH, fzO, fzVs_avs, fzVs, fzV, posN, avs_nil, avs_cons, List.map_cons, List.map_nil, List.getD_cons_zero, List.getD_cons_succ, ↓reduceIte, Nat.reduceEqDiff, Option.map_some, List.set_cons_zero, List.set_cons_succ, takeD_avs, takeD_all, Nat.mul_one, List.length_map, List.cons_append, List.nil_append]; first | done | rfl)
  · have hx : findI (notIn σ) l = -1 := findI_none fun j hj => hf j (by simp at ht; omega)
    refine awp_exit (hK2 _ _ ?_)
    refine awp_seq_s KT_ok hc rfl fun K11 hK11 => ?_
    simp -dsimp -implicitDefEqProofs (disch := first | assumption | omega | (simp [maxLen, avs_len] <;> omega) | decide) only [sT_assign, sT_nil, q_f]
    refine hK11 _ _ ?_
    refine awp_ret ?_
    show closeA _ _ = _
    simp (disch := first | assumption | omega | (simp [maxLen, avs_len] <;> omega) | decide) only [closeA, retV, deep_d, D.fix, frL_get, ↓reduceIte, Option.map_some, List.length_nil, iD, hx]
set_option maxRecDepth 100000 in
set_option linter.unusedVariables false in
set_option maxHeartbeats 4000000 in
theorem contf_c (σ : SetS) (hσ : OkS σ) (l : List Int) (hI : I64s l) (hl : l.length ≤ 1000000) : PCalls Try.prog 49 [intsD l, hasD σ] (.d (.val (.bool (l.any (notIn σ))))) := by
  refine pcalls_of0 (fn := Try.f49) (by kernel_rfl) Try.func49 rfl (Nat.le_of_ble_eq_true rfl) fun c hc hp => ?_
  refine awp_less (τ' := frL [(0, .d (intsD l)), (1, .d (hasD σ))]) (less_cons (less_cons (less_nil _) rfl) rfl) ?_
  refine awp_seq_s KT_ok hc rfl fun K1 hK1 => ?_
  simp -dsimp -implicitDefEqProofs (disch := first | assumption | omega | (simp [maxLen, avs_len] <;> omega) | decide) only [sT_assign, sT_nil, q_f, intsD]
  refine hK1 _ _ ?_
  refine awp_seq_s KT_ok hc rfl fun K2 hK2 => ?_
  simp -dsimp -implicitDefEqProofs (disch := first | assumption | omega | (simp [maxLen, avs_len] <;> omega) | decide) only [sT_move, sT_call0, ↓reduceIte, q_b, q_f, q_s, q_l, Nat.reduceEqDiff]
  refine kc_by (idxf_c σ hσ l hI hl) rfl ?_
  simp -dsimp -implicitDefEqProofs (disch := first | assumption | omega | (simp [maxLen, avs_len] <;> omega) | decide) only [sT_assign, sT_bin, sT_nil, oK_some, q_o, binF_v, v_geq, ↓reduceIte, q_b, q_f, iD]
  refine hK2 _ _ ?_
  refine awp_ret ?_
  show closeA _ _ = _
  simp (disch := first | assumption | omega | (simp [maxLen, avs_len] <;> omega) | decide) only [closeA, retV, deep_d, D.fix, frL_get, ↓reduceIte, Option.map_some, List.length_nil, findI_neg]
def allIn (σ : SetS) (l : List Int) : Bool := l.all fun n => decide (n ∈ keysS σ)
theorem not_any {σ : SetS} {l : List Int} : (!l.any (notIn σ)) = allIn σ l := by
  unfold allIn notIn
  rw [List.all_eq_not_any_not]
set_option maxRecDepth 100000 in
set_option linter.unusedVariables false in
set_option maxHeartbeats 4000000 in
theorem has_c (σ : SetS) (hσ : OkS σ) (l : List Int) (hI : I64s l) (hl : l.length ≤ 1000000) : PCalls Try.prog 37 [setD σ, intsD l] (.d (.val (.bool (allIn σ l)))) := by
  refine pcalls_of0 (fn := Try.f37) (by kernel_rfl) Try.func37 rfl (Nat.le_of_ble_eq_true rfl) fun c hc hp => ?_
  refine awp_less (τ' := frL [(0, .d (setD σ)), (1, .d (intsD l))]) (less_cons (less_cons (less_nil _) rfl) rfl) ?_
  refine awp_seq_s KT_ok hc rfl fun K1 hK1 => ?_
  simp -dsimp -implicitDefEqProofs (disch := first | assumption | omega | (simp [maxLen, avs_len] <;> omega) | decide) only [sT_assign, sT_box, deadH, sT_nil, oK_some, q_o, layF, ↓reduceIte, q_b, q_f, q_l, q_s, intsD, deadH, as_set]
  refine hK1 _ _ ?_
  refine awp_seq_s KT_ok hc rfl fun K2 hK2 => ?_
  simp -dsimp -implicitDefEqProofs (disch := first | assumption | omega | (simp [maxLen, avs_len] <;> omega) | decide) only [sT_move, sT_mf, sT_call0, ↓reduceIte, q_b, q_f, q_s, q_l, q_n, Nat.reduceEqDiff]
  refine kc_own (contf_c σ hσ l hI hl) ?_ ?_
  · simp (disch := first | assumption | omega | (simp [maxLen, avs_len] <;> omega) | decide) only [deep_d, deepL_nil, deepL_cons, lookH_eq, cellsOf_c, deep_op, deep_clo, Nat.reduceAdd, fix_fs, Option.map_some, Option.bind_some, List.getElem?_cons_zero, intsD, fix_setD, hasD]
  simp -dsimp -implicitDefEqProofs (disch := first | assumption | omega | (simp [maxLen, avs_len] <;> omega) | decide) only [sT_assign, sT_un, sT_nil, oK_some, u_not, ↓reduceIte, q_b, q_f]
  refine hK2 _ _ ?_
  refine awp_ret ?_
  show closeA _ _ = _
  simp (disch := first | assumption | omega | (simp [maxLen, avs_len] <;> omega) | decide) only [closeA, retV, deep_d, Nat.zero_add, D.fix, frL_get, ↓reduceIte, Option.map_some, List.length_cons, List.length_nil, not_any]
end Go.Proofs.Ytinefghmmbggeaa

/- The sorted list of a set's elements: (set).list, by the library's range and sort. -/
set_option linter.unusedVariables false
set_option linter.unusedSimpArgs false
namespace Go.Proofs.Ytinefghmmbggeaa
open Go Go.RowKit Go.Maps Go.Sort
open Go.WideElems (Fit rd rg rg_of)

theorem Try.info3 : (Try.prog.info? 3).map (fun i => (i.zero, i.size, i.bytes)) = some (some (.int .i64 0), 1, 8) := by kernel_rfl
abbrev leI : Int → Int → Bool := fun x y => decide (x ≤ y)
def sortI (l : List Int) : List Int := l.mergeSort leI
theorem sortI_perm {l l' : List Int} (h : l.Perm l') : sortI l = sortI l' := by
  have tr : ∀ a b c : Int, leI a b = true → leI b c = true → leI a c = true := fun a b c h1 h2 => by simp only [leI, decide_eq_true_eq] at *; omega
  have to : ∀ a b : Int, (leI a b || leI b a) = true := fun a b => by simp only [leI, Bool.or_eq_true, decide_eq_true_eq]; omega
  refine List.Perm.eq_of_pairwise (le := fun a b => leI a b = true) (fun a b _ _ h1 h2 => ?_) (List.pairwise_mergeSort tr to l) (List.pairwise_mergeSort tr to l') (((List.mergeSort_perm l leI).trans h).trans (List.mergeSort_perm l' leI).symm)
  simp only [leI, decide_eq_true_eq] at h1 h2
  omega
/-- A set's elements, in their order. -/
def listS (σ : SetS) : List Int := sortI (keysS σ)
/-- How an element reads: it is true. -/
def onlyTrue : Value → Option (DataW Unit × List MemPlace)
  | .bool true => some (.lit (.bool true), [])
  | _ => none
/-- What a range has met. -/
def Met (D0 : DataW Unit) (left : Lit → Bool) (ss : List Int) : Prop := ss.Nodup ∧ ∀ x, x ∈ ss ↔ (has D0 (.int .i64 x) = true ∧ left (.int .i64 x) = false)
theorem Met.start (D0 : DataW Unit) : Met D0 (has D0) [] := ⟨List.nodup_nil, fun x => by cases has D0 (.int .i64 x) <;> simp⟩
theorem Met.step {D0 : DataW Unit} {left : Lit → Bool} {ss : List Int} (h : Met D0 left ss) {x : Int} {y : DataW Unit} (hlk : left (.int .i64 x) = true) (hat : ∀ zd, D0.atKey (.int .i64 x) zd = y) : Met D0 (fun z => left z && !z.sameKey (.int .i64 x)) (ss ++ [x]) := by
  have hhas : has D0 (.int .i64 x) = true := has_true_of_atKey hat
  have hnew : x ∉ ss := fun hx => by have := ((h.2 x).1 hx).2; rw [hlk] at this; cases this
  refine ⟨List.nodup_append.2 ⟨h.1, by simp, fun a ha b hb => by simp at hb; subst hb; exact fun e => hnew (e ▸ ha)⟩, fun y => ?_⟩
  by_cases hy : y = x
  · subst hy; simp [hhas, Lit.sameKey]
  · simp [h.2 y, hy, Lit.sameKey]
theorem wf_i64 {n : Int} (hn : I64 n) : (Lit.int .i64 n).wf = true := by
  obtain ⟨h1, h2⟩ := hn
  simp [Lit.wf]
  exact ⟨h1, by omega⟩
set_option maxRecDepth 100000 in
/-- The map of a set, as the library reads it. -/
theorem owns_set {w : World} {b : Nat} {σ : SetS} (hσ : OkS σ) (hl : σ.1.length ≤ maxLen) (hg : w.heap[b]? = some (.map (msOf (setV σ.1)) σ.2)) :
    ∃ D0 : DataW Unit, w.ownsMap Try.prog 3 onlyTrue b σ.1.length D0 ∧ Maps.size D0 = σ.1.length ∧ ∀ x, has D0 (.int .i64 x) = true ↔ x ∈ keysS σ := by
  have hms : (msOf (setV σ.1)).toList = σ.1.map fun p => (⟨.int .i64 p.1, .bool true, p.2⟩ : MapEntry) := by simp [msOf, setV, Function.comp_def]
  have hrd : ∀ p ∈ σ.1, rd (H := Unit) Try.prog 3 onlyTrue ⟨.int .i64 p.1, .bool true, p.2⟩ = some (.int .i64 p.1, .lit (.bool true)) := fun p hp => by
    have hw := wf_i64 (hσ.i64 p hp)
    simp [Go.WideElems.rd, keyOf, mapKey, Try.underlying3, hw, onlyTrue]
  have hF : Fit (H := Unit) Try.prog 3 onlyTrue (msOf (setV σ.1)) σ.2 := by
    refine ⟨by simp [msOf, setV]; exact hl, ⟨fun x hx => ?_, ?_, ?_⟩, fun x hx => ?_⟩
    · rw [hms] at hx
      obtain ⟨p, hp, rfl⟩ := List.mem_map.1 hx
      exact hσ.old p hp
    · rw [hms, List.map_map]; exact hσ.born
    · rw [hms, List.map_map]
      have : (List.map ((fun x : MapEntry => x.key) ∘ fun p : Int × Nat => (⟨.int .i64 p.1, .bool true, p.2⟩ : MapEntry)) σ.1) = (keysS σ).map (Value.int .i64) := by simp [keysS, Function.comp_def]
      rw [this]
      exact List.pairwise_map.2 (hσ.keys.imp fun hne e => hne (by injection e))
    · rw [hms] at hx
      obtain ⟨p, hp, rfl⟩ := List.mem_map.1 hx
      exact ⟨_, hrd p hp⟩
  have hD : ((msOf (setV σ.1)).toList.map (rg (H := Unit) Try.prog 3 onlyTrue)) = σ.1.map fun p => (Lit.int .i64 p.1, DataW.lit (.bool true)) := by
    rw [hms, List.map_map]
    exact List.map_congr_left fun p hp => by
      show rg (H := Unit) Try.prog 3 onlyTrue ⟨.int .i64 p.1, .bool true, p.2⟩ = _
      unfold Go.WideElems.rg
      rw [hrd p hp]; rfl
  refine ⟨_, ⟨_, _, hg, hF, by simp [msOf, setV], rfl⟩, ?_, fun x => ?_⟩
  · rw [hD]
    simp [Maps.size, length_sorted]
  · rw [hD, has_eq, List.any_eq_true]
    constructor
    · rintro ⟨q, hq, hs⟩
      obtain ⟨p, hp, rfl⟩ := List.mem_map.1 (mem_sorted.1 hq)
      have : p.1 = x := by simpa [Lit.sameKey] using hs
      exact this ▸ List.mem_map_of_mem hp
    · intro hx
      obtain ⟨p, hp, rfl⟩ := List.mem_map.1 hx
      exact ⟨_, mem_sorted.2 (List.mem_map_of_mem hp), by simp [Lit.sameKey]⟩
set_option maxRecDepth 100000 in
set_option maxHeartbeats 1000000 in
theorem list_any {σ : SetS} (hσ : OkS σ) (hl : σ.1.length ≤ 1000000) (b : Nat) (w : World) (hg : w.heap[b]? = some (.map (msOf (setV σ.1)) σ.2)) :
    Calls Try.prog 42 #[.map (some b)] w fun e w' => ∃ (g cap : Nat) (ss : List Int), e = .returned (.slice (some ⟨g, 0, none⟩) ss.length cap) ∧ ss.Perm (keysS σ) ∧
      w'.ownsRow w.heap.size 3 1 (.slice (some ⟨g, 0, none⟩) ss.length cap) ss.length ((sortI ss).map (Value.int .i64)) ∧ Below w.heap.size w w' := by
  obtain ⟨i0, hi, hz0, hz1, hz2⟩ := info_parts Try.info3
  obtain ⟨D0, hown, hsize, hhas⟩ := owns_set hσ (by unfold maxLen; omega) hg
  have hbl := hown.lt
  generalize σ.1.length = n at hown hsize hl
  subst hsize
  go_enter Try.func42, Try.ntmps42
  go_wp2_with (first
    | (at_len; refine wpList_len_own _ rfl _ 66 rfl 3 4 Try.underlying66 _ b _ _ rfl hown ?_)
    | (at_make; refine wpList_make_own _ rfl _ _ 27 rfl w.heap.size 3 i0 (.int .i64 0) 1 Try.underlying27 hi hz0 hz1 _ _ _ (Maps.size D0) rfl rfl rfl (by rw [hz2]; omega) (by unfold maxLen; omega) (Nat.le_refl _) ?_; intro w1 hrow1 hg1)
    | (at_range; refine wpList_range_own _ rfl _ 66 rfl 3 4 key3 Try.underlying66 _ b _ _ rfl (hown.kept hg1 (by simp)) ?_; intro w0 hrg0 hg0 hs0)
    | go_in)
  go_frame
  go_loopw [3] (fun v wr => ∃ (left : Lit → Bool) (cnt : Nat) (ss : List Int), wr.ranges Try.prog 3 onlyTrue b w1.heap.size (Maps.size D0) D0 left cnt ∧ ss.length + cnt ≤ Maps.size D0 ∧
      wr.ownsRow w.heap.size 3 1 v ss.length (ss.map (Value.int .i64)) ∧ v ≠ .slice none 0 0 ∧ Met D0 left ss ∧ Below w.heap.size w wr)
    (fun _ wr => wr.rangeLeft b w1.heap.size)
  case atStart =>
    exact ⟨_, _, [], hrg0, by simp, hrow1.kept hg0 (Or.inr (by simp [Value.ownBlock])), by simp, Met.start D0,
      ((Below.refl _ _).grown hg1 (Nat.le_refl _) (fun j hj => by cases hj)).grown hg0 hg1.size (fun j hj => by cases hj)⟩
  case round =>
    obtain ⟨left, cnt, ss, hrg, hcs, hrow, hnn, hC, hnx⟩ := hrel
    go_wp2_with (first
      | (at_next; refine wpList_next_ranges _ rfl _ rfl 3 key3 onlyTrue (Value.int .i64) (fun _ : Int => Value.bool true) (fun key kl hk => by obtain ⟨x, hx, _⟩ := Maps.keyOf_int_inv Try.underlying3 hk; exact ⟨x, hx⟩) (fun v y hv => by unfold onlyTrue at hv; split at hv; exact ⟨0, rfl⟩; cases hv) b w1.heap.size _ _ _ _ rfl hrg ?_ ?_)
      | go_in)
    · -- nothing is left: the slice is sorted and handed back
      intro hc0 hl0
      rcases hrow.2 with ⟨hnil, _⟩ | ⟨g, cap, cur, rfl, hbase, hb, h1, h2, h3, h4⟩
      · exact absurd hnil hnn
      have hH : Holds (Value.int .i64) wr g 0 ss.toArray := holds_of_blockI hb (by simpa using h4)
      have hgl : g < wr.heap.size := (Array.getElem?_eq_some_iff.1 hb).1
      have hc : Calls Try.prog 52 #[.slice (some ⟨g, 0, none⟩) ss.length cap] wr _ := Any.slices_Sort_int sortLays g 0 cap ss wr hH hgl (by omega)
      go_wp2_with (go_at_call 52; refine hc.mono ?_; rintro e w' ⟨rfl, nn, os, rfl⟩)
      go_ret
      refine ⟨g, cap, ss, rfl, ?_, ownsRow_sortedI (by simp [sortI]) hbase hb h1 h2 h3, hnx.grown (grownBy_sortedI _) hnx.size (fun j hj => by cases hj; exact hbase)⟩
      exact (List.perm_ext_iff_of_nodup hC.1 hσ.keys).2 fun x => by rw [hC.2 x, hl0, hhas x]; simp
    · -- an entry has come: its key goes to the slice's end
      intro x c kl yd w2 cnt2 hkey hlk hv hat hrg2 hlt hg2 hs2 hen
      obtain ⟨x', ex, rfl, _⟩ := Maps.keyOf_int_inv Try.underlying3 hkey
      obtain rfl : x = x' := by injection ex
      have hrow2 := hrow.kept hg2 (Or.inr (row_ne_iter hrow hrg).symm)
      clear hs2
      go_wp2_with (first
        | (at_builtin; refine wpList_append_own _ rfl _ _ 27 rfl w.heap.size 3 i0 (.int .i64 0) 1 8 Try.underlying27 hi hz0 hz1 hz2 rfl (by decide) _ _ _ rfl (hrow2.alloc _) ⟨w2.heap.size, 0, none⟩ 1 1 [.int .i64 x] rfl rfl (cell_one_new _ _ _) (by simp [Value.oneCell']) (by unfold maxLen at *; omega) (by omega) (by have := hnx.size; have := hg2.size; simp; omega) ?_; intro v' w3 hown' hg3 hnil3; go_frame)
        | go_in)
      have hrg3 := (hrg2.alloc _).kept hg3 (row_ne_low hrow2 hbl) (row_ne_iter hrow2 hrg2)
      go_roundw
      case rel =>
        refine ⟨_, cnt2, ss ++ [x], hrg3, by simp; omega, by simpa using hown', fun hv' => by have := (hnil3.1 hv').2; omega, hC.step hlk hat, ?_⟩
        exact ((hnx.grown hg2 hnx.size (fun j hj => by cases hj; exact hg1.size)).alloc (by have := hnx.size; have := hg2.size; omega) _).grown hg3 (by have := hnx.size; have := hg2.size; simp; omega) (fun j hj => (hrow2.lt j hj).1)
      case measure => rw [hrg3.left_eq, hrg.left_eq]; exact hlt
theorem list_c (σ : SetS) (hσ : OkS σ) (hl : σ.1.length ≤ 1000000) : NCalls Try.prog 42 [setD σ] (.d (intsD (listS σ))) := by
  refine ⟨by kernel_rfl, fun w O vals hn hx hO => ?_⟩
  have h0 := hx 0 _ rfl
  obtain ⟨v, rfl⟩ : ∃ v, vals = #[v] := ⟨vals.getD 0 undef, by
    apply Array.ext
    · simpa using hn
    · intro i hi _
      have : i = 0 := by simp at hn; omega
      subst this
      simp [Array.getD, hn]⟩
  have h0 : RdD w O (setD σ) v := h0
  cases h0 with | mp _ _ b hb ho hg hnd =>
  refine (list_any hσ hl b w hg).mono fun e w' ⟨g, cap, ss, he, hp, hrow, hbe⟩ => ⟨_, he, ?_, hbe⟩
  have hss : sortI ss = listS σ := sortI_perm hp
  rcases hrow.2 with ⟨h, _⟩ | ⟨g', cap', cur, hv, hbase, hgg, h1, h2, h3, h4⟩
  · cases h
  cases hv
  rw [hss] at hrow
  have hll : (listS σ).length = ss.length := by rw [← hss]; simp [sortI]
  have hlm : ((listS σ).map iD).length = ss.length := by simp [hll]
  unfold intsD
  rw [hll]
  refine .d _ _ (.fs _ _ _ g 0 (fun j => .int .i64 (nth (listS σ) j)) (Array.getElem?_eq_some_iff.1 hgg).1 ?_ h1 h2 (fun j x hj => ?_) (fun _ _ _ => rfl) (fun j x hj => ?_))
  · rintro (h | h)
    · have := hO g h; omega
    · omega
  · have hjl : j < ss.length := by rw [← hlm]; exact (List.getElem?_eq_some_iff.1 hj).1
    rw [Nat.zero_add, hrow.cellAt j (by omega), get_map (by omega)]
  · have hjl : j < ss.length := by rw [← hlm]; exact (List.getElem?_eq_some_iff.1 hj).1
    rw [get_map (by omega)] at hj
    cases hj
    exact .val _
end Go.Proofs.Ytinefghmmbggeaa

/- slices.Grow of nil: an empty row of the caller's own. -/
set_option linter.unusedVariables false
set_option linter.unusedSimpArgs false
namespace Go.Proofs.Ytinefghmmbggeaa
open Go Go.RowKit Go.Shelf
def growRen : Ren where
  f x := match x with
    | 4 => 58
    | n => n
  t x := match x with
    | 22 => 27
    | 25 => 3
    | 3 => 3
    | 4 => 4
    | 9 => 9
    | 20 => 20
    | 0 => 0
    | n => n
  g x := x
theorem growLays : Lays8.n4 Try.prog growRen :=
  { mixed := by kernel_rfl, f4 := ⟨Try.f58.name, by kernel_rfl, Try.func58.trans (congrArg some (by kernel_rfl))⟩
    t0 := Try.underlying0, a0 := Try.isAgg0, z0 := Try.sizeOf0, v0 := Try.zeroValue0, t3 := Try.underlying3,
    a3 := Try.isAgg3, z3 := Try.sizeOf3, v3 := Try.zeroValue3, t4 := Try.underlying4, a4 := Try.isAgg4, z4 := Try.sizeOf4,
    v4 := Try.zeroValue4, t9 := Try.underlying9, a9 := Try.isAgg9, z9 := Try.sizeOf9, v9 := Try.zeroValue9,
    t20 := Try.underlying20, a20 := Try.isAgg20, z20 := Try.sizeOf20, v20 := Try.zeroValue20, t22 := Try.underlying27,
    a22 := Try.isAgg27, z22 := Try.sizeOf27, v22 := Try.zeroValue27 }
theorem vals2 {vals : Array Value} (h : vals.size = 2) : vals = #[vals.getD 0 undef, vals.getD 1 undef] := by
  apply Array.ext
  · simpa using h
  · intro i hi _
    match i, hi with
    | 0, hi => simp [Array.getD, h]
    | 1, hi => simp [Array.getD, h]
    | n + 2, hi => omega
theorem grow_c (n : Nat) (hn : n ≤ 1000000) : LCalls Try.prog 58 [.val (.slice none 0 0), iD n] (fun id => .os 1 id 0 0) (.cells []) := by
  refine ⟨by kernel_rfl, fun w O vals hs hx hO => ?_⟩
  have hv := vals2 (vals := vals) (by simpa using hs)
  have h0 := hx 0 _ rfl
  have h1 := hx 1 _ rfl
  rw [hv]; clear hv hx
  generalize vals.getD 0 undef = v0 at h0 ⊢
  generalize vals.getD 1 undef = v1 at h1 ⊢
  cases h0
  cases h1
  rcases Nat.eq_zero_or_pos n with rfl | hp
  · have hc : Calls Try.prog 58 #[.slice none 0 0, .int .i64 (0 : Nat)] w _ := Any8.slices_Grow_room growLays none 0 0 0 w (Nat.le_refl _) (by omega) (by omega) (by omega)
    refine hc.mono fun e w' ⟨he, hw⟩ => ⟨_, none, he, hw ▸ Below.refl _ _, fun q hq => (by cases hq), fun pl n own' hpl ho => ⟨.inl ⟨rfl, hpl⟩, .os0 _ _ _ _⟩⟩
  · obtain ⟨i0, hi, hz0, hz1, hz2⟩ := info_parts Try.info3
    have hc : Calls Try.prog 58 #[.slice none 0 0, .int .i64 (n : Nat)] w _ := Any8.slices_Grow_grow growLays i0 (.int .i64 0) hi hz0 (by omega) none 0 0 n [] w (Nat.le_refl _) (by omega) (by rw [hz2]; omega) (by omega) (by simp) (fun _ => rfl) (fun a ha => by cases ha)
    refine hc.mono fun e w' ⟨he, hw⟩ => ⟨_, some (w.heap.size, 0), he, ?_, fun q hq => (by cases hq; exact Nat.le_refl _), fun pl m own' hpl ho => ?_⟩
    · subst hw
      exact (Below.refl w.heap.size w).drew.alloc (Nat.le_refl _) _
    · generalize hG : grownCap w (0 + n) 0 (growRen.t 25) = G at he hw
      have hGn : 0 + n ≤ G := by rw [← hG]; exact grownCap_ge w _ _ _
      have hGm : G ≤ maxLen := by rw [← hG]; exact grownCap_le_maxLen w (0 + n) 0 3 (by unfold maxLen; omega)
      have hgg : w'.heap[w.heap.size]? = some (.cells (([] : List Value).toArray ++ Builtin.zeroCells (Value.int .i64 0).cells (0 + n - 0) ++ Builtin.zeroCells (Value.int .i64 0).cells (G - (0 + n))) 3 (0, 0)) := by
        rw [hw]; exact heap_alloc_new _ _
      have hsz : (([] : List Value).toArray ++ Builtin.zeroCells (Value.int .i64 0).cells (0 + n - 0) ++ Builtin.zeroCells (Value.int .i64 0).cells (G - (0 + n))).size = G := by
        have hz : ∀ k, (Builtin.zeroCells (Value.int .i64 0).cells k).size = k := fun k => by
          have h1 : (Value.int IntKind.i64 0).cells.size = 1 := rfl
          simp [size_zeroCells, h1]
        simp only [Array.size_append, hz]
        simp; omega
      clear hw hc
      refine ⟨.inr ⟨w.heap.size, 0, _, _, hpl, hgg, by simp, fun j x hj => by simp at hj⟩, ?_⟩
      exact .os 1 m 0 0 G w.heap.size 0 G 3 hpl (by unfold World.shape?; rw [hgg]; exact congrArg (fun q => some ((3 : TypeId), q)) hsz) (Nat.zero_le _) hGm (by omega)
end Go.Proofs.Ytinefghmmbggeaa

/- Waves: Concat, upto, Contains, wave. -/
set_option linter.unusedVariables false
set_option linter.unusedSimpArgs false
namespace Go.Proofs.Ytinefghmmbggeaa
open Go Go.RowKit
/-- A rollout. -/
structure Rol where
  frm : Int
  to : Int
  wv : List (List Int)
  slk : Int
  pos : Int
  dn : List Int
  st : Int
  deriving Inhabited, DecidableEq
/-- A report. -/
structure Rep where
  chip : Int
  no : Int
  slk : Int
  same : Bool
  runs : Bool
  deriving Inhabited, DecidableEq
def rolC (r : Rol) : List D := [iD r.frm, iD r.to, intssD r.wv, iD r.slk, iD r.pos, intsD r.dn, iD r.st]
def rolD (r : Rol) : D := .agg (rolC r)
def repC (p : Rep) : List D := [iD p.chip, iD p.no, iD p.slk, oD p.same, oD p.runs]
def repD (p : Rep) : D := .agg (repC p)
theorem fix_rol {r : Rol} : (rolD r).fix = rolD r := rfl
theorem fix_rep {r : Rep} : (repD r).fix = repD r := rfl
def sumL (w : List (List Int)) : Nat := w.flatten.length
theorem sum_step {w : List (List Int)} {k : Nat} (h : k < w.length) : sumL (w.take (k + 1)) = sumL (w.take k) + (nth w k).length := by
  rw [take_nth h]; simp [sumL]
theorem flat_step {w : List (List Int)} {k : Nat} (h : k < w.length) : (w.take (k + 1)).flatten = (w.take k).flatten ++ nth w k := by
  rw [take_nth h]; simp
theorem sum_take (w : List (List Int)) (k : Nat) : sumL (w.take k) ≤ sumL w := by
  have h : (w.take k ++ w.drop k).flatten = w.flatten := by rw [List.take_append_drop]
  unfold sumL
  rw [← h, List.flatten_append, List.length_append]; omega
set_option maxRecDepth 100000 in
set_option linter.unusedVariables false in
set_option maxHeartbeats 4000000 in
theorem concat_c (w : List (List Int)) (h1 : w.length ≤ 1000000) (h2 : sumL w ≤ 1000000) : PCalls Try.prog 51 [intssD w] (.d (intsD w.flatten)) := by
  refine pcalls_of0 (fn := Try.f51) (by kernel_rfl) Try.func51 rfl (Nat.le_of_ble_eq_true rfl) fun c hc hp => ?_
  refine awp_less (τ' := frL [(0, .d (intssD w))]) (less_cons (less_nil _) (by first | rfl | (simp [Fr.put, frL, gcV, fzV, posN, iD, bD, uD, oD, intsD, boolsD, bytesD, intssD, bytessD]; done) | simp [Fr.put, frL, gcV, fzV, posN, iD, bD, uD, oD, intsD, boolsD, bytesD, intssD, bytessD, *])) ?_
  refine awp_seq_s KT_ok hc rfl fun K1 hK1 => ?_
  simp -dsimp -implicitDefEqProofs (disch := first | assumption | omega | (simp only [maxLen, List.length_replicate, eq_self, true_and, and_true, and_self, avs_len, List.length_map, List.length_append, List.length_cons, List.length_nil, List.length_set, List.length_range, List.length_take, List.length_drop] <;> omega) | decide | fail) only [sT_assign, sT_nil, frL_put, evalA_const, intssD]
  refine hK1 _ _ ?_
  refine awp_seq_s KT_ok hc rfl fun K2 hK2 => ?_
  simp -dsimp -implicitDefEqProofs (disch := first | assumption | omega | (simp only [maxLen, List.length_replicate, eq_self, true_and, and_true, and_self, avs_len, List.length_map, List.length_append, List.length_cons, List.length_nil, List.length_set, List.length_range, List.length_take, List.length_drop] <;> omega) | decide | fail) only [sT_assign, sT_nil, frL_put, evalA_const]
  refine hK2 _ _ ?_
  refine awp_seq_k fun K3 hK3 => ?_
  refine awp_seq_s KT_ok hc rfl fun K4 hK4 => ?_
  simp -dsimp -implicitDefEqProofs (disch := first | assumption | omega | (simp only [maxLen, List.length_replicate, eq_self, true_and, and_true, and_self, avs_len, List.length_map, List.length_append, List.length_cons, List.length_nil, List.length_set, List.length_range, List.length_take, List.length_drop] <;> omega) | decide | fail) only [sT_move, sT_len, sT_nil, oK_some, Option.map_some, lenF, builtinF, ↓reduceIte, eq_self, frL_get, frL_put, evalA_tmp, evalA_const, List.map_cons, List.map_nil, Nat.reduceEqDiff, eo_26]
  refine hK4 _ _ ?_
  refine awp_block ?_
  refine awp_loop_rt hp (fun τ' H' mm => ∃ k, (k ≤ w.length) ∧ mm = w.length - k ∧ H' = [] ∧ τ' = frL [(0, .d (intssD w)), (3, .d (iD (sumL (w.take k)))), (9, .d (intssD w)), (10, .d (iD w.length)), (11, .d (iD k))]) (w.length) ?_ ⟨0, Nat.zero_le _, rfl, rfl, rfl⟩ ?_
  · refine Rt.end (less_cons (less_cons (less_cons (less_cons (less_cons (less_nil _) (by first | rfl | (simp [Fr.put, frL, gcV, fzV, posN, iD, bD, uD, oD, intsD, boolsD, bytesD, intssD, bytessD]; done) | simp [Fr.put, frL, gcV, fzV, posN, iD, bD, uD, oD, intsD, boolsD, bytesD, intssD, bytessD, *])) (by first | rfl | (simp [Fr.put, frL, gcV, fzV, posN, iD, bD, uD, oD, intsD, boolsD, bytesD, intssD, bytessD]; done) | simp [Fr.put, frL, gcV, fzV, posN, iD, bD, uD, oD, intsD, boolsD, bytesD, intssD, bytessD, *])) (by first | rfl | (simp [Fr.put, frL, gcV, fzV, posN, iD, bD, uD, oD, intsD, boolsD, bytesD, intssD, bytessD]; done) | simp [Fr.put, frL, gcV, fzV, posN, iD, bD, uD, oD, intsD, boolsD, bytesD, intssD, bytessD, *])) (by first | rfl | (simp [Fr.put, frL, gcV, fzV, posN, iD, bD, uD, oD, intsD, boolsD, bytesD, intssD, bytessD]; done) | simp [Fr.put, frL, gcV, fzV, posN, iD, bD, uD, oD, intsD, boolsD, bytesD, intssD, bytessD, *])) (by first | rfl | (simp [Fr.put, frL, gcV, fzV, posN, iD, bD, uD, oD, intsD, boolsD, bytesD, intssD, bytessD]; done) | simp [Fr.put, frL, gcV, fzV, posN, iD, bD, uD, oD, intsD, boolsD, bytesD, intssD, bytessD, *])) ?_
    first | rfl | (simp only [intsD, boolsD, bytesD, intssD, bytessD, gcH, gcO, gcVs_avs, gcVs, gcV, gcV_d, fzH, fzO, fzVs_avs, fzVs, fzV, posN, avs_nil, avs_cons, List.map_cons, List.map_nil, List.getD_cons_zero, List.getD_cons_succ, ↓reduceIte, Nat.reduceEqDiff, Option.map_some, List.set_cons_zero, List.set_cons_succ, takeD_avs, takeD_all, Nat.mul_one, List.length_map, List.cons_append, List.nil_append]; first | done | rfl)
  rintro τ' H' mm ⟨k, hk, rfl, rfl, rfl⟩
  refine awp_seq_s KT_ok hc rfl fun K5 hK5 => ?_
  simp -dsimp -implicitDefEqProofs (disch := first | assumption | omega | (simp only [maxLen, List.length_replicate, eq_self, true_and, and_true, and_self, avs_len, List.length_map, List.length_append, List.length_cons, List.length_nil, List.length_set, List.length_range, List.length_take, List.length_drop] <;> omega) | decide | fail) only [sT_bin, sT_nil, oK_some, Option.map_some, binF_v, v_lss, ↓reduceIte, eq_self, frL_get, frL_put, evalA_tmp, Nat.reduceEqDiff, iD, intssD]
  refine hK5 _ _ ?_
  refine awp_seq_k fun K6 hK6 => ?_
  refine awp_cond rfl (fun ht => ?_) (fun ht => ?_)
  · have hlt : k < w.length := by simp at ht; omega
    have hs := sum_step hlt
    have hs1 := sum_take w k
    have hs2 := sum_take w (k + 1)
    refine awp_skip (hK6 _ _ ?_)
    refine awp_seq_k fun K7 hK7 => ?_
    refine awp_block ?_
    refine awp_seq_s KT_ok hc rfl fun K8 hK8 => ?_
    simp -dsimp -implicitDefEqProofs (disch := first | assumption | omega | (simp only [maxLen, List.length_replicate, eq_self, true_and, and_true, and_self, avs_len, List.length_map, List.length_append, List.length_cons, List.length_nil, List.length_set, List.length_range, List.length_take, List.length_drop] <;> omega) | decide | fail) only [sT_assign, sT_load, sT_ia, sT_nil, oK_some, Option.map_some, loadF, ixO, indexAddrF, ↓reduceIte, Bool.false_eq_true, eq_self, ifp, frL_get, frL_put, evalA_tmp, Int.toNat_natCast, Nat.mul_one, Nat.reduceEqDiff, get_map, intsD, eo_26, sz_27, ag_27]
    refine hK8 _ _ ?_
    refine awp_seq_s KT_ok hc rfl fun K9 hK9 => ?_
    simp -dsimp -implicitDefEqProofs (disch := first | assumption | omega | (simp only [maxLen, List.length_replicate, eq_self, true_and, and_true, and_self, avs_len, List.length_map, List.length_append, List.length_cons, List.length_nil, List.length_set, List.length_range, List.length_take, List.length_drop] <;> omega) | decide | fail) only [sT_move, sT_assign, sT_bin, sT_len, sT_nil, oK_some, Option.map_some, binF_v, lenF, builtinF, v_add, ↓reduceIte, eq_self, frL_get, frL_put, evalA_tmp, List.map_cons, List.map_nil, Nat.reduceEqDiff, eo_27]
    refine hK9 _ _ ?_
    refine awp_seq_s KT_ok hc rfl fun K10 hK10 => ?_
    simp -dsimp -implicitDefEqProofs (disch := first | assumption | omega | (simp only [maxLen, List.length_replicate, eq_self, true_and, and_true, and_self, avs_len, List.length_map, List.length_append, List.length_cons, List.length_nil, List.length_set, List.length_range, List.length_take, List.length_drop] <;> omega) | decide | fail) only [sT_move, sT_bin, sT_nil, oK_some, Option.map_some, binF_v, v_lss, ↓reduceIte, eq_self, frL_get, frL_put, evalA_tmp, evalA_const]
    refine hK10 _ _ ?_
    refine awp_cond rfl (fun ht => ?_) (fun ht => ?_)
    · simp at ht
      omega
    · refine awp_skip (hK7 _ _ ?_)
      refine awp_s KT_ok hc rfl fun K11 hK11 => ?_
      simp -dsimp -implicitDefEqProofs (disch := first | assumption | omega | (simp only [maxLen, List.length_replicate, eq_self, true_and, and_true, and_self, avs_len, List.length_map, List.length_append, List.length_cons, List.length_nil, List.length_set, List.length_range, List.length_take, List.length_drop] <;> omega) | decide | fail) only [sT_move, sT_bin, sT_nil, oK_some, Option.map_some, binF_v, v_add, ↓reduceIte, eq_self, frL_get, frL_put, evalA_tmp, evalA_const, Nat.reduceEqDiff]
      refine hK11 _ _ ⟨_, _, _, ?_, ⟨k + 1, by omega, rfl, rfl, rfl⟩, ?_⟩
      · first | omega | (simp only [List.length_cons]; omega) | (dsimp only; omega)
      · refine Rt.end (less_cons (less_cons (less_cons (less_cons (less_cons (less_nil _) (by first | rfl | (simp [Fr.put, frL, gcV, fzV, posN, iD, bD, uD, oD, intsD, boolsD, bytesD, intssD, bytessD]; done) | simp [Fr.put, frL, gcV, fzV, posN, iD, bD, uD, oD, intsD, boolsD, bytesD, intssD, bytessD, *])) (by first | rfl | (simp [Fr.put, frL, gcV, fzV, posN, iD, bD, uD, oD, intsD, boolsD, bytesD, intssD, bytessD]; done) | simp [Fr.put, frL, gcV, fzV, posN, iD, bD, uD, oD, intsD, boolsD, bytesD, intssD, bytessD, *])) (by first | rfl | (simp [Fr.put, frL, gcV, fzV, posN, iD, bD, uD, oD, intsD, boolsD, bytesD, intssD, bytessD]; done) | simp [Fr.put, frL, gcV, fzV, posN, iD, bD, uD, oD, intsD, boolsD, bytesD, intssD, bytessD, *])) (by first | rfl | (simp [frL, iD]; done) | simp [frL, iD, *])) (by first | rfl | (simp [Fr.put, frL, gcV, fzV, posN, iD, bD, uD, oD, intsD, boolsD, bytesD, intssD, bytessD]; done) | simp [Fr.put, frL, gcV, fzV, posN, iD, bD, uD, oD, intsD, boolsD, bytesD, intssD, bytessD, *])) ?_
        first | rfl | (simp only [intsD, boolsD, bytesD, intssD, bytessD, gcH, gcO, gcVs_avs, gcVs, gcV, gcV_d, fzH, fzO, fzVs_avs, fzVs, fzV, posN, avs_nil, avs_cons, List.map_cons, List.map_nil, List.getD_cons_zero, List.getD_cons_succ, ↓reduceIte, Nat.reduceEqDiff, Option.map_some, List.set_cons_zero, List.set_cons_succ, takeD_avs, takeD_all, Nat.mul_one, List.length_map, List.cons_append, List.nil_append]; first | done | rfl)
  · have hkk : k = w.length := by simp at ht; omega
    subst hkk
    refine awp_exit (hK3 _ _ ?_)
    refine awp_seq_s KT_ok hc rfl fun K12 hK12 => ?_
    simp -dsimp -implicitDefEqProofs (disch := first | assumption | omega | (simp only [maxLen, List.length_replicate, eq_self, true_and, and_true, and_self, avs_len, List.length_map, List.length_append, List.length_cons, List.length_nil, List.length_set, List.length_range, List.length_take, List.length_drop] <;> omega) | decide | fail) only [sT_move, sT_call0, ↓reduceIte, eq_self, frL_get, frL_put, evalA_tmp, evalA_const, evalA_func, List.map_cons, List.map_nil, List.length_nil, Nat.reduceEqDiff]
    refine kc_layd (grow_c (sumL w) h2) (by simp only [List.take_length, iD, List.map_cons, List.map_nil]) ?_
    simp -dsimp -implicitDefEqProofs (disch := first | assumption | omega | (simp only [maxLen, List.length_replicate, eq_self, true_and, and_true, and_self, avs_len, List.length_map, List.length_append, List.length_cons, List.length_nil, List.length_set, List.length_range, List.length_take, List.length_drop] <;> omega) | decide | fail) only [sT_assign, sT_nil, ↓reduceIte, eq_self, frL_get, frL_put, evalA_tmp, List.length_nil, List.nil_append, List.nil_append]
    refine hK12 _ _ ?_
    refine awp_seq_k fun K13 hK13 => ?_
    refine awp_seq_s KT_ok hc rfl fun K14 hK14 => ?_
    simp -dsimp -implicitDefEqProofs (disch := first | assumption | omega | (simp only [maxLen, List.length_replicate, eq_self, true_and, and_true, and_self, avs_len, List.length_map, List.length_append, List.length_cons, List.length_nil, List.length_set, List.length_range, List.length_take, List.length_drop] <;> omega) | decide | fail) only [sT_move, sT_len, sT_nil, oK_some, Option.map_some, lenF, builtinF, ↓reduceIte, eq_self, frL_get, frL_put, evalA_tmp, evalA_const, List.map_cons, List.map_nil, Nat.reduceEqDiff, eo_26]
    refine hK14 _ _ ?_
    refine awp_block ?_
    refine awp_loop_rt hp (fun τ' H' mm => ∃ k, (k ≤ w.length) ∧ mm = w.length - k ∧ H' = [.cells (avs ((w.take k).flatten.map iD))] ∧ τ' = frL [(0, .d (intssD w)), (6, .os 1 0 0 (w.take k).flatten.length), (25, .d (intssD w)), (26, .d (iD w.length)), (27, .d (iD k))]) (w.length) ?_ ⟨0, Nat.zero_le _, rfl, rfl, rfl⟩ ?_
    · refine Rt.end (less_cons (less_cons (less_cons (less_cons (less_cons (less_nil _) (by first | rfl | (simp [Fr.put, frL, gcV, fzV, posN, iD, bD, uD, oD, intsD, boolsD, bytesD, intssD, bytessD]; done) | simp [Fr.put, frL, gcV, fzV, posN, iD, bD, uD, oD, intsD, boolsD, bytesD, intssD, bytessD, *])) (by first | rfl | (simp [Fr.put, frL, gcV, fzV, posN, iD, bD, uD, oD, intsD, boolsD, bytesD, intssD, bytessD]; done) | simp [Fr.put, frL, gcV, fzV, posN, iD, bD, uD, oD, intsD, boolsD, bytesD, intssD, bytessD, *])) (by first | rfl | (simp [Fr.put, frL, gcV, fzV, posN, iD, bD, uD, oD, intsD, boolsD, bytesD, intssD, bytessD]; done) | simp [Fr.put, frL, gcV, fzV, posN, iD, bD, uD, oD, intsD, boolsD, bytesD, intssD, bytessD, *])) (by first | rfl | (simp [Fr.put, frL, gcV, fzV, posN, iD, bD, uD, oD, intsD, boolsD, bytesD, intssD, bytessD]; done) | simp [Fr.put, frL, gcV, fzV, posN, iD, bD, uD, oD, intsD, boolsD, bytesD, intssD, bytessD, *])) (by first | rfl | (simp [Fr.put, frL, gcV, fzV, posN, iD, bD, uD, oD, intsD, boolsD, bytesD, intssD, bytessD]; done) | simp [Fr.put, frL, gcV, fzV, posN, iD, bD, uD, oD, intsD, boolsD, bytesD, intssD, bytessD, *])) ?_
      first | rfl | (simp only [intsD, boolsD, bytesD, intssD, bytessD, gcH, gcO, gcVs_avs, gcVs, gcV, gcV_d, fzH, fzO, fzVs_avs, fzVs, fzV, posN, avs_nil, avs_cons, List.map_cons, List.map_nil, List.getD_cons_zero, List.getD_cons_succ, ↓reduceIte, Nat.reduceEqDiff, Option.map_some, List.set_cons_zero, List.set_cons_succ, takeD_avs, takeD_all, Nat.mul_one, List.length_map, List.cons_append, List.nil_append]; first | done | rfl)
    rintro τ' H' mm ⟨k, hk, rfl, rfl, rfl⟩
    refine awp_seq_s KT_ok hc rfl fun K15 hK15 => ?_
    simp -dsimp -implicitDefEqProofs (disch := first | assumption | omega | (simp only [maxLen, List.length_replicate, eq_self, true_and, and_true, and_self, avs_len, List.length_map, List.length_append, List.length_cons, List.length_nil, List.length_set, List.length_range, List.length_take, List.length_drop] <;> omega) | decide | fail) only [sT_bin, sT_nil, oK_some, Option.map_some, binF_v, v_lss, ↓reduceIte, eq_self, frL_get, frL_put, evalA_tmp, Nat.reduceEqDiff, iD, intssD]
    refine hK15 _ _ ?_
    refine awp_seq_k fun K16 hK16 => ?_
    refine awp_cond rfl (fun ht => ?_) (fun ht => ?_)
    · have hlt : k < w.length := by simp at ht; omega
      have hs := sum_step hlt
      have hs1 := sum_take w k
      have hs2 := sum_take w (k + 1)
      unfold sumL at hs hs1 hs2 h2
      refine awp_skip (hK16 _ _ ?_)
      refine awp_seq_k fun K17 hK17 => ?_
      refine awp_block ?_
      refine awp_seq_s KT_ok hc rfl fun K18 hK18 => ?_
      simp -dsimp -implicitDefEqProofs (disch := first | assumption | omega | (simp only [maxLen, List.length_replicate, eq_self, true_and, and_true, and_self, avs_len, List.length_map, List.length_append, List.length_cons, List.length_nil, List.length_set, List.length_range, List.length_take, List.length_drop] <;> omega) | decide | fail) only [sT_assign, sT_load, sT_ia, sT_nil, oK_some, Option.map_some, loadF, ixO, indexAddrF, ↓reduceIte, Bool.false_eq_true, eq_self, ifp, frL_get, frL_put, evalA_tmp, Int.toNat_natCast, Nat.mul_one, Nat.reduceEqDiff, get_map, intsD, eo_26, sz_27, ag_27]
      refine hK18 _ _ ?_
      refine awp_s KT_ok hc rfl fun K19 hK19 => ?_
      simp -dsimp -implicitDefEqProofs (disch := first | assumption | omega | (simp only [maxLen, List.length_replicate, eq_self, true_and, and_true, and_self, avs_len, List.length_map, List.length_append, List.length_cons, List.length_nil, List.length_set, List.length_range, List.length_take, List.length_drop] <;> omega) | decide | fail) only [sT_move, sT_assign, sT_app, deadH, sT_nil, oK_some, layF, srcF, ↓reduceIte, eq_self, ifp, frL_get, frL_put, evalA_tmp, List.length_cons, List.length_nil, List.getElem?_cons_zero, List.cons_append, List.nil_append, List.set_cons_zero, true_and, Nat.mul_one, Nat.zero_add, Nat.reduceEqDiff, map_d, avs_len, avs_app, List.drop_zero, List.nil_append, deadH, List.length_map, mk_27]
      refine hK19 _ _ (hK17 _ _ ?_)
      refine awp_s KT_ok hc rfl fun K20 hK20 => ?_
      simp -dsimp -implicitDefEqProofs (disch := first | assumption | omega | (simp only [maxLen, List.length_replicate, eq_self, true_and, and_true, and_self, avs_len, List.length_map, List.length_append, List.length_cons, List.length_nil, List.length_set, List.length_range, List.length_take, List.length_drop] <;> omega) | decide | fail) only [sT_move, sT_bin, sT_nil, oK_some, Option.map_some, binF_v, v_add, ↓reduceIte, eq_self, frL_get, frL_put, evalA_tmp, evalA_const, Nat.reduceEqDiff]
      refine hK20 _ _ ⟨_, _, _, ?_, ⟨k + 1, by omega, rfl, rfl, rfl⟩, ?_⟩
      · first | omega | (simp only [List.length_cons]; omega) | (dsimp only; omega)
      · refine Rt.trans (Rt.gc (keep := [1]) (by decide) (by simp [])) ?_
        refine Rt.end (less_cons (less_cons (less_cons (less_cons (less_cons (less_nil _) (by first | rfl | (simp [Fr.put, frL, gcV, fzV, posN, iD, bD, uD, oD, intsD, boolsD, bytesD, intssD, bytessD]; done) | simp [Fr.put, frL, gcV, fzV, posN, iD, bD, uD, oD, intsD, boolsD, bytesD, intssD, bytessD, *])) (by first | rfl | (simp [Fr.put, frL, gcV, fzV, posN, iD, bD, uD, oD, intsD, boolsD, bytesD, intssD, bytessD]; done) | simp [Fr.put, frL, gcV, fzV, posN, iD, bD, uD, oD, intsD, boolsD, bytesD, intssD, bytessD, *])) (by first | rfl | (simp [Fr.put, frL, gcV, fzV, posN, iD, bD, uD, oD, intsD, boolsD, bytesD, intssD, bytessD]; done) | simp [Fr.put, frL, gcV, fzV, posN, iD, bD, uD, oD, intsD, boolsD, bytesD, intssD, bytessD, *])) (by first | rfl | (simp [frL, gcV, posN]; done) | simp [frL, gcV, posN, *])) (by first | rfl | (simp [Fr.put, frL, gcV, fzV, posN, iD, bD, uD, oD, intsD, boolsD, bytesD, intssD, bytessD]; done) | simp [Fr.put, frL, gcV, fzV, posN, iD, bD, uD, oD, intsD, boolsD, bytesD, intssD, bytessD, *])) ?_
        simp only [gcH, gcO, gcVs_avs, List.map_cons, List.map_nil, List.getD_cons_zero, List.getD_cons_succ, flat_step hlt, List.map_append]
    · have hkk : k = w.length := by simp at ht; omega
      subst hkk
      refine awp_exit (hK13 _ _ ?_)
      refine awp_seq_s KT_ok hc rfl fun K21 hK21 => ?_
      simp -dsimp -implicitDefEqProofs (disch := first | assumption | omega | (simp only [maxLen, List.length_replicate, eq_self, true_and, and_true, and_self, avs_len, List.length_map, List.length_append, List.length_cons, List.length_nil, List.length_set, List.length_range, List.length_take, List.length_drop] <;> omega) | decide | fail) only [sT_move, sT_assign, sT_nil, ↓reduceIte, eq_self, frL_get, frL_put, evalA_tmp, Nat.reduceEqDiff]
      refine hK21 _ _ ?_
      refine awp_ret ?_
      show closeA _ _ = _
      simp (disch := first | assumption | omega | (simp only [maxLen, List.length_replicate, eq_self, true_and, and_true, and_self, avs_len, List.length_map, List.length_append, List.length_cons, List.length_nil, List.length_set, List.length_range, List.length_take, List.length_drop] <;> omega) | decide | fail) only [closeA, retV, deepL_avs, lookH_eq, cellsOf_c, deep_os, Nat.zero_add, takeD_all, fixm_i, frL_get, ↓reduceIte, Option.map_some, Option.bind_some, Nat.mul_one, List.getElem?_cons_zero, List.length_cons, List.length_nil, intsD, List.take_length]
end Go.Proofs.Ytinefghmmbggeaa

/- Waves: upto, wave, validWaves. -/
set_option linter.unusedVariables false
set_option linter.unusedSimpArgs false
namespace Go.Proofs.Ytinefghmmbggeaa
open Go Go.RowKit
theorem of_p (l : List Int) (hI : I64s l) (hl : l.length ≤ 1000000) : PCalls Try.prog 36 [intsD l] (.d (setD (ofS l))) := pcalls_lset (of_c l hI hl) (OkS.of hI)
set_option maxRecDepth 100000 in
set_option linter.unusedVariables false in
set_option maxHeartbeats 4000000 in
theorem idx_c (l : List Int) (n : Int) (hl : l.length ≤ 1000000) : PCalls Try.prog 75 [intsD l, iD n] (.d (iD (findI (fun x => n == x) l))) := by
  refine pcalls_of0 (fn := Try.f75) (by kernel_rfl) Try.func75 rfl (Nat.le_of_ble_eq_true rfl) fun c hc hp => ?_
  refine awp_less (τ' := frL [(0, .d (intsD l)), (1, .d (iD n))]) (less_cons (less_cons (less_nil _) rfl) rfl) ?_
  refine awp_seq_s KT_ok hc rfl fun K1 hK1 => ?_
  simp -dsimp -implicitDefEqProofs (disch := first | assumption | omega | (simp [maxLen, avs_len] <;> omega) | decide) only [sT_assign, sT_nil, q_f, iD, intsD]
  refine hK1 _ _ ?_
  refine awp_seq_k fun K2 hK2 => ?_
  refine awp_seq_s KT_ok hc rfl fun K3 hK3 => ?_
  simp -dsimp -implicitDefEqProofs (disch := first | assumption | omega | (simp [maxLen, avs_len] <;> omega) | decide) only [sT_move, sT_len, sT_nil, oK_some, q_o, lenF, builtinF, ↓reduceIte, q_b, q_f, q_s, Nat.reduceEqDiff, eo_27]
  refine hK3 _ _ ?_
  refine awp_block ?_
  refine awp_loop_rt hp (fun τ' H' mm => ∃ k, (k ≤ l.length ∧ ∀ j, j < k → (n == nth l j) = false) ∧ mm = l.length - k ∧ H' = [] ∧ τ' = frL [(0, .d (intsD l)), (1, .d (iD n)), (6, .d (intsD l)), (7, .d (iD l.length)), (8, .d (iD k))]) (l.length) ?_ ⟨0, ⟨Nat.zero_le _, fun j hj => absurd hj (by omega)⟩, rfl, rfl, rfl⟩ ?_
  · refine Rt.end (less_cons (less_cons (less_cons (less_cons (less_cons (less_nil _) rfl) rfl) rfl) rfl) rfl) ?_
    first | rfl | (simp only [intsD, boolsD, bytesD, intssD, bytessD, gcH, gcO, gcVs_avs, gcVs, gcV, gcV_d, fzH, fzO, fzVs_avs, fzVs, fzV, posN, avs_nil, avs_cons, List.map_cons, List.map_nil, List.getD_cons_zero, List.getD_cons_succ, ↓reduceIte, Nat.reduceEqDiff, Option.map_some, List.set_cons_zero, List.set_cons_succ, takeD_avs, takeD_all, Nat.mul_one, List.length_map, List.cons_append, List.nil_append]; first | done | rfl)
  rintro τ' H' mm ⟨k, ⟨hk, hf⟩, rfl, rfl, rfl⟩
  refine awp_seq_s KT_ok hc rfl fun K4 hK4 => ?_
  simp -dsimp -implicitDefEqProofs (disch := first | assumption | omega | (simp [maxLen, avs_len] <;> omega) | decide) only [sT_bin, sT_nil, oK_some, q_o, binF_v, v_lss, ↓reduceIte, q_b, q_f, Nat.reduceEqDiff, iD, intsD]
  refine hK4 _ _ ?_
  refine awp_seq_k fun K5 hK5 => ?_
  refine awp_cond rfl (fun ht => ?_) (fun ht => ?_)
  · have hlt : k < l.length := by simp at ht; omega
    refine awp_skip (hK5 _ _ ?_)
    refine awp_seq_k fun K6 hK6 => ?_
    refine awp_block ?_
    refine awp_seq_s KT_ok hc rfl fun K7 hK7 => ?_
    simp -dsimp -implicitDefEqProofs (disch := first | assumption | omega | (simp [maxLen, avs_len] <;> omega) | decide) only [sT_move, sT_assign, sT_nil, ↓reduceIte, q_b, q_f, Nat.reduceEqDiff]
    refine hK7 _ _ ?_
    refine awp_seq_s KT_ok hc rfl fun K8 hK8 => ?_
    simp -dsimp -implicitDefEqProofs (disch := first | assumption | omega | (simp [maxLen, avs_len] <;> omega) | decide) only [sT_move, sT_load, sT_ia, sT_bin, sT_nil, oK_some, q_o, loadF, ixO, indexAddrF, binF_v, v_eql, ↓reduceIte, q_b, ifp, q_f, Int.toNat_natCast, q_n, Nat.reduceEqDiff, get_map, iD, eo_27, sz_3, ag_3]
    refine hK8 _ _ ?_
    refine awp_cond rfl (fun ht => ?_) (fun ht => ?_)
    · have hx := findI_at (p := fun x => n == x) hlt hf ht
      refine awp_seq_s KT_ok hc rfl fun K9 hK9 => ?_
      simp -dsimp -implicitDefEqProofs (disch := first | assumption | omega | (simp [maxLen, avs_len] <;> omega) | decide) only [sT_move, sT_assign, sT_nil, ↓reduceIte, q_b, q_f, Nat.reduceEqDiff]
      refine hK9 _ _ ?_
      refine awp_ret ?_
      show closeA _ _ = _
      simp (disch := first | assumption | omega | (simp [maxLen, avs_len] <;> omega) | decide) only [closeA, retV, deep_d, D.fix, frL_get, ↓reduceIte, Option.map_some, List.length_nil, iD, hx]
    · have hf' : ∀ j, j < k + 1 → (n == nth l j) = false := fun j hj => by
        rcases Nat.lt_or_ge j k with h | h
        · exact hf j h
        · obtain rfl : j = k := by omega
          exact ht
      refine awp_skip (hK6 _ _ ?_)
      refine awp_s KT_ok hc rfl fun K10 hK10 => ?_
      simp -dsimp -implicitDefEqProofs (disch := first | assumption | omega | (simp [maxLen, avs_len] <;> omega) | decide) only [sT_move, sT_bin, sT_nil, oK_some, q_o, binF_v, v_add, ↓reduceIte, q_b, q_f, Nat.reduceEqDiff]
      refine hK10 _ _ ⟨_, _, _, ?_, ⟨k + 1, ⟨by omega, hf'⟩, rfl, rfl, rfl⟩, ?_⟩
      · first | omega | (simp only [List.length_cons]; omega) | (dsimp only; omega)
      · refine Rt.end (less_cons (less_cons (less_cons (less_cons (less_cons (less_nil _) rfl) rfl) rfl) rfl) rfl) ?_
        first | rfl | (simp only [intsD, boolsD, bytesD, intssD, bytessD, gcH, gcO, gcVs_avs, gcVs, gcV, gcV_d, fzH, fzO, fzVs_avs, fzVs, fzV, posN, avs_nil, avs_cons, List.map_cons, List.map_nil, List.getD_cons_zero, List.getD_cons_succ, ↓reduceIte, Nat.reduceEqDiff, Option.map_some, List.set_cons_zero, List.set_cons_succ, takeD_avs, takeD_all, Nat.mul_one, List.length_map, List.cons_append, List.nil_append]; first | done | rfl)
  · have hx : findI (fun x => n == x) l = -1 := findI_none fun j hj => hf j (by simp at ht; omega)
    refine awp_exit (hK2 _ _ ?_)
    refine awp_seq_s KT_ok hc rfl fun K11 hK11 => ?_
    simp -dsimp -implicitDefEqProofs (disch := first | assumption | omega | (simp [maxLen, avs_len] <;> omega) | decide) only [sT_assign, sT_nil, q_f]
    refine hK11 _ _ ?_
    refine awp_ret ?_
    show closeA _ _ = _
    simp (disch := first | assumption | omega | (simp [maxLen, avs_len] <;> omega) | decide) only [closeA, retV, deep_d, D.fix, frL_get, ↓reduceIte, Option.map_some, List.length_nil, iD, hx]
def inB (n : Int) (l : List Int) : Bool := l.any fun x => n == x
theorem inB_iff {n : Int} {l : List Int} : inB n l = true ↔ n ∈ l := by simp [inB]
theorem findI_in {n : Int} {l : List Int} : decide (0 ≤ findI (fun x => n == x) l) = inB n l := findI_neg
set_option maxRecDepth 100000 in
set_option linter.unusedVariables false in
set_option maxHeartbeats 4000000 in
theorem contains_c (l : List Int) (n : Int) (hl : l.length ≤ 1000000) : PCalls Try.prog 63 [intsD l, iD n] (.d (.val (.bool (inB n l)))) := by
  refine pcalls_of0 (fn := Try.f63) (by kernel_rfl) Try.func63 rfl (Nat.le_of_ble_eq_true rfl) fun c hc hp => ?_
  refine awp_less (τ' := frL [(0, .d (intsD l)), (1, .d (iD n))]) (less_cons (less_cons (less_nil _) rfl) rfl) ?_
  refine awp_seq_s KT_ok hc rfl fun K1 hK1 => ?_
  simp -dsimp -implicitDefEqProofs (disch := first | assumption | omega | (simp [maxLen, avs_len] <;> omega) | decide) only [sT_assign, sT_nil, q_f, iD, intsD]
  refine hK1 _ _ ?_
  refine awp_seq_s KT_ok hc rfl fun K2 hK2 => ?_
  simp -dsimp -implicitDefEqProofs (disch := first | assumption | omega | (simp [maxLen, avs_len] <;> omega) | decide) only [sT_move, sT_call0, ↓reduceIte, q_b, q_f, q_s, q_l, Nat.reduceEqDiff]
  refine kc_by (idx_c l n hl) rfl ?_
  simp -dsimp -implicitDefEqProofs (disch := first | assumption | omega | (simp [maxLen, avs_len] <;> omega) | decide) only [sT_assign, sT_bin, sT_nil, oK_some, q_o, binF_v, v_geq, ↓reduceIte, q_b, q_f, iD]
  refine hK2 _ _ ?_
  refine awp_ret ?_
  show closeA _ _ = _
  simp (disch := first | assumption | omega | (simp [maxLen, avs_len] <;> omega) | decide) only [closeA, retV, deep_d, D.fix, frL_get, ↓reduceIte, Option.map_some, List.length_nil, findI_in]
def waveD (n : Int) : D := .clo (.func 62) [] [.fp [iD n] 0]
set_option maxRecDepth 100000 in
set_option linter.unusedVariables false in
set_option maxHeartbeats 4000000 in
theorem wave1_c (l : List Int) (n : Int) (hl : l.length ≤ 1000000) : PCalls Try.prog 62 [intsD l, .fp [iD n] 0] (.d (.val (.bool (inB n l)))) := by
  refine pcalls_of0 (fn := Try.f62) (by kernel_rfl) Try.func62 rfl (Nat.le_of_ble_eq_true rfl) fun c hc hp => ?_
  refine awp_less (τ' := frL [(0, .d (intsD l)), (1, .d (.fp [iD n] 0))]) (less_cons (less_cons (less_nil _) rfl) rfl) ?_
  refine awp_seq_s KT_ok hc rfl fun K1 hK1 => ?_
  simp -dsimp -implicitDefEqProofs (disch := first | assumption | omega | (simp [maxLen, avs_len] <;> omega) | decide) only [sT_assign, sT_nil, q_f, iD, intsD]
  refine hK1 _ _ ?_
  refine awp_seq_s KT_ok hc rfl fun K2 hK2 => ?_
  simp -dsimp -implicitDefEqProofs (disch := first | assumption | omega | (simp [maxLen, avs_len] <;> omega) | decide) only [sT_move, sT_load, sT_call0, oK_some, q_o, loadF, ↓reduceIte, q_b, q_f, q_s, q_l, Nat.reduceEqDiff, sz_3, ag_3]
  refine kc_by (contains_c l n hl) rfl ?_
  simp -dsimp -implicitDefEqProofs (disch := first | assumption | omega | (simp [maxLen, avs_len] <;> omega) | decide) only [sT_assign, sT_nil, ↓reduceIte, q_b, q_f]
  refine hK2 _ _ ?_
  refine awp_ret ?_
  show closeA _ _ = _
  simp (disch := first | assumption | omega | (simp [maxLen, avs_len] <;> omega) | decide) only [closeA, retV, deep_d, D.fix, frL_get, ↓reduceIte, Option.map_some, List.length_nil]
theorem row_len {w : List (List Int)} {k : Nat} (h : k < w.length) : (nth w k).length ≤ sumL w := by
  have h1 := sum_step h
  have h2 := sum_take w (k + 1)
  omega
def waveI (n : Int) (w : List (List Int)) : Int := findI (inB n) w
set_option maxRecDepth 100000 in
set_option linter.unusedVariables false in
set_option maxHeartbeats 4000000 in
theorem idxw_c (w : List (List Int)) (n : Int) (h1 : w.length ≤ 1000000) (h2 : sumL w ≤ 1000000) : PCalls Try.prog 61 [intssD w, waveD n] (.d (iD (waveI n w))) := by
  refine pcalls_of0 (fn := Try.f61) (by kernel_rfl) Try.func61 rfl (Nat.le_of_ble_eq_true rfl) fun c hc hp => ?_
  refine awp_less (τ' := frL [(0, .d (intssD w)), (1, .d (waveD n))]) (less_cons (less_cons (less_nil _) rfl) rfl) ?_
  refine awp_seq_s KT_ok hc rfl fun K1 hK1 => ?_
  simp -dsimp -implicitDefEqProofs (disch := first | assumption | omega | (simp [maxLen, avs_len] <;> omega) | decide) only [sT_assign, sT_nil, q_f, intssD]
  refine hK1 _ _ ?_
  refine awp_seq_k fun K2 hK2 => ?_
  refine awp_seq_s KT_ok hc rfl fun K3 hK3 => ?_
  simp -dsimp -implicitDefEqProofs (disch := first | assumption | omega | (simp [maxLen, avs_len] <;> omega) | decide) only [sT_move, sT_len, sT_nil, oK_some, q_o, lenF, builtinF, ↓reduceIte, q_b, q_f, q_s, Nat.reduceEqDiff, eo_26]
  refine hK3 _ _ ?_
  refine awp_block ?_
  refine awp_loop_rt hp (fun τ' H' mm => ∃ k, (k ≤ w.length ∧ ∀ j, j < k → inB n (nth w j) = false) ∧ mm = w.length - k ∧ H' = [] ∧ τ' = frL [(0, .d (intssD w)), (1, .d (waveD n)), (6, .d (intssD w)), (7, .d (iD w.length)), (8, .d (iD k))]) (w.length) ?_ ⟨0, ⟨Nat.zero_le _, fun j hj => absurd hj (by omega)⟩, rfl, rfl, rfl⟩ ?_
  · refine Rt.end (less_cons (less_cons (less_cons (less_cons (less_cons (less_nil _) rfl) rfl) rfl) rfl) rfl) ?_
    first | rfl | (simp only [intsD, boolsD, bytesD, intssD, bytessD, gcH, gcO, gcVs_avs, gcVs, gcV, gcV_d, fzH, fzO, fzVs_avs, fzVs, fzV, posN, avs_nil, avs_cons, List.map_cons, List.map_nil, List.getD_cons_zero, List.getD_cons_succ, ↓reduceIte, Nat.reduceEqDiff, Option.map_some, List.set_cons_zero, List.set_cons_succ, takeD_avs, takeD_all, Nat.mul_one, List.length_map, List.cons_append, List.nil_append]; first | done | rfl)
  rintro τ' H' mm ⟨k, ⟨hk, hf⟩, rfl, rfl, rfl⟩
  refine awp_seq_s KT_ok hc rfl fun K4 hK4 => ?_
  simp -dsimp -implicitDefEqProofs (disch := first | assumption | omega | (simp [maxLen, avs_len] <;> omega) | decide) only [sT_bin, sT_nil, oK_some, q_o, binF_v, v_lss, ↓reduceIte, q_b, q_f, Nat.reduceEqDiff, iD, intssD]
  refine hK4 _ _ ?_
  refine awp_seq_k fun K5 hK5 => ?_
  refine awp_cond rfl (fun ht => ?_) (fun ht => ?_)
  · have hlt : k < w.length := by simp at ht; omega
    have hrl := row_len hlt
    refine awp_skip (hK5 _ _ ?_)
    refine awp_seq_k fun K6 hK6 => ?_
    refine awp_block ?_
    refine awp_seq_s KT_ok hc rfl fun K7 hK7 => ?_
    simp -dsimp -implicitDefEqProofs (disch := first | assumption | omega | (simp [maxLen, avs_len] <;> omega) | decide) only [sT_move, sT_assign, sT_nil, ↓reduceIte, q_b, q_f, Nat.reduceEqDiff]
    refine hK7 _ _ ?_
    refine awp_seq_s KT_ok hc rfl fun K8 hK8 => ?_
    simp -dsimp -implicitDefEqProofs (disch := first | assumption | omega | (simp [maxLen, avs_len] <;> omega) | decide) only [sT_move, sT_load, sT_ia, sT_callt, oK_some, q_o, loadF, ixO, indexAddrF, ↓reduceIte, q_b, ifp, q_f, q_s, q_l, Int.toNat_natCast, q_n, Nat.reduceEqDiff, get_map, intsD, eo_26, sz_27, ag_27]
    refine kc_clod (fi := []) (ds := [intsD (nth w k)]) (ca := [.fp [iD n] 0]) (wave1_c (nth w k) n (by omega)) rfl ?_
    simp -dsimp -implicitDefEqProofs (disch := first | assumption | omega | (simp [maxLen, avs_len] <;> omega) | decide) only [sT_nil, q_f]
    refine hK8 _ _ ?_
    refine awp_cond rfl (fun ht => ?_) (fun ht => ?_)
    · have hx : waveI n w = k := findI_at hlt hf ht
      refine awp_seq_s KT_ok hc rfl fun K9 hK9 => ?_
      simp -dsimp -implicitDefEqProofs (disch := first | assumption | omega | (simp [maxLen, avs_len] <;> omega) | decide) only [sT_move, sT_assign, sT_nil, ↓reduceIte, q_b, q_f, Nat.reduceEqDiff]
      refine hK9 _ _ ?_
      refine awp_ret ?_
      show closeA _ _ = _
      simp (disch := first | assumption | omega | (simp [maxLen, avs_len] <;> omega) | decide) only [closeA, retV, deep_d, D.fix, frL_get, ↓reduceIte, Option.map_some, List.length_nil, iD, hx]
    · have hf' : ∀ j, j < k + 1 → inB n (nth w j) = false := fun j hj => by
        rcases Nat.lt_or_ge j k with h | h
        · exact hf j h
        · obtain rfl : j = k := by omega
          exact ht
      refine awp_skip (hK6 _ _ ?_)
      refine awp_s KT_ok hc rfl fun K10 hK10 => ?_
      simp -dsimp -implicitDefEqProofs (disch := first | assumption | omega | (simp [maxLen, avs_len] <;> omega) | decide) only [sT_move, sT_bin, sT_nil, oK_some, q_o, binF_v, v_add, ↓reduceIte, q_b, q_f, Nat.reduceEqDiff]
      refine hK10 _ _ ⟨_, _, _, ?_, ⟨k + 1, ⟨by omega, hf'⟩, rfl, rfl, rfl⟩, ?_⟩
      · first | omega | (simp only [List.length_cons]; omega) | (dsimp only; omega)
      · refine Rt.end (less_cons (less_cons (less_cons (less_cons (less_cons (less_nil _) rfl) rfl) rfl) rfl) rfl) ?_
        first | rfl | (simp only [intsD, boolsD, bytesD, intssD, bytessD, gcH, gcO, gcVs_avs, gcVs, gcV, gcV_d, fzH, fzO, fzVs_avs, fzVs, fzV, posN, avs_nil, avs_cons, List.map_cons, List.map_nil, List.getD_cons_zero, List.getD_cons_succ, ↓reduceIte, Nat.reduceEqDiff, Option.map_some, List.set_cons_zero, List.set_cons_succ, takeD_avs, takeD_all, Nat.mul_one, List.length_map, List.cons_append, List.nil_append]; first | done | rfl)
  · have hx : waveI n w = -1 := findI_none fun j hj => hf j (by simp at ht; omega)
    refine awp_exit (hK2 _ _ ?_)
    refine awp_seq_s KT_ok hc rfl fun K11 hK11 => ?_
    simp -dsimp -implicitDefEqProofs (disch := first | assumption | omega | (simp [maxLen, avs_len] <;> omega) | decide) only [sT_assign, sT_nil, q_f]
    refine hK11 _ _ ?_
    refine awp_ret ?_
    show closeA _ _ = _
    simp (disch := first | assumption | omega | (simp [maxLen, avs_len] <;> omega) | decide) only [closeA, retV, deep_d, D.fix, frL_get, ↓reduceIte, Option.map_some, List.length_nil, iD, hx]
/-- A rollout whose lists are short. -/
structure ShortR (r : Rol) : Prop where
  wl : r.wv.length ≤ 10000
  ws : sumL r.wv ≤ 900000
  dl : r.dn.length ≤ 1000000
set_option maxRecDepth 100000 in
set_option linter.unusedVariables false in
set_option maxHeartbeats 4000000 in
theorem wave_c (r : Rol) (n : Int) (hr : ShortR r) : PCalls Try.prog 53 [rolD r, iD n] (.d (iD (waveI n r.wv))) := by
  refine pcalls_of0 (fn := Try.f53) (by kernel_rfl) Try.func53 rfl (Nat.le_of_ble_eq_true rfl) fun c hc hp => ?_
  refine awp_less (τ' := frL [(0, .d (rolD r)), (1, .d (iD n))]) (less_cons (less_cons (less_nil _) rfl) rfl) ?_
  have h1 := hr.wl
  have h2 := hr.ws
  refine awp_seq_s KT_ok hc rfl fun K1 hK1 => ?_
  simp -dsimp -implicitDefEqProofs (disch := first | assumption | omega | (simp [maxLen, avs_len] <;> omega) | decide) only [sT_assign, sT_box, deadH, sT_nil, oK_some, q_o, layF, ↓reduceIte, q_b, q_f, q_s, q_l, q_a, as_dagg, D.one, Value.oneCell', q_n, Nat.reduceEqDiff, iD, intsD, intssD, deadH, rolD, rolC]
  refine hK1 _ _ ?_
  refine awp_seq_s KT_ok hc rfl fun K2 hK2 => ?_
  simp -dsimp -implicitDefEqProofs (disch := first | assumption | omega | (simp [maxLen, avs_len] <;> omega) | decide) only [sT_load, sT_fa, sT_mf, sT_call0, oK_some, loadF, fieldAddrF, ↓reduceIte, q_b, ifp, q_f, q_s, q_l, q_n, Nat.reduceEqDiff, Nat.reduceAdd, fo_29_2, sz_26, ag_26]
  refine kc_own (idxw_c r.wv n (by omega) (by omega)) ?_ ?_
  · simp (disch := first | assumption | omega | (simp [maxLen, avs_len] <;> omega) | decide) only [deep_d, deepL_nil, deepL_cons, lookH_eq, cellsOf_c, deep_op, deep_clo, Nat.reduceAdd, D.fix, Option.map_some, Option.bind_some, List.getElem?_cons_zero, List.getElem?_cons_succ, iD, intssD, waveD]
  simp -dsimp -implicitDefEqProofs (disch := first | assumption | omega | (simp [maxLen, avs_len] <;> omega) | decide) only [sT_assign, sT_nil, ↓reduceIte, q_b, q_f]
  refine hK2 _ _ ?_
  refine awp_ret ?_
  show closeA _ _ = _
  simp (disch := first | assumption | omega | (simp [maxLen, avs_len] <;> omega) | decide) only [closeA, retV, deep_d, Nat.reduceAdd, Nat.zero_add, D.fix, frL_get, ↓reduceIte, Option.map_some, List.length_cons, List.length_nil, iD]
theorem sum_take' {w : List (List Int)} {n : Nat} : sumL (w.take n) ≤ sumL w := sum_take w n
theorem map_take' {α β : Type} (f : α → β) (l : List α) (n : Nat) : (l.map f).take n = (l.take n).map f := by rw [List.map_take]
set_option maxRecDepth 100000 in
set_option linter.unusedVariables false in
set_option maxHeartbeats 4000000 in
theorem upto_c (r : Rol) (n : Nat) (hr : ShortR r) (hn : n ≤ r.wv.length) : PCalls Try.prog 38 [rolD r, iD n] (.d (intsD (r.wv.take n).flatten)) := by
  refine pcalls_of0 (fn := Try.f38) (by kernel_rfl) Try.func38 rfl (Nat.le_of_ble_eq_true rfl) fun c hc hp => ?_
  refine awp_less (τ' := frL [(0, .d (rolD r)), (1, .d (iD n))]) (less_cons (less_cons (less_nil _) rfl) rfl) ?_
  have h1 := hr.wl
  have h2 := hr.ws
  have h3 := sum_take r.wv n
  have h4 : (r.wv.take n).length = n := by simp; omega
  refine awp_seq_s KT_ok hc rfl fun K1 hK1 => ?_
  simp -dsimp -implicitDefEqProofs (disch := first | assumption | omega | (simp [maxLen, avs_len] <;> omega) | decide) only [sT_assign, sT_box, deadH, sT_nil, oK_some, q_o, layF, ↓reduceIte, q_b, q_f, q_s, q_l, as_dagg, D.one, Value.oneCell', iD, intsD, intssD, deadH, rolD, rolC]
  refine hK1 _ _ ?_
  refine awp_seq_s KT_ok hc rfl fun K2 hK2 => ?_
  simp -dsimp -implicitDefEqProofs (disch := first | assumption | omega | (simp [maxLen, avs_len] <;> omega) | decide) only [sT_move, sT_load, sT_fa, sT_slice, sT_call0, oK_some, q_o, loadF, fieldAddrF, sliceF, sb_none, sb_some, ↓reduceIte, q_b, ifp, q_f, q_s, q_l, Int.toNat_natCast, q_n, Nat.reduceEqDiff, List.drop_zero, Int.sub_zero, Int.toNat_zero, map_take', fo_29_2, sz_26, ag_26, eo_26]
  refine kc_by (concat_c (r.wv.take n) (by omega) (by omega)) (by simp [AV.toD, AV.toD.toDs, intssD, h4]) ?_
  simp -dsimp -implicitDefEqProofs (disch := first | assumption | omega | (simp [maxLen, avs_len] <;> omega) | decide) only [sT_assign, sT_nil, ↓reduceIte, q_b, q_f, intsD]
  refine hK2 _ _ ?_
  refine awp_ret ?_
  show closeA _ _ = _
  simp (disch := first | assumption | omega | (simp [maxLen, avs_len] <;> omega) | decide) only [closeA, retV, deep_d, Nat.zero_add, D.fix, frL_get, ↓reduceIte, Option.map_some, List.length_cons, List.length_nil, intsD]
end Go.Proofs.Ytinefghmmbggeaa

/- Waves: validWaves. -/
set_option linter.unusedVariables false
set_option linter.unusedSimpArgs false
namespace Go.Proofs.Ytinefghmmbggeaa
open Go Go.RowKit
def chipsB (l : List Int) : Bool := (l.all fun c => decide (0 ≤ c) && decide (c < 64)) && decide l.Nodup
def fullB (w : List (List Int)) : Bool := w.all fun l => !l.isEmpty
def validW (w : List (List Int)) : Bool := chipsB w.flatten && fullB w && decide (1 ≤ w.length) && decide (w.length ≤ 64)
theorem chips_iff {l : List Int} : chipsB l = true ↔ (∀ c ∈ l, 0 ≤ c ∧ c < 64) ∧ l.Nodup := by
  simp [chipsB]
theorem chips_take {w : List (List Int)} {k m : Nat} (hk : k < w.length) (h : chipsB w.flatten = true) : chipsB ((w.take k).flatten ++ (nth w k).take m) = true := by
  have e : w.flatten = ((w.take k).flatten ++ (nth w k).take m) ++ ((nth w k).drop m ++ (w.drop (k + 1)).flatten) := by
    have h1 : (w.take (k + 1) ++ w.drop (k + 1)).flatten = w.flatten := by rw [List.take_append_drop]
    rw [← h1, List.flatten_append, flat_step hk]
    have h2 : nth w k = (nth w k).take m ++ (nth w k).drop m := (List.take_append_drop m _).symm
    conv => lhs; rw [h2]
    simp only [List.append_assoc]
  rw [e, chips_iff] at h
  rw [chips_iff]
  exact ⟨fun c hc => h.1 c (List.mem_append_left _ hc), (List.nodup_append.1 h.2).1⟩
theorem chips_bad {w : List (List Int)} {k m : Nat} (hk : k < w.length) (h : chipsB ((w.take k).flatten ++ (nth w k).take m) = false) : validW w = false := by
  cases hc : chipsB w.flatten with
  | false => simp [validW, hc]
  | true => rw [chips_take hk hc] at h; cases h
theorem chips_full {w : List (List Int)} (h1 : chipsB w.flatten = true) (h2 : ∀ i, i < w.length → nth w i ≠ []) : validW w = (decide (1 ≤ w.length) && decide (w.length ≤ 64)) := by
  have : fullB w = true := List.all_eq_true.2 fun l hl => by
    obtain ⟨i, hi, rfl⟩ := List.getElem_of_mem hl
    have := h2 i hi
    rw [nth_eq hi] at this
    simpa using this
  simp [validW, h1, this]
theorem empty_bad {w : List (List Int)} {k : Nat} (hk : k < w.length) (h : nth w k = []) : validW w = false := by
  have : fullB w = false := by
    unfold fullB
    rw [List.all_eq_false]
    exact ⟨_, nth_mem hk, by simp [h]⟩
  simp [validW, this]
theorem of_app {l : List Int} {c : Int} : ofS (l ++ [c]) = putS c (ofS l) := by simp [ofS]
set_option maxRecDepth 100000 in
set_option linter.unusedVariables false in
set_option maxHeartbeats 4000000 in
theorem valw_c (w : List (List Int)) (h1 : w.length ≤ 10000) (h2 : sumL w ≤ 1000000) (hI : ∀ l ∈ w, I64s l) : PCalls Try.prog 35 [intssD w] (.d (.val (.bool (validW w)))) := by
  refine pcalls_of0 (fn := Try.f35) (by kernel_rfl) Try.func35 rfl (Nat.le_of_ble_eq_true rfl) fun c hc hp => ?_
  refine awp_less (τ' := frL [(0, .d (intssD w))]) (less_cons (less_nil _) rfl) ?_
  refine awp_seq_s KT_ok hc rfl fun K1 hK1 => ?_
  simp -dsimp -implicitDefEqProofs (disch := first | assumption | omega | (simp [maxLen, avs_len] <;> omega) | decide) only [sT_assign, sT_nil, q_f, intssD]
  refine hK1 _ _ ?_
  refine awp_seq_s KT_ok hc rfl fun K2 hK2 => ?_
  simp -dsimp -implicitDefEqProofs (disch := first | assumption | omega | (simp [maxLen, avs_len] <;> omega) | decide) only [sT_assign, sT_mm, deadH, sT_nil, oK_some, layF, ↓reduceIte, q_b, q_f, q_l, q_s, deadH, mm_set]
  refine hK2 _ _ ?_
  refine awp_seq_k fun K3 hK3 => ?_
  refine awp_seq_s KT_ok hc rfl fun K4 hK4 => ?_
  simp -dsimp -implicitDefEqProofs (disch := first | assumption | omega | (simp [maxLen, avs_len] <;> omega) | decide) only [sT_move, sT_len, sT_nil, oK_some, q_o, lenF, builtinF, ↓reduceIte, q_b, q_f, q_s, Nat.reduceEqDiff, eo_26]
  refine hK4 _ _ ?_
  refine awp_block ?_
  refine awp_loop_rt hp (fun τ' H' mm => ∃ k, (k ≤ w.length ∧ chipsB (w.take k).flatten = true ∧ ∀ i, i < k → nth w i ≠ []) ∧ mm = w.length - k ∧ H' = [setO (ofS (w.take k).flatten)] ∧ τ' = frL [(0, .d (intssD w)), (3, .om 0), (9, .d (intssD w)), (10, .d (iD w.length)), (11, .d (iD k))]) (w.length) ?_ ⟨0, ⟨Nat.zero_le _, rfl, fun j hj => absurd hj (by omega)⟩, rfl, rfl, rfl⟩ ?_
  · refine Rt.end (less_cons (less_cons (less_cons (less_cons (less_cons (less_nil _) rfl) rfl) rfl) rfl) rfl) ?_
    rfl
  rintro τ' H' mm ⟨k, ⟨hk, hch, hf⟩, rfl, rfl, rfl⟩
  refine awp_seq_s KT_ok hc rfl fun K5 hK5 => ?_
  simp -dsimp -implicitDefEqProofs (disch := first | assumption | omega | (simp [maxLen, avs_len] <;> omega) | decide) only [sT_bin, sT_nil, oK_some, q_o, binF_v, v_lss, ↓reduceIte, q_b, q_f, Nat.reduceEqDiff, iD, intssD]
  refine hK5 _ _ ?_
  refine awp_seq_k fun K6 hK6 => ?_
  refine awp_cond rfl (fun ht => ?_) (fun ht => ?_)
  · have hlt : k < w.length := by simp at ht; omega
    have hrl := row_len hlt
    have hIk : I64s (nth w k) := hI _ (nth_mem hlt)
    refine awp_skip (hK6 _ _ ?_)
    refine awp_seq_k fun K7 hK7 => ?_
    refine awp_block ?_
    refine awp_seq_s KT_ok hc rfl fun K8 hK8 => ?_
    simp -dsimp -implicitDefEqProofs (disch := first | assumption | omega | (simp [maxLen, avs_len] <;> omega) | decide) only [sT_assign, sT_load, sT_ia, sT_nil, oK_some, q_o, loadF, ixO, indexAddrF, ↓reduceIte, q_b, ifp, q_f, Int.toNat_natCast, q_n, Nat.reduceEqDiff, get_map, intsD, eo_26, sz_27, ag_27]
    refine hK8 _ _ ?_
    refine awp_seq_k fun K9 hK9 => ?_
    refine awp_seq_s KT_ok hc rfl fun K10 hK10 => ?_
    simp -dsimp -implicitDefEqProofs (disch := first | assumption | omega | (simp [maxLen, avs_len] <;> omega) | decide) only [sT_move, sT_len, sT_nil, oK_some, q_o, lenF, builtinF, ↓reduceIte, q_b, q_f, q_s, eo_27]
    refine hK10 _ _ ?_
    refine awp_block ?_
    refine awp_loop_rt hp (fun τ' H' mm => ∃ m, (m ≤ (nth w k).length ∧ chipsB ((w.take k).flatten ++ (nth w k).take m) = true) ∧ mm = (nth w k).length - m ∧ H' = [setO (ofS ((w.take k).flatten ++ (nth w k).take m))] ∧ τ' = frL [(0, .d (intssD w)), (3, .om 0), (5, .d (intsD (nth w k))), (9, .d (intssD w)), (10, .d (iD w.length)), (11, .d (iD k)), (15, .d (intsD (nth w k))), (16, .d (iD (nth w k).length)), (17, .d (iD m))]) ((nth w k).length) ?_ ⟨0, ⟨Nat.zero_le _, by simpa using hch⟩, rfl, rfl, rfl⟩ ?_
    · refine Rt.end (less_cons (less_cons (less_cons (less_cons (less_cons (less_cons (less_cons (less_cons (less_cons (less_nil _) rfl) rfl) rfl) rfl) rfl) rfl) rfl) rfl) rfl) ?_
      simp
    rintro τ' H' mm ⟨m, ⟨hm, hcm⟩, rfl, rfl, rfl⟩
    refine awp_seq_s KT_ok hc rfl fun K11 hK11 => ?_
    simp -dsimp -implicitDefEqProofs (disch := first | assumption | omega | (simp [maxLen, avs_len] <;> omega) | decide) only [sT_bin, sT_nil, oK_some, q_o, binF_v, v_lss, ↓reduceIte, q_b, q_f, Nat.reduceEqDiff, iD, intsD, intssD]
    refine hK11 _ _ ?_
    refine awp_seq_k fun K12 hK12 => ?_
    refine awp_cond rfl (fun ht => ?_) (fun ht => ?_)
    · have hlm : m < (nth w k).length := by simp at ht; omega
      have hn : I64 (nth (nth w k) m) := hIk.nth hlm
      have hs : OkS (ofS ((w.take k).flatten ++ (nth w k).take m)) := OkS.of fun x hx => by
        have := (chips_iff.1 hcm).1 x hx
        exact ⟨by omega, by omega⟩
      have hnx : (w.take k).flatten ++ (nth w k).take (m + 1) = ((w.take k).flatten ++ (nth w k).take m) ++ [nth (nth w k) m] := by
        rw [take_nth hlm, List.append_assoc]
      have hno : ¬ (0 ≤ nth (nth w k) m ∧ nth (nth w k) m < 64) → validW w = false := fun h => chips_bad (m := m + 1) hlt (by
        rw [hnx]
        cases hb : chipsB (((w.take k).flatten ++ (nth w k).take m) ++ [nth (nth w k) m]) with
        | false => rfl
        | true => exact absurd ((chips_iff.1 hb).1 _ (by simp)) h)
      refine awp_skip (hK12 _ _ ?_)
      refine awp_seq_k fun K13 hK13 => ?_
      refine awp_block ?_
      refine awp_seq_s KT_ok hc rfl fun K14 hK14 => ?_
      simp -dsimp -implicitDefEqProofs (disch := first | assumption | omega | (simp [maxLen, avs_len] <;> omega) | decide) only [sT_assign, sT_load, sT_ia, sT_nil, oK_some, q_o, loadF, ixO, indexAddrF, ↓reduceIte, q_b, ifp, q_f, Int.toNat_natCast, q_n, Nat.reduceEqDiff, get_map, iD, eo_27, sz_3, ag_3]
      refine hK14 _ _ ?_
      refine awp_seq_k fun K15 hK15 => ?_
      refine awp_seq_s KT_ok hc rfl fun K16 hK16 => ?_
      rcases (show nth (nth w k) m < 0 ∨ (0 ≤ nth (nth w k) m ∧ 64 ≤ nth (nth w k) m) ∨ ((0 ≤ nth (nth w k) m ∧ nth (nth w k) m < 64) ∧ nth (nth w k) m ∈ keysS (ofS ((w.take k).flatten ++ (nth w k).take m))) ∨ ((0 ≤ nth (nth w k) m ∧ nth (nth w k) m < 64) ∧ nth (nth w k) m ∉ keysS (ofS ((w.take k).flatten ++ (nth w k).take m))) from by by_cases h1 : nth (nth w k) m < 0 <;> by_cases h2 : 64 ≤ nth (nth w k) m <;> by_cases h3 : nth (nth w k) m ∈ keysS (ofS ((w.take k).flatten ++ (nth w k).take m)) <;> simp [h1, h2, h3] <;> omega) with hv | hv | ⟨hv, hq⟩ | ⟨hv, hq⟩
      · have hx : validW w = false := hno (by omega)
        simp -dsimp -implicitDefEqProofs (disch := first | assumption | omega | (simp [maxLen, avs_len] <;> omega) | decide) only [sT_move, sT_pick, sT_bin, sT_nil, sT_g, oK_some, gK_f, q_o, binF_v, v_lss, ↓reduceIte, q_b, guardA_some, guardV_f, q_f, q_l, Nat.reduceEqDiff, dec_t, nb_f]
        refine hK16 _ _ ?_
        refine awp_cond rfl (fun ht => ?_) (fun ht => ?_)
        · refine awp_seq_s KT_ok hc rfl fun K17 hK17 => ?_
          simp -dsimp -implicitDefEqProofs (disch := first | assumption | omega | (simp [maxLen, avs_len] <;> omega) | decide) only [sT_assign, sT_nil, q_f]
          refine hK17 _ _ ?_
          refine awp_ret ?_
          show closeA _ _ = _
          simp (disch := first | assumption | omega | (simp [maxLen, avs_len] <;> omega) | decide) only [closeA, retV, deep_d, Nat.zero_add, D.fix, frL_get, ↓reduceIte, Option.map_some, List.length_cons, List.length_nil, hx]
        · cases ht
      · have hx : validW w = false := hno (by omega)
        simp -dsimp -implicitDefEqProofs (disch := first | assumption | omega | (simp [maxLen, avs_len] <;> omega) | decide) only [sT_move, sT_pick, sT_bin, sT_nil, sT_g, oK_some, gK_t, gK_f, q_o, binF_v, v_lss, v_geq, ↓reduceIte, q_b, guardA_some, guardV_f, q_f, q_l, Nat.reduceEqDiff, dec_t, dec_f, nb_t, nb_f]
        refine hK16 _ _ ?_
        refine awp_cond rfl (fun ht => ?_) (fun ht => ?_)
        · refine awp_seq_s KT_ok hc rfl fun K18 hK18 => ?_
          simp -dsimp -implicitDefEqProofs (disch := first | assumption | omega | (simp [maxLen, avs_len] <;> omega) | decide) only [sT_assign, sT_nil, q_f]
          refine hK18 _ _ ?_
          refine awp_ret ?_
          show closeA _ _ = _
          simp (disch := first | assumption | omega | (simp [maxLen, avs_len] <;> omega) | decide) only [closeA, retV, deep_d, Nat.zero_add, D.fix, frL_get, ↓reduceIte, Option.map_some, List.length_cons, List.length_nil, hx]
        · cases ht
      · have hx : validW w = false := chips_bad (m := m + 1) hlt (by
          rw [hnx]
          cases hb : chipsB (((w.take k).flatten ++ (nth w k).take m) ++ [nth (nth w k) m]) with
          | false => rfl
          | true =>
            have := (List.nodup_append.1 (chips_iff.1 hb).2).2.2 _ (mem_of.1 hq) _ (List.mem_singleton.2 rfl)
            exact absurd rfl this)
        simp -dsimp -implicitDefEqProofs (disch := first | assumption | omega | (simp [maxLen, avs_len] <;> omega) | decide) only [sT_move, sT_pick, sT_bin, sT_lookup, sT_nil, sT_g, oK_some, gK_t, q_o, binF_v, v_lss, v_geq, ↓reduceIte, q_b, guardA_some, guardV_f, q_f, q_l, q_n, Nat.reduceEqDiff, lk_om, esOf_set, lkG_set, dec_t, dec_f, nb_t]
        refine hK16 _ _ ?_
        refine awp_cond rfl (fun ht => ?_) (fun ht => ?_)
        · refine awp_seq_s KT_ok hc rfl fun K19 hK19 => ?_
          simp -dsimp -implicitDefEqProofs (disch := first | assumption | omega | (simp [maxLen, avs_len] <;> omega) | decide) only [sT_assign, sT_nil, q_f]
          refine hK19 _ _ ?_
          refine awp_ret ?_
          show closeA _ _ = _
          simp (disch := first | assumption | omega | (simp [maxLen, avs_len] <;> omega) | decide) only [closeA, retV, deep_d, Nat.zero_add, D.fix, frL_get, ↓reduceIte, Option.map_some, List.length_cons, List.length_nil, hx]
        · cases ht
      · simp -dsimp -implicitDefEqProofs (disch := first | assumption | omega | (simp [maxLen, avs_len] <;> omega) | decide) only [sT_move, sT_pick, sT_bin, sT_lookup, sT_nil, sT_g, oK_some, gK_t, q_o, binF_v, v_lss, v_geq, ↓reduceIte, q_b, guardA_some, guardV_f, q_f, q_l, q_n, Nat.reduceEqDiff, lk_om, esOf_set, lkG_set, dec_t, dec_f, nb_t]
        refine hK16 _ _ ?_
        refine awp_cond rfl (fun ht => ?_) (fun ht => ?_)
        · cases ht
        · refine awp_skip (hK15 _ _ ?_)
          refine awp_s KT_ok hc rfl fun K20 hK20 => ?_
          simp -dsimp -implicitDefEqProofs (disch := first | assumption | omega | (simp [maxLen, avs_len] <;> omega) | decide) only [sT_move, sT_mu, sT_nil, oK_some, ↓reduceIte, q_b, q_f, q_l, q_s, Nat.reduceEqDiff, mapF_mu, muF_om, muG_set]
          refine hK20 _ _ (hK13 _ _ ?_)
          refine awp_s KT_ok hc rfl fun K21 hK21 => ?_
          simp -dsimp -implicitDefEqProofs (disch := first | assumption | omega | (simp [maxLen, avs_len] <;> omega) | decide) only [sT_move, sT_bin, sT_nil, oK_some, q_o, binF_v, v_add, ↓reduceIte, q_b, q_f, Nat.reduceEqDiff]
          refine hK21 _ _ ⟨_, _, _, ?_, ⟨m + 1, ⟨by omega, by rw [hnx, chips_iff]; refine ⟨fun x hx => ?_, List.nodup_append.2 ⟨(chips_iff.1 hcm).2, by simp, fun a ha b hb e => hq (mem_of.2 (by rw [List.mem_singleton] at hb; rw [← hb, ← e]; exact ha))⟩⟩; rcases List.mem_append.1 hx with hx | hx; exact (chips_iff.1 hcm).1 x hx; rw [List.mem_singleton] at hx; subst hx; omega⟩, rfl, rfl, rfl⟩, ?_⟩
          · first | omega | (simp only [List.length_cons]; omega) | (dsimp only; omega)
          · refine Rt.end (less_cons (less_cons (less_cons (less_cons (less_cons (less_cons (less_cons (less_cons (less_cons (less_nil _) rfl) rfl) rfl) rfl) rfl) rfl) rfl) rfl) rfl) ?_
            rw [hnx, of_app]
    · have hmm : m = (nth w k).length := by simp at ht; omega
      subst hmm
      rw [List.take_length] at hcm ⊢
      rw [← flat_step hlt] at hcm ⊢
      refine awp_exit (hK9 _ _ ?_)
      refine awp_seq_s KT_ok hc rfl fun K22 hK22 => ?_
      simp -dsimp -implicitDefEqProofs (disch := first | assumption | omega | (simp [maxLen, avs_len] <;> omega) | decide) only [sT_move, sT_bin, sT_len, sT_nil, oK_some, q_o, binF_v, lenF, builtinF, v_eql, ↓reduceIte, q_b, q_f, q_s, Nat.reduceEqDiff, eo_27]
      refine hK22 _ _ ?_
      refine awp_cond rfl (fun ht => ?_) (fun ht => ?_)
      · have hx : validW w = false := empty_bad hlt (by simpa using ht)
        refine awp_seq_s KT_ok hc rfl fun K23 hK23 => ?_
        simp -dsimp -implicitDefEqProofs (disch := first | assumption | omega | (simp [maxLen, avs_len] <;> omega) | decide) only [sT_assign, sT_nil, q_f]
        refine hK23 _ _ ?_
        refine awp_ret ?_
        show closeA _ _ = _
        simp (disch := first | assumption | omega | (simp [maxLen, avs_len] <;> omega) | decide) only [closeA, retV, deep_d, Nat.zero_add, D.fix, frL_get, ↓reduceIte, Option.map_some, List.length_cons, List.length_nil, hx]
      · have hf' : ∀ i, i < k + 1 → nth w i ≠ [] := fun i hi => by
          rcases Nat.lt_or_ge i k with h | h
          · exact hf i h
          · obtain rfl : i = k := by omega
            intro e
            simp [e] at ht
        refine awp_skip (hK7 _ _ ?_)
        refine awp_s KT_ok hc rfl fun K24 hK24 => ?_
        simp -dsimp -implicitDefEqProofs (disch := first | assumption | omega | (simp [maxLen, avs_len] <;> omega) | decide) only [sT_move, sT_bin, sT_nil, oK_some, q_o, binF_v, v_add, ↓reduceIte, q_b, q_f, Nat.reduceEqDiff]
        refine hK24 _ _ ⟨_, _, _, ?_, ⟨k + 1, ⟨by omega, hcm, hf'⟩, rfl, rfl, rfl⟩, ?_⟩
        · first | omega | (simp only [List.length_cons]; omega) | (dsimp only; omega)
        · refine Rt.end (less_cons (less_cons (less_cons (less_cons (less_cons (less_nil _) rfl) rfl) rfl) rfl) rfl) ?_
          first | rfl | (simp only [intsD, boolsD, bytesD, intssD, bytessD, gcH, gcO, gcVs_avs, gcVs, gcV, gcV_d, fzH, fzO, fzVs_avs, fzVs, fzV, posN, avs_nil, avs_cons, List.map_cons, List.map_nil, List.getD_cons_zero, List.getD_cons_succ, ↓reduceIte, Nat.reduceEqDiff, Option.map_some, List.set_cons_zero, List.set_cons_succ, takeD_avs, takeD_all, Nat.mul_one, List.length_map, List.cons_append, List.nil_append, mapF_mu, muF_om, muG_set, mapF_de, deF_om, deG_set, mapF_cl, clF_om, cl_66, lk_mp, lk_om, esOf_set, lkG_set, st_66, as_set, mm_set]; first | done | rfl)
  · have hkk : k = w.length := by simp at ht; omega
    subst hkk
    rw [List.take_length] at hch
    have hw := chips_full hch hf
    refine awp_exit (hK3 _ _ ?_)
    refine awp_seq_s KT_ok hc rfl fun K25 hK25 => ?_
    rcases Nat.lt_or_ge w.length 1 with hg | hg
    · have hx : validW w = false := by rw [hw, decide_eq_false (by omega)]; rfl
      simp -dsimp -implicitDefEqProofs (disch := first | assumption | omega | (simp [maxLen, avs_len] <;> omega) | decide) only [sT_move, sT_assign, sT_pick, sT_bin, sT_len, sT_nil, sT_g, oK_some, gK_f, q_o, binF_v, lenF, builtinF, v_geq, ↓reduceIte, q_b, guardA_some, guardV_t, q_f, q_s, q_l, Nat.reduceEqDiff, dec_f, eo_26]
      refine hK25 _ _ ?_
      refine awp_ret ?_
      show closeA _ _ = _
      simp (disch := first | assumption | omega | (simp [maxLen, avs_len] <;> omega) | decide) only [closeA, retV, deep_d, Nat.zero_add, D.fix, frL_get, ↓reduceIte, Option.map_some, List.length_cons, List.length_nil, hx]
    · have hx : validW w = decide ((w.length : Int) ≤ 64) := by rw [hw, decide_eq_true hg, Bool.true_and]; congr 1; exact propext (by omega)
      simp -dsimp -implicitDefEqProofs (disch := first | assumption | omega | (simp [maxLen, avs_len] <;> omega) | decide) only [sT_move, sT_assign, sT_pick, sT_bin, sT_len, sT_nil, sT_g, oK_some, gK_t, q_o, binF_v, lenF, builtinF, v_leq, v_geq, ↓reduceIte, q_b, guardA_some, guardV_t, q_f, q_s, q_l, Nat.reduceEqDiff, dec_t, dec_f, eo_26]
      refine hK25 _ _ ?_
      refine awp_ret ?_
      show closeA _ _ = _
      simp (disch := first | assumption | omega | (simp [maxLen, avs_len] <;> omega) | decide) only [closeA, retV, deep_d, Nat.zero_add, D.fix, frL_get, ↓reduceIte, Option.map_some, List.length_cons, List.length_nil, hx]
end Go.Proofs.Ytinefghmmbggeaa
