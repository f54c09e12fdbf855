/- Whether shapes and nodes are refused. -/
import Derived.Test.YtgfnpfchdlcoeaaQ
import Derived.Test.YtgfnpfchdlcoeaaCg
set_option linter.unusedVariables false
set_option linter.unusedSimpArgs false
namespace Go.Proofs.Ytgfnpfchdlcoeaa
open Go Go.RowKit
def outB (p : Int × Int) : Bool := decide (min p.1 p.2 < 0) || decide (8 < max p.1 p.2)
def unkB (c n : Int) : Bool := decide (n < 0) || decide (c ≤ n)
set_option maxRecDepth 100000 in
set_option linter.unusedVariables false in
set_option maxHeartbeats 4000000 in
theorem out_c (p : Int × Int) : zce Try.prog 57 [.agg [iD p.1, iD p.2]] (.d (oD (outB p))) := by
  refine zb7 (fn := Try.f57) (by kernel_rfl) Try.func57 rfl (Nat.le_of_ble_eq_true rfl) fun c hc hp => ?_
  refine zch (τ' := frL [(0, .d (.agg [iD p.1, iD p.2]))]) (zaa (zaq _) rfl) ?_
  refine zac hp zao hc rfl fun K1 hK1 => ?_
  simp -dsimp -implicitDefEqProofs (disch := first | assumption | omega | (simp [maxLen, zab] <;> omega) | decide) only [zag, zdy, zbd, zaj, zae, q_o, layF, ↓reduceIte, q_b, q_f, q_s, q_l, zca, D.one, Value.oneCell', iD, zbd]
  refine hK1 _ _ ?_
  refine zac hp zao hc rfl fun K2 hK2 => ?_
  rcases tf (decide (min p.1 p.2 < 0)) with q | q
  · simp -dsimp -implicitDefEqProofs (disch := first | assumption | omega | (simp [maxLen, zab] <;> omega) | decide) only [zal, zag, zbq, zat, zdo, za1, zo6, zaj, sT_g, zae, gK_f, q_o, za8, ixO, za2, zay, zbe, zcz, ↓reduceIte, q_b, ifp, zar, zbk, q_f, q_s, q_l, q_n, Nat.reduceEqDiff, Int.toNat_zero, Int.reduceToNat, q, zp8, sz_3, ag_3]
    refine hK2 _ _ ?_
    refine zbc ?_
    show za7 _ _ = _
    simp (disch := first | assumption | omega | (simp [maxLen, zab] <;> omega) | decide) only [za7, retV, zbr, Nat.zero_add, D.fix, zbi, ↓reduceIte, Option.map_some, List.length_cons, List.length_nil, oD]
    simp [outB, q]
  · simp -dsimp -implicitDefEqProofs (disch := first | assumption | omega | (simp [maxLen, zab] <;> omega) | decide) only [zal, zag, zbq, zat, zdo, za1, zs6, zo6, zaj, sT_g, zae, gK_t, q_o, za8, ixO, za2, zay, zbe, zcz, zgj, ↓reduceIte, q_b, ifp, zar, zbk, q_f, q_s, q_l, q_n, Nat.reduceEqDiff, Int.toNat_zero, Int.reduceToNat, q, zp8, sz_3, ag_3]
    refine hK2 _ _ ?_
    refine zbc ?_
    show za7 _ _ = _
    simp (disch := first | assumption | omega | (simp [maxLen, zab] <;> omega) | decide) only [za7, retV, zbr, Nat.zero_add, D.fix, zbi, ↓reduceIte, Option.map_some, List.length_cons, List.length_nil, oD]
    simp [outB, q]
set_option maxRecDepth 100000 in
set_option linter.unusedVariables false in
set_option maxHeartbeats 4000000 in
theorem unk_c (n cm : Int) : zce Try.prog 58 [iD n, .fp [iD cm] 0] (.d (oD (unkB cm n))) := by
  refine zb7 (fn := Try.f58) (by kernel_rfl) Try.func58 rfl (Nat.le_of_ble_eq_true rfl) fun c hc hp => ?_
  refine zch (τ' := frL [(0, .d (iD n)), (1, .d (.fp [iD cm] 0))]) (zaa (zaa (zaq _) rfl) rfl) ?_
  refine zac hp zao hc rfl fun K1 hK1 => ?_
  simp -dsimp -implicitDefEqProofs (disch := first | assumption | omega | (simp [maxLen, zab] <;> omega) | decide) only [zag, zaj, q_f, iD]
  refine hK1 _ _ ?_
  refine zac hp zao hc rfl fun K2 hK2 => ?_
  rcases tf (decide (n < 0)) with q | q
  · simp -dsimp -implicitDefEqProofs (disch := first | assumption | omega | (simp [maxLen, zab] <;> omega) | decide) only [zal, zag, zbq, za1, zaj, sT_g, zae, gK_f, q_o, zay, zcz, ↓reduceIte, q_b, zar, zbk, q_f, q_l, Nat.reduceEqDiff, q]
    refine hK2 _ _ ?_
    refine zbc ?_
    show za7 _ _ = _
    simp (disch := first | assumption | omega | (simp [maxLen, zab] <;> omega) | decide) only [za7, retV, zbr, D.fix, zbi, ↓reduceIte, Option.map_some, List.length_nil, oD]
    simp [unkB, q]
  · simp -dsimp -implicitDefEqProofs (disch := first | assumption | omega | (simp [maxLen, zab] <;> omega) | decide) only [zal, zag, zbq, zat, za1, zaj, sT_g, zae, gK_t, q_o, za8, zay, zcz, zeb, ↓reduceIte, q_b, zar, zbk, q_f, q_l, Nat.reduceEqDiff, q, sz_3, ag_3]
    refine hK2 _ _ ?_
    refine zbc ?_
    show za7 _ _ = _
    simp (disch := first | assumption | omega | (simp [maxLen, zab] <;> omega) | decide) only [za7, retV, zbr, D.fix, zbi, ↓reduceIte, Option.map_some, List.length_nil, oD]
    simp [unkB, q]
def pC (p : Int × Int) : List D := [iD p.1, iD p.2]
def shI (l : List (Int × Int)) : D := .fs (l.flatMap pC) l.length
theorem p_w (p : Int × Int) : (pC p).length = 2 := rfl
theorem p_row {l : List (Int × Int)} {k : Nat} (h : k < l.length) : zd0 (l.flatMap pC) (k * 2) 2 = some (pC (nth l k)) := zja p_w h
theorem zci {l : List (Int × Int)} : (l.flatMap pC).length = l.length * 2 := zgl p_w l
theorem zon {α : Type} [Inhabited α] {f : α → Bool} {l : List α} {k : Nat} (h : k < l.length) : (l.take (k + 1)).any f = ((l.take k).any f || f (nth l k)) := by rw [zfq h]; simp
theorem zmk {α : Type} [Inhabited α] {f : α → Bool} {l : List α} {k : Nat} (h : k < l.length) (hf : f (nth l k) = true) : l.any f = true := List.any_eq_true.2 ⟨_, zdi h, hf⟩
set_option maxRecDepth 100000 in
set_option linter.unusedVariables false in
set_option maxHeartbeats 4000000 in
theorem index_p (l : List (Int × Int)) (hl : l.length ≤ maxLen) : RCalls Try.prog 78 [shI l, .val (.func (.func 57) #[] #[])] (fun r => ∃ z : Int, r = .d (iD z) ∧ (0 ≤ z ↔ l.any outB = true)) := by
  unfold maxLen at hl
  refine zho (fn := Try.f78) (by kernel_rfl) Try.func78 rfl (Nat.le_of_ble_eq_true rfl) fun c hc hp => ?_
  refine zch (τ' := frL [(0, .d (shI l)), (1, .d (.val (.func (.func 57) #[] #[])))]) (zaa (zaa (zaq _) rfl) rfl) ?_
  refine zac hp zao hc rfl fun K1 hK1 => ?_
  simp -dsimp -implicitDefEqProofs (disch := first | assumption | omega | (simp [maxLen, zab, zci] <;> omega) | decide) only [zag, zaj, q_f, shI]
  refine hK1 _ _ ?_
  refine zas fun K2 hK2 => ?_
  refine zac hp zao hc rfl fun K3 hK3 => ?_
  simp -dsimp -implicitDefEqProofs (disch := first | assumption | omega | (simp [maxLen, zab, zci] <;> omega) | decide) only [zal, zb8, zaj, zae, q_o, lenF, zbe, ↓reduceIte, q_b, q_f, q_s, Nat.reduceEqDiff, zjv]
  refine hK3 _ _ ?_
  refine zbg ?_
  refine zby hp (fun τ' H' mm => ∃ k, (k ≤ l.length ∧ (l.take k).any outB = false) ∧ mm = l.length - k ∧ H' = [] ∧ τ' = frL [(0, .d (shI l)), (1, .d (.val (.func (.func 57) #[] #[]))), (7, .d (iD l.length)), (8, .d (iD k))]) (l.length) ?_ ⟨0, ⟨Nat.zero_le _, rfl⟩, rfl, rfl, rfl⟩ ?_
  · refine Rt.end (zaa (zaa (zaa (zaa (zaq _) rfl) rfl) rfl) rfl) ?_
    first | rfl | (simp only [zbj, za9, zbp, zbt, zbm, gcH, zb1, zcb, zcc, gc_m, fz_m, zaz, gcVs, gcV, zcy, fzH, zc0, zb9, zcd, zbl, Nat.reduceAdd, fzVs, fzV, posN, zav, zap, List.map_cons, List.map_nil, List.getD_cons_zero, List.getD_cons_succ, ↓reduceIte, Nat.reduceEqDiff, Option.map_some, List.set_cons_zero, List.set_cons_succ, zba, zak, Nat.mul_one, List.length_map, List.cons_append, List.nil_append, shI, p_row, p_w, pC]; first | done | rfl)
  rintro τ' H' mm ⟨k, ⟨hk, hno⟩, rfl, rfl, rfl⟩
  refine zac hp zao hc rfl fun K4 hK4 => ?_
  simp -dsimp -implicitDefEqProofs (disch := first | assumption | omega | (simp [maxLen, zab, zci] <;> omega) | decide) only [za1, zaj, zae, q_o, zay, zcz, ↓reduceIte, q_b, q_f, Nat.reduceEqDiff, iD, shI]
  refine hK4 _ _ ?_
  refine zas fun K5 hK5 => ?_
  refine zau rfl (fun ht => ?_) (fun ht => ?_)
  · have hlt : k < l.length := by simp at ht; omega
    refine zbb (hK5 _ _ ?_)
    refine zas fun K6 hK6 => ?_
    refine zbg ?_
    refine zac hp zao hc rfl fun K7 hK7 => ?_
    simp -dsimp -implicitDefEqProofs (disch := first | assumption | omega | (simp [maxLen, zab, zci] <;> omega) | decide) only [zal, zag, zaj, ↓reduceIte, q_b, q_f, Nat.reduceEqDiff]
    refine hK7 _ _ ?_
    refine zac hp zao hc rfl fun K8 hK8 => ?_
    simp -dsimp -implicitDefEqProofs (disch := first | assumption | omega | (simp [maxLen, zab, zci] <;> omega) | decide) only [zal, zat, zdo, zfb, zae, q_o, za8, ixO, za2, ↓reduceIte, q_b, ifp, q_f, q_s, q_l, Int.toNat_natCast, Nat.reduceEqDiff, iD, p_row, pC, zjv, sz_84, ag_84]
    refine zda (out_c (nth l k)) rfl ?_
    simp -dsimp -implicitDefEqProofs (disch := first | assumption | omega | (simp [maxLen, zab, zci] <;> omega) | decide) only [zaj, q_f, oD]
    refine hK8 _ _ ?_
    refine zau rfl (fun ht => ?_) (fun ht => ?_)
    · have hy := ht
      refine zac hp zao hc rfl fun K9 hK9 => ?_
      simp -dsimp -implicitDefEqProofs (disch := first | assumption | omega | (simp [maxLen, zab, zci] <;> omega) | decide) only [zal, zag, zaj, ↓reduceIte, q_b, q_f, Nat.reduceEqDiff]
      refine hK9 _ _ ?_
      refine zbc ?_
      show ∃ r, za7 _ _ = some r ∧ _
      simp (disch := first | assumption | omega | (simp [maxLen, zab, zci] <;> omega) | decide) only [za7, retV, zbr, D.fix, zbi, ↓reduceIte, Option.map_some, List.length_nil, iD]
      exact ⟨_, rfl, _, rfl, fun _ => zmk hlt hy, fun _ => by omega⟩
    · refine zbb (hK6 _ _ ?_)
      refine zcw hp zao hc rfl fun K10 hK10 => ?_
      simp -dsimp -implicitDefEqProofs (disch := first | assumption | omega | (simp [maxLen, zab, zci] <;> omega) | decide) only [zal, za1, zaj, zae, q_o, zay, zcu, ↓reduceIte, q_b, q_f, Nat.reduceEqDiff]
      refine hK10 _ _ ⟨_, _, _, ?_, ⟨k + 1, ⟨by omega, by rw [zon hlt, hno, ht]; rfl⟩, rfl, rfl, rfl⟩, ?_⟩
      · first | omega | (simp only [List.length_cons]; omega) | (dsimp only; omega)
      · refine Rt.end (zaa (zaa (zaa (zaa (zaq _) rfl) rfl) rfl) rfl) ?_
        first | rfl | (simp only [zbj, za9, zbp, zbt, zbm, gcH, zb1, zcb, zcc, gc_m, fz_m, zaz, gcVs, gcV, zcy, fzH, zc0, zb9, zcd, zbl, Nat.reduceAdd, fzVs, fzV, posN, zav, zap, List.map_cons, List.map_nil, List.getD_cons_zero, List.getD_cons_succ, ↓reduceIte, Nat.reduceEqDiff, Option.map_some, List.set_cons_zero, List.set_cons_succ, zba, zak, Nat.mul_one, List.length_map, List.cons_append, List.nil_append, shI, p_row, p_w, pC]; first | done | rfl)
  · have hge : k = l.length := by simp at ht; omega
    rw [hge, List.take_length] at hno
    refine zcl (hK2 _ _ ?_)
    refine zac hp zao hc rfl fun K11 hK11 => ?_
    simp -dsimp -implicitDefEqProofs (disch := first | assumption | omega | (simp [maxLen, zab, zci] <;> omega) | decide) only [zag, zaj, q_f]
    refine hK11 _ _ ?_
    refine zbc ?_
    show ∃ r, za7 _ _ = some r ∧ _
    simp (disch := first | assumption | omega | (simp [maxLen, zab, zci] <;> omega) | decide) only [za7, retV, zbr, D.fix, zbi, ↓reduceIte, Option.map_some, List.length_nil, iD]
    exact ⟨_, rfl, _, rfl, fun h => by omega, fun h => by rw [hno] at h; cases h⟩
set_option maxRecDepth 100000 in
set_option linter.unusedVariables false in
set_option maxHeartbeats 4000000 in
theorem zq1 (l : List (Int × Int)) (hl : l.length ≤ maxLen) : zce Try.prog 59 [shI l, .val (.func (.func 57) #[] #[])] (.d (oD (l.any outB))) := by
  refine zb7 (fn := Try.f59) (by kernel_rfl) Try.func59 rfl (Nat.le_of_ble_eq_true rfl) fun c hc hp => ?_
  refine zch (τ' := frL [(0, .d (shI l)), (1, .d (.val (.func (.func 57) #[] #[])))]) (zaa (zaa (zaq _) rfl) rfl) ?_
  refine zac hp zao hc rfl fun K1 hK1 => ?_
  simp -dsimp -implicitDefEqProofs (disch := first | assumption | omega | (simp [maxLen, zab] <;> omega) | decide) only [zag, zaj, q_f]
  refine hK1 _ _ ?_
  refine zac hp zao hc rfl fun K2 hK2 => ?_
  simp -dsimp -implicitDefEqProofs (disch := first | assumption | omega | (simp [maxLen, zab] <;> omega) | decide) only [zal, zbh, ↓reduceIte, q_b, q_f, q_s, q_l, Nat.reduceEqDiff]
  refine znh (index_p l hl) rfl fun r hr => ?_
  obtain ⟨z, rfl, hz⟩ := hr
  simp -dsimp -implicitDefEqProofs (disch := first | assumption | omega | (simp [maxLen, zab] <;> omega) | decide) only [zag, za1, zaj, zae, q_o, zay, zeb, ↓reduceIte, q_b, q_f, iD]
  refine hK2 _ _ ?_
  refine zbc ?_
  show za7 _ _ = _
  simp (disch := first | assumption | omega | (simp [maxLen, zab] <;> omega) | decide) only [za7, retV, zbr, D.fix, zbi, ↓reduceIte, Option.map_some, List.length_nil, oD]
  congr 4
  rw [Bool.eq_iff_iff, decide_eq_true_iff]
  exact hz
set_option maxRecDepth 100000 in
set_option linter.unusedVariables false in
set_option maxHeartbeats 4000000 in
theorem index_i (l : List Int) (cm : Int) (hl : l.length ≤ maxLen) : RCalls Try.prog 66 [zbj l, .clo (.func 58) [] [.fp [iD cm] 0]] (fun r => ∃ z : Int, r = .d (iD z) ∧ (0 ≤ z ↔ l.any (unkB cm) = true)) := by
  unfold maxLen at hl
  refine zho (fn := Try.f66) (by kernel_rfl) Try.func66 rfl (Nat.le_of_ble_eq_true rfl) fun c hc hp => ?_
  refine zch (τ' := frL [(0, .d (zbj l)), (1, .d (.clo (.func 58) [] [.fp [iD cm] 0]))]) (zaa (zaa (zaq _) rfl) rfl) ?_
  refine zac hp zao hc rfl fun K1 hK1 => ?_
  simp -dsimp -implicitDefEqProofs (disch := first | assumption | omega | (simp [maxLen, zab] <;> omega) | decide) only [zag, zaj, q_f, iD, zbj]
  refine hK1 _ _ ?_
  refine zas fun K2 hK2 => ?_
  refine zac hp zao hc rfl fun K3 hK3 => ?_
  simp -dsimp -implicitDefEqProofs (disch := first | assumption | omega | (simp [maxLen, zab] <;> omega) | decide) only [zal, zb8, zaj, zae, q_o, lenF, zbe, ↓reduceIte, q_b, q_f, q_s, Nat.reduceEqDiff, zea]
  refine hK3 _ _ ?_
  refine zbg ?_
  refine zby hp (fun τ' H' mm => ∃ k, (k ≤ l.length ∧ (l.take k).any (unkB cm) = false) ∧ mm = l.length - k ∧ H' = [] ∧ τ' = frL [(0, .d (zbj l)), (1, .d (.clo (.func 58) [] [.fp [iD cm] 0])), (7, .d (iD l.length)), (8, .d (iD k))]) (l.length) ?_ ⟨0, ⟨Nat.zero_le _, rfl⟩, rfl, rfl, rfl⟩ ?_
  · refine Rt.end (zaa (zaa (zaa (zaa (zaq _) rfl) rfl) rfl) rfl) ?_
    first | rfl | (simp only [zbj, za9, zbp, zbt, zbm, gcH, zb1, zcb, zcc, gc_m, fz_m, zaz, gcVs, gcV, zcy, fzH, zc0, zb9, zcd, zbl, Nat.reduceAdd, fzVs, fzV, posN, zav, zap, List.map_cons, List.map_nil, List.getD_cons_zero, List.getD_cons_succ, ↓reduceIte, Nat.reduceEqDiff, Option.map_some, List.set_cons_zero, List.set_cons_succ, zba, zak, Nat.mul_one, List.length_map, List.cons_append, List.nil_append]; first | done | rfl)
  rintro τ' H' mm ⟨k, ⟨hk, hno⟩, rfl, rfl, rfl⟩
  refine zac hp zao hc rfl fun K4 hK4 => ?_
  simp -dsimp -implicitDefEqProofs (disch := first | assumption | omega | (simp [maxLen, zab] <;> omega) | decide) only [za1, zaj, zae, q_o, zay, zcz, ↓reduceIte, q_b, q_f, Nat.reduceEqDiff, iD, zbj]
  refine hK4 _ _ ?_
  refine zas fun K5 hK5 => ?_
  refine zau rfl (fun ht => ?_) (fun ht => ?_)
  · have hlt : k < l.length := by simp at ht; omega
    refine zbb (hK5 _ _ ?_)
    refine zas fun K6 hK6 => ?_
    refine zbg ?_
    refine zac hp zao hc rfl fun K7 hK7 => ?_
    simp -dsimp -implicitDefEqProofs (disch := first | assumption | omega | (simp [maxLen, zab] <;> omega) | decide) only [zal, zag, zaj, ↓reduceIte, q_b, q_f, Nat.reduceEqDiff]
    refine hK7 _ _ ?_
    refine zac hp zao hc rfl fun K8 hK8 => ?_
    simp -dsimp -implicitDefEqProofs (disch := first | assumption | omega | (simp [maxLen, zab] <;> omega) | decide) only [zal, zat, zdo, zfb, zae, q_o, za8, ixO, za2, ↓reduceIte, q_b, ifp, q_f, q_s, q_l, Int.toNat_natCast, q_n, Nat.reduceEqDiff, zcg, iD, zea, sz_3, ag_3]
    refine kc_clod (fi := []) (ca := [.fp [iD cm] 0]) (ds := [iD (nth l k)]) (unk_c (nth l k) cm) rfl ?_
    simp -dsimp -implicitDefEqProofs (disch := first | assumption | omega | (simp [maxLen, zab] <;> omega) | decide) only [zaj, q_f, oD]
    refine hK8 _ _ ?_
    refine zau rfl (fun ht => ?_) (fun ht => ?_)
    · have hy := ht
      refine zac hp zao hc rfl fun K9 hK9 => ?_
      simp -dsimp -implicitDefEqProofs (disch := first | assumption | omega | (simp [maxLen, zab] <;> omega) | decide) only [zal, zag, zaj, ↓reduceIte, q_b, q_f, Nat.reduceEqDiff]
      refine hK9 _ _ ?_
      refine zbc ?_
      show ∃ r, za7 _ _ = some r ∧ _
      simp (disch := first | assumption | omega | (simp [maxLen, zab] <;> omega) | decide) only [za7, retV, zbr, D.fix, zbi, ↓reduceIte, Option.map_some, List.length_nil, iD]
      exact ⟨_, rfl, _, rfl, fun _ => zmk hlt hy, fun _ => by omega⟩
    · refine zbb (hK6 _ _ ?_)
      refine zcw hp zao hc rfl fun K10 hK10 => ?_
      simp -dsimp -implicitDefEqProofs (disch := first | assumption | omega | (simp [maxLen, zab] <;> omega) | decide) only [zal, za1, zaj, zae, q_o, zay, zcu, ↓reduceIte, q_b, q_f, Nat.reduceEqDiff]
      refine hK10 _ _ ⟨_, _, _, ?_, ⟨k + 1, ⟨by omega, by rw [zon hlt, hno, ht]; rfl⟩, rfl, rfl, rfl⟩, ?_⟩
      · first | omega | (simp only [List.length_cons]; omega) | (dsimp only; omega)
      · refine Rt.end (zaa (zaa (zaa (zaa (zaq _) rfl) rfl) rfl) rfl) ?_
        first | rfl | (simp only [zbj, za9, zbp, zbt, zbm, gcH, zb1, zcb, zcc, gc_m, fz_m, zaz, gcVs, gcV, zcy, fzH, zc0, zb9, zcd, zbl, Nat.reduceAdd, fzVs, fzV, posN, zav, zap, List.map_cons, List.map_nil, List.getD_cons_zero, List.getD_cons_succ, ↓reduceIte, Nat.reduceEqDiff, Option.map_some, List.set_cons_zero, List.set_cons_succ, zba, zak, Nat.mul_one, List.length_map, List.cons_append, List.nil_append]; first | done | rfl)
  · have hge : k = l.length := by simp at ht; omega
    rw [hge, List.take_length] at hno
    refine zcl (hK2 _ _ ?_)
    refine zac hp zao hc rfl fun K11 hK11 => ?_
    simp -dsimp -implicitDefEqProofs (disch := first | assumption | omega | (simp [maxLen, zab] <;> omega) | decide) only [zag, zaj, q_f]
    refine hK11 _ _ ?_
    refine zbc ?_
    show ∃ r, za7 _ _ = some r ∧ _
    simp (disch := first | assumption | omega | (simp [maxLen, zab] <;> omega) | decide) only [za7, retV, zbr, D.fix, zbi, ↓reduceIte, Option.map_some, List.length_nil, iD]
    exact ⟨_, rfl, _, rfl, fun h => by omega, fun h => by rw [hno] at h; cases h⟩
set_option maxRecDepth 100000 in
set_option linter.unusedVariables false in
set_option maxHeartbeats 4000000 in
theorem zq2 (l : List Int) (cm : Int) (hl : l.length ≤ maxLen) : zce Try.prog 44 [zbj l, .clo (.func 58) [] [.fp [iD cm] 0]] (.d (oD (l.any (unkB cm)))) := by
  refine zb7 (fn := Try.f44) (by kernel_rfl) Try.func44 rfl (Nat.le_of_ble_eq_true rfl) fun c hc hp => ?_
  refine zch (τ' := frL [(0, .d (zbj l)), (1, .d (.clo (.func 58) [] [.fp [iD cm] 0]))]) (zaa (zaa (zaq _) rfl) rfl) ?_
  refine zac hp zao hc rfl fun K1 hK1 => ?_
  simp -dsimp -implicitDefEqProofs (disch := first | assumption | omega | (simp [maxLen, zab] <;> omega) | decide) only [zag, zaj, q_f, iD, zbj]
  refine hK1 _ _ ?_
  refine zac hp zao hc rfl fun K2 hK2 => ?_
  simp -dsimp -implicitDefEqProofs (disch := first | assumption | omega | (simp [maxLen, zab] <;> omega) | decide) only [zal, zbh, ↓reduceIte, q_b, q_f, q_s, q_l, Nat.reduceEqDiff]
  refine znh (index_i l cm hl) rfl fun r hr => ?_
  obtain ⟨z, rfl, hz⟩ := hr
  simp -dsimp -implicitDefEqProofs (disch := first | assumption | omega | (simp [maxLen, zab] <;> omega) | decide) only [zag, za1, zaj, zae, q_o, zay, zeb, ↓reduceIte, q_b, q_f, iD]
  refine hK2 _ _ ?_
  refine zbc ?_
  show za7 _ _ = _
  simp (disch := first | assumption | omega | (simp [maxLen, zab] <;> omega) | decide) only [za7, retV, zbr, D.fix, zbi, ↓reduceIte, Option.map_some, List.length_nil, oD]
  congr 4
  rw [Bool.eq_iff_iff, decide_eq_true_iff]
  exact hz
end Go.Proofs.Ytgfnpfchdlcoeaa
