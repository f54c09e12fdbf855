/- Whether shapes and nodes are refused. -/
import Derived.Test.YtignimmnnccblaaQr
import Derived.Test.YtignimmnnccblaaCg
set_option linter.unusedVariables false
set_option linter.unusedSimpArgs false
set_option maxRecDepth 100000
set_option maxHeartbeats 4000000
namespace Go.Proofs.Ytignimmnnccblaa
open Go Go.RowKit
theorem zhm : (((((type_of% @zjn) ∧ (type_of% @zjo)) ∧ ((type_of% @zjp) ∧ (type_of% @ze9))) ∧ (((type_of% @zfa) ∧ (type_of% @zfc)) ∧ ((type_of% @ze4) ∧ ((type_of% @ze5) ∧ (type_of% @ze6))))) ∧ ((((type_of% @ze7) ∧ (type_of% @zwy)) ∧ ((type_of% @zwz) ∧ (type_of% @zdf))) ∧ (((type_of% @zdg) ∧ (type_of% @zdh)) ∧ ((type_of% @zdq) ∧ ((type_of% @jf7) ∧ (type_of% @jf8)))))) := ⟨⟨⟨⟨@zjn, @zjo⟩, ⟨@zjp, @ze9⟩⟩, ⟨⟨@zfa, @zfc⟩, ⟨@ze4, ⟨@ze5, @ze6⟩⟩⟩⟩, ⟨⟨⟨@ze7, @zwy⟩, ⟨@zwz, @zdf⟩⟩, ⟨⟨@zdg, @zdh⟩, ⟨@zdq, ⟨@jf7, @jf8⟩⟩⟩⟩⟩
def jjs (p : Int × Int) : Bool := decide (min p.1 p.2 < 0) || decide (8 < max p.1 p.2)
def zuf (c n : Int) : Bool := decide (n < 0) || decide (c ≤ n)
theorem jsf (p : Int × Int) : zbf Try.prog 62 [.agg [iD p.1, iD p.2]] (.d (oD (jjs p))) := by
 refine zbi (fn := Try.f62) (by kernel_rfl) Try.func62 rfl (Nat.le_of_ble_eq_true rfl) fun c hc hp => ?_
 refine zbk (τ' := frL [(0, .d (.agg [iD p.1, iD p.2]))]) (by repeat (first | exact zal _ | refine zai ?_ (by first | rfl | (simp [r_f]; done) | simp [r_f, *]))) ?_
 refine zac hp zaj hc rfl fun K1 hK1 => ?_
 simp -dsimp -implicitDefEqProofs (disch := first | assumption | omega | (simp only [r_z] <;> omega) | decide) only [r_r, ↓reduceIte, Nat.reduceEqDiff, Nat.reduceAdd, D.fix, Int.reduceToNat, Nat.reduceMul, Nat.reduceBNe, Nat.reduceBEq, zhm]
 refine hK1 _ _ ?_
 refine zac hp zaj hc rfl fun K2 hK2 => ?_
 rcases tf (decide (min p.1 p.2 < 0)) with q | q
 ·simp -dsimp -implicitDefEqProofs (disch := first | assumption | omega | (simp only [r_z] <;> omega) | decide) only [r_r, ↓reduceIte, Nat.reduceEqDiff, Nat.reduceAdd, D.fix, Int.reduceToNat, Nat.reduceMul, Nat.reduceBNe, Nat.reduceBEq, q, zhm]
  refine hK2 _ _ ?_
  refine za6 ?_
  show closeA _ _ = _
  simp (disch := first | assumption | omega | (simp only [r_z] <;> omega) | decide) only [r_c, Nat.reduceAdd, D.fix, ↓reduceIte, Nat.reduceEqDiff]
  simp [jjs, q]
 ·simp -dsimp -implicitDefEqProofs (disch := first | assumption | omega | (simp only [r_z] <;> omega) | decide) only [r_r, ↓reduceIte, Nat.reduceEqDiff, Nat.reduceAdd, D.fix, Int.reduceToNat, Nat.reduceMul, Nat.reduceBNe, Nat.reduceBEq, q, zhm]
  refine hK2 _ _ ?_
  refine za6 ?_
  show closeA _ _ = _
  simp (disch := first | assumption | omega | (simp only [r_z] <;> omega) | decide) only [r_c, Nat.reduceAdd, D.fix, ↓reduceIte, Nat.reduceEqDiff]
  simp [jjs, q]
theorem jsg (n cm : Int) : zbf Try.prog 63 [iD n, .fp [iD cm] 0] (.d (oD (zuf cm n))) := by
 refine zbi (fn := Try.f63) (by kernel_rfl) Try.func63 rfl (Nat.le_of_ble_eq_true rfl) fun c hc hp => ?_
 refine zbk (τ' := frL [(0, .d (iD n)), (1, .d (.fp [iD cm] 0))]) (by repeat (first | exact zal _ | refine zai ?_ (by first | rfl | (simp [r_f]; done) | simp [r_f, *]))) ?_
 refine zac hp zaj hc rfl fun K1 hK1 => ?_
 simp -dsimp -implicitDefEqProofs (disch := first | assumption | omega | (simp only [r_z] <;> omega) | decide) only [r_r, ↓reduceIte, Nat.reduceEqDiff, Nat.reduceAdd, D.fix, Int.reduceToNat, Nat.reduceMul, Nat.reduceBNe, Nat.reduceBEq]
 refine hK1 _ _ ?_
 refine zac hp zaj hc rfl fun K2 hK2 => ?_
 rcases tf (decide (n < 0)) with q | q
 ·simp -dsimp -implicitDefEqProofs (disch := first | assumption | omega | (simp only [r_z] <;> omega) | decide) only [r_r, ↓reduceIte, Nat.reduceEqDiff, Nat.reduceAdd, D.fix, Int.reduceToNat, Nat.reduceMul, Nat.reduceBNe, Nat.reduceBEq, q, zhm]
  refine hK2 _ _ ?_
  refine za6 ?_
  show closeA _ _ = _
  simp (disch := first | assumption | omega | (simp only [r_z] <;> omega) | decide) only [r_c, Nat.reduceAdd, D.fix, ↓reduceIte, Nat.reduceEqDiff]
  simp [zuf, q]
 ·simp -dsimp -implicitDefEqProofs (disch := first | assumption | omega | (simp only [r_z] <;> omega) | decide) only [r_r, ↓reduceIte, Nat.reduceEqDiff, Nat.reduceAdd, D.fix, Int.reduceToNat, Nat.reduceMul, Nat.reduceBNe, Nat.reduceBEq, q, zhm]
  refine hK2 _ _ ?_
  refine za6 ?_
  show closeA _ _ = _
  simp (disch := first | assumption | omega | (simp only [r_z] <;> omega) | decide) only [r_c, Nat.reduceAdd, D.fix, ↓reduceIte, Nat.reduceEqDiff]
  simp [zuf, q]
def pC (p : Int × Int) : List D := [iD p.1, iD p.2]
def shI (l : List (Int × Int)) : D := .fs (l.flatMap pC) l.length
theorem p_w (p : Int × Int) : (pC p).length = 2 := rfl
theorem zlp {l : List (Int × Int)} {k : Nat} (h : k < l.length) : zcl (l.flatMap pC) (k * 2) 2 = some (pC (nth l k)) := zhg p_w h
theorem zbj {l : List (Int × Int)} : (l.flatMap pC).length = l.length * 2 := zew p_w l
theorem zx5 {α : Type} [Inhabited α] {f : α → Bool} {l : List α} {k : Nat} (h : k < l.length) : (l.take (k + 1)).any f = ((l.take k).any f || f (nth l k)) := by rw [zee h]; simp
theorem zx6 {α : Type} [Inhabited α] {f : α → Bool} {l : List α} {k : Nat} (h : k < l.length) (hf : f (nth l k) = true) : l.any f = true := List.any_eq_true.2 ⟨_, zb6 h, hf⟩
theorem jk0 (l : List (Int × Int)) (hl : l.length ≤ maxLen) : RCalls Try.prog 70 [shI l, .val (.func (.func 62) #[] #[])] (fun r => ∃ z : Int, r = .d (iD z) ∧ (0 ≤ z ↔ l.any jjs = true)) := by
 unfold maxLen at hl
 refine zfj (fn := Try.f70) (by kernel_rfl) Try.func70 rfl (Nat.le_of_ble_eq_true rfl) fun c hc hp => ?_
 refine zbk (τ' := frL [(0, .d (shI l)), (1, .d (.val (.func (.func 62) #[] #[])))]) (by repeat (first | exact zal _ | refine zai ?_ (by first | rfl | (simp [r_f, zbj]; done) | simp [r_f, zbj, *]))) ?_
 refine zac hp zaj hc rfl fun K1 hK1 => ?_
 simp -dsimp -implicitDefEqProofs (disch := first | assumption | omega | (simp only [r_z, zbj] <;> omega) | decide) only [r_r, ↓reduceIte, Nat.reduceEqDiff, Nat.reduceAdd, D.fix, Int.reduceToNat, Nat.reduceMul, Nat.reduceBNe, Nat.reduceBEq, shI, zlp, p_w, pC]
 refine hK1 _ _ ?_
 refine zan fun K2 hK2 => ?_
 refine zac hp zaj hc rfl fun K3 hK3 => ?_
 simp -dsimp -implicitDefEqProofs (disch := first | assumption | omega | (simp only [r_z, zbj] <;> omega) | decide) only [r_r, ↓reduceIte, Nat.reduceEqDiff, Nat.reduceAdd, D.fix, Int.reduceToNat, Nat.reduceMul, Nat.reduceBNe, Nat.reduceBEq, shI, zlp, p_w, pC, zhm]
 refine hK3 _ _ ?_
 refine za1 ?_
 refine zbd hp (fun τ' H' mm => ∃ k, (k ≤ l.length ∧ (l.take k).any jjs = false) ∧ mm = l.length - k ∧ H' = [] ∧ τ' = frL [(0, .d (shI l)), (1, .d (.val (.func (.func 62) #[] #[]))), (7, .d (iD l.length)), (8, .d (iD k))]) (l.length) ?_ ⟨0, ⟨Nat.zero_le _, rfl⟩, rfl, rfl, rfl⟩ ?_
 ·refine Rt.end (by repeat (first | exact zal _ | refine zai ?_ (by first | rfl | (simp [r_f, zbj]; done) | simp [r_f, zbj, *]))) ?_
  first | rfl | (simp only [r_g, Nat.reduceAdd, ↓reduceIte, Nat.reduceEqDiff, shI, zlp, p_w, pC]; first | done | rfl)
 rintro τ' H' mm ⟨k, ⟨hk, hno⟩, rfl, rfl, rfl⟩
 refine zac hp zaj hc rfl fun K4 hK4 => ?_
 simp -dsimp -implicitDefEqProofs (disch := first | assumption | omega | (simp only [r_z, zbj] <;> omega) | decide) only [r_r, ↓reduceIte, Nat.reduceEqDiff, Nat.reduceAdd, D.fix, Int.reduceToNat, Nat.reduceMul, Nat.reduceBNe, Nat.reduceBEq, shI, zlp, p_w, pC, zhm]
 refine hK4 _ _ ?_
 refine zan fun K5 hK5 => ?_
 refine zap rfl (fun ht => ?_) (fun ht => ?_)
 ·have hlt : k < l.length := by simp at ht; omega
  refine za0 (hK5 _ _ ?_)
  refine zan fun K6 hK6 => ?_
  refine za1 ?_
  refine zac hp zaj hc rfl fun K7 hK7 => ?_
  simp -dsimp -implicitDefEqProofs (disch := first | assumption | omega | (simp only [r_z, zbj] <;> omega) | decide) only [r_r, ↓reduceIte, Nat.reduceEqDiff, Nat.reduceAdd, D.fix, Int.reduceToNat, Nat.reduceMul, Nat.reduceBNe, Nat.reduceBEq, shI, zlp, p_w, pC]
  refine hK7 _ _ ?_
  refine zac hp zaj hc rfl fun K8 hK8 => ?_
  simp -dsimp -implicitDefEqProofs (disch := first | assumption | omega | (simp only [r_z, zbj] <;> omega) | decide) only [r_r, ↓reduceIte, Nat.reduceEqDiff, Nat.reduceAdd, D.fix, Int.reduceToNat, Nat.reduceMul, Nat.reduceBNe, Nat.reduceBEq, shI, zlp, p_w, pC, zhm]
  refine zb8 (jsf (nth l k)) rfl ?_
  simp -dsimp -implicitDefEqProofs (disch := first | assumption | omega | (simp only [r_z, zbj] <;> omega) | decide) only [r_r, ↓reduceIte, Nat.reduceEqDiff, Nat.reduceAdd, D.fix, Int.reduceToNat, Nat.reduceMul, Nat.reduceBNe, Nat.reduceBEq, shI, zlp, p_w, pC, zhm]
  refine hK8 _ _ ?_
  refine zap rfl (fun ht => ?_) (fun ht => ?_)
  ·have hy := ht
   refine zac hp zaj hc rfl fun K9 hK9 => ?_
   simp -dsimp -implicitDefEqProofs (disch := first | assumption | omega | (simp only [r_z, zbj] <;> omega) | decide) only [r_r, ↓reduceIte, Nat.reduceEqDiff, Nat.reduceAdd, D.fix, Int.reduceToNat, Nat.reduceMul, Nat.reduceBNe, Nat.reduceBEq, shI, zlp, p_w, pC]
   refine hK9 _ _ ?_
   refine za6 ?_
   show ∃ r, closeA _ _ = some r ∧ _
   simp (disch := first | assumption | omega | (simp only [r_z, zbj] <;> omega) | decide) only [r_c, Nat.reduceAdd, D.fix, ↓reduceIte, Nat.reduceEqDiff, shI, zlp, p_w, pC]
   exact ⟨_, rfl, _, rfl, fun _ => zx6 hlt hy, fun _ => by omega⟩
  ·refine za0 (hK6 _ _ ?_)
   refine zbt hp zaj hc rfl fun K10 hK10 => ?_
   simp -dsimp -implicitDefEqProofs (disch := first | assumption | omega | (simp only [r_z, zbj] <;> omega) | decide) only [r_r, ↓reduceIte, Nat.reduceEqDiff, Nat.reduceAdd, D.fix, Int.reduceToNat, Nat.reduceMul, Nat.reduceBNe, Nat.reduceBEq, shI, zlp, p_w, pC, zhm]
   refine hK10 _ _ ⟨_, _, _, ?_, ⟨k + 1, ⟨by omega, by rw [zx5 hlt, hno, ht]; rfl⟩, rfl, rfl, rfl⟩, ?_⟩
   ·first | omega | (simp only [List.length_cons]; omega) | (dsimp only; omega)
   ·refine Rt.end (by repeat (first | exact zal _ | refine zai ?_ (by first | rfl | (simp [r_f, zbj]; done) | simp [r_f, zbj, *]))) ?_
    first | rfl | (simp only [r_g, Nat.reduceAdd, ↓reduceIte, Nat.reduceEqDiff, shI, zlp, p_w, pC]; first | done | rfl)
 ·have hge : k = l.length := by simp at ht; omega
  rw [hge, List.take_length] at hno
  refine zbl (hK2 _ _ ?_)
  refine zac hp zaj hc rfl fun K11 hK11 => ?_
  simp -dsimp -implicitDefEqProofs (disch := first | assumption | omega | (simp only [r_z, zbj] <;> omega) | decide) only [r_r, ↓reduceIte, Nat.reduceEqDiff, Nat.reduceAdd, D.fix, Int.reduceToNat, Nat.reduceMul, Nat.reduceBNe, Nat.reduceBEq, shI, zlp, p_w, pC]
  refine hK11 _ _ ?_
  refine za6 ?_
  show ∃ r, closeA _ _ = some r ∧ _
  simp (disch := first | assumption | omega | (simp only [r_z, zbj] <;> omega) | decide) only [r_c, Nat.reduceAdd, D.fix, ↓reduceIte, Nat.reduceEqDiff, shI, zlp, p_w, pC]
  exact ⟨_, rfl, _, rfl, fun h => by omega, fun h => by rw [hno] at h; cases h⟩
theorem zy8 (l : List (Int × Int)) (hl : l.length ≤ maxLen) : zbf Try.prog 64 [shI l, .val (.func (.func 62) #[] #[])] (.d (oD (l.any jjs))) := by
 refine zbi (fn := Try.f64) (by kernel_rfl) Try.func64 rfl (Nat.le_of_ble_eq_true rfl) fun c hc hp => ?_
 refine zbk (τ' := frL [(0, .d (shI l)), (1, .d (.val (.func (.func 62) #[] #[])))]) (by repeat (first | exact zal _ | refine zai ?_ (by first | rfl | (simp [r_f]; done) | simp [r_f, *]))) ?_
 refine zac hp zaj hc rfl fun K1 hK1 => ?_
 simp -dsimp -implicitDefEqProofs (disch := first | assumption | omega | (simp only [r_z] <;> omega) | decide) only [r_r, ↓reduceIte, Nat.reduceEqDiff, Nat.reduceAdd, D.fix, Int.reduceToNat, Nat.reduceMul, Nat.reduceBNe, Nat.reduceBEq]
 refine hK1 _ _ ?_
 refine zac hp zaj hc rfl fun K2 hK2 => ?_
 simp -dsimp -implicitDefEqProofs (disch := first | assumption | omega | (simp only [r_z] <;> omega) | decide) only [r_r, ↓reduceIte, Nat.reduceEqDiff, Nat.reduceAdd, D.fix, Int.reduceToNat, Nat.reduceMul, Nat.reduceBNe, Nat.reduceBEq, zhm]
 refine zov (jk0 l hl) rfl fun r hr => ?_
 obtain ⟨z, rfl, hz⟩ := hr
 simp -dsimp -implicitDefEqProofs (disch := first | assumption | omega | (simp only [r_z] <;> omega) | decide) only [r_r, ↓reduceIte, Nat.reduceEqDiff, Nat.reduceAdd, D.fix, Int.reduceToNat, Nat.reduceMul, Nat.reduceBNe, Nat.reduceBEq, zhm]
 refine hK2 _ _ ?_
 refine za6 ?_
 show closeA _ _ = _
 simp (disch := first | assumption | omega | (simp only [r_z] <;> omega) | decide) only [r_c, Nat.reduceAdd, D.fix, ↓reduceIte, Nat.reduceEqDiff]
 congr 4
 rw [Bool.eq_iff_iff, decide_eq_true_iff]
 exact hz
theorem jk1 (l : List Int) (cm : Int) (hl : l.length ≤ maxLen) : RCalls Try.prog 61 [intsD l, .clo (.func 63) [] [.fp [iD cm] 0]] (fun r => ∃ z : Int, r = .d (iD z) ∧ (0 ≤ z ↔ l.any (zuf cm) = true)) := by
 unfold maxLen at hl
 refine zfj (fn := Try.f61) (by kernel_rfl) Try.func61 rfl (Nat.le_of_ble_eq_true rfl) fun c hc hp => ?_
 refine zbk (τ' := frL [(0, .d (intsD l)), (1, .d (.clo (.func 63) [] [.fp [iD cm] 0]))]) (by repeat (first | exact zal _ | refine zai ?_ (by first | rfl | (simp [r_f]; done) | simp [r_f, *]))) ?_
 refine zac hp zaj hc rfl fun K1 hK1 => ?_
 simp -dsimp -implicitDefEqProofs (disch := first | assumption | omega | (simp only [r_z] <;> omega) | decide) only [r_r, ↓reduceIte, Nat.reduceEqDiff, Nat.reduceAdd, D.fix, Int.reduceToNat, Nat.reduceMul, Nat.reduceBNe, Nat.reduceBEq]
 refine hK1 _ _ ?_
 refine zan fun K2 hK2 => ?_
 refine zac hp zaj hc rfl fun K3 hK3 => ?_
 simp -dsimp -implicitDefEqProofs (disch := first | assumption | omega | (simp only [r_z] <;> omega) | decide) only [r_r, ↓reduceIte, Nat.reduceEqDiff, Nat.reduceAdd, D.fix, Int.reduceToNat, Nat.reduceMul, Nat.reduceBNe, Nat.reduceBEq, zhm]
 refine hK3 _ _ ?_
 refine za1 ?_
 refine zbd hp (fun τ' H' mm => ∃ k, (k ≤ l.length ∧ (l.take k).any (zuf cm) = false) ∧ mm = l.length - k ∧ H' = [] ∧ τ' = frL [(0, .d (intsD l)), (1, .d (.clo (.func 63) [] [.fp [iD cm] 0])), (7, .d (iD l.length)), (8, .d (iD k))]) (l.length) ?_ ⟨0, ⟨Nat.zero_le _, rfl⟩, rfl, rfl, rfl⟩ ?_
 ·refine Rt.end (by repeat (first | exact zal _ | refine zai ?_ (by first | rfl | (simp [r_f]; done) | simp [r_f, *]))) ?_
  first | rfl | (simp only [r_g, Nat.reduceAdd, ↓reduceIte, Nat.reduceEqDiff]; first | done | rfl)
 rintro τ' H' mm ⟨k, ⟨hk, hno⟩, rfl, rfl, rfl⟩
 refine zac hp zaj hc rfl fun K4 hK4 => ?_
 simp -dsimp -implicitDefEqProofs (disch := first | assumption | omega | (simp only [r_z] <;> omega) | decide) only [r_r, ↓reduceIte, Nat.reduceEqDiff, Nat.reduceAdd, D.fix, Int.reduceToNat, Nat.reduceMul, Nat.reduceBNe, Nat.reduceBEq, zhm]
 refine hK4 _ _ ?_
 refine zan fun K5 hK5 => ?_
 refine zap rfl (fun ht => ?_) (fun ht => ?_)
 ·have hlt : k < l.length := by simp at ht; omega
  refine za0 (hK5 _ _ ?_)
  refine zan fun K6 hK6 => ?_
  refine za1 ?_
  refine zac hp zaj hc rfl fun K7 hK7 => ?_
  simp -dsimp -implicitDefEqProofs (disch := first | assumption | omega | (simp only [r_z] <;> omega) | decide) only [r_r, ↓reduceIte, Nat.reduceEqDiff, Nat.reduceAdd, D.fix, Int.reduceToNat, Nat.reduceMul, Nat.reduceBNe, Nat.reduceBEq]
  refine hK7 _ _ ?_
  refine zac hp zaj hc rfl fun K8 hK8 => ?_
  simp -dsimp -implicitDefEqProofs (disch := first | assumption | omega | (simp only [r_z] <;> omega) | decide) only [r_r, ↓reduceIte, Nat.reduceEqDiff, Nat.reduceAdd, D.fix, Int.reduceToNat, Nat.reduceMul, Nat.reduceBNe, Nat.reduceBEq, zhm]
  refine jkh (fi := []) (ca := [.fp [iD cm] 0]) (ds := [iD (nth l k)]) (jsg (nth l k) cm) rfl ?_
  simp -dsimp -implicitDefEqProofs (disch := first | assumption | omega | (simp only [r_z] <;> omega) | decide) only [r_r, ↓reduceIte, Nat.reduceEqDiff, Nat.reduceAdd, D.fix, Int.reduceToNat, Nat.reduceMul, Nat.reduceBNe, Nat.reduceBEq, zhm]
  refine hK8 _ _ ?_
  refine zap rfl (fun ht => ?_) (fun ht => ?_)
  ·have hy := ht
   refine zac hp zaj hc rfl fun K9 hK9 => ?_
   simp -dsimp -implicitDefEqProofs (disch := first | assumption | omega | (simp only [r_z] <;> omega) | decide) only [r_r, ↓reduceIte, Nat.reduceEqDiff, Nat.reduceAdd, D.fix, Int.reduceToNat, Nat.reduceMul, Nat.reduceBNe, Nat.reduceBEq]
   refine hK9 _ _ ?_
   refine za6 ?_
   show ∃ r, closeA _ _ = some r ∧ _
   simp (disch := first | assumption | omega | (simp only [r_z] <;> omega) | decide) only [r_c, Nat.reduceAdd, D.fix, ↓reduceIte, Nat.reduceEqDiff]
   exact ⟨_, rfl, _, rfl, fun _ => zx6 hlt hy, fun _ => by omega⟩
  ·refine za0 (hK6 _ _ ?_)
   refine zbt hp zaj hc rfl fun K10 hK10 => ?_
   simp -dsimp -implicitDefEqProofs (disch := first | assumption | omega | (simp only [r_z] <;> omega) | decide) only [r_r, ↓reduceIte, Nat.reduceEqDiff, Nat.reduceAdd, D.fix, Int.reduceToNat, Nat.reduceMul, Nat.reduceBNe, Nat.reduceBEq, zhm]
   refine hK10 _ _ ⟨_, _, _, ?_, ⟨k + 1, ⟨by omega, by rw [zx5 hlt, hno, ht]; rfl⟩, rfl, rfl, rfl⟩, ?_⟩
   ·first | omega | (simp only [List.length_cons]; omega) | (dsimp only; omega)
   ·refine Rt.end (by repeat (first | exact zal _ | refine zai ?_ (by first | rfl | (simp [r_f]; done) | simp [r_f, *]))) ?_
    first | rfl | (simp only [r_g, Nat.reduceAdd, ↓reduceIte, Nat.reduceEqDiff]; first | done | rfl)
 ·have hge : k = l.length := by simp at ht; omega
  rw [hge, List.take_length] at hno
  refine zbl (hK2 _ _ ?_)
  refine zac hp zaj hc rfl fun K11 hK11 => ?_
  simp -dsimp -implicitDefEqProofs (disch := first | assumption | omega | (simp only [r_z] <;> omega) | decide) only [r_r, ↓reduceIte, Nat.reduceEqDiff, Nat.reduceAdd, D.fix, Int.reduceToNat, Nat.reduceMul, Nat.reduceBNe, Nat.reduceBEq]
  refine hK11 _ _ ?_
  refine za6 ?_
  show ∃ r, closeA _ _ = some r ∧ _
  simp (disch := first | assumption | omega | (simp only [r_z] <;> omega) | decide) only [r_c, Nat.reduceAdd, D.fix, ↓reduceIte, Nat.reduceEqDiff]
  exact ⟨_, rfl, _, rfl, fun h => by omega, fun h => by rw [hno] at h; cases h⟩
theorem zy9 (l : List Int) (cm : Int) (hl : l.length ≤ maxLen) : zbf Try.prog 43 [intsD l, .clo (.func 63) [] [.fp [iD cm] 0]] (.d (oD (l.any (zuf cm)))) := by
 refine zbi (fn := Try.f43) (by kernel_rfl) Try.func43 rfl (Nat.le_of_ble_eq_true rfl) fun c hc hp => ?_
 refine zbk (τ' := frL [(0, .d (intsD l)), (1, .d (.clo (.func 63) [] [.fp [iD cm] 0]))]) (by repeat (first | exact zal _ | refine zai ?_ (by first | rfl | (simp [r_f]; done) | simp [r_f, *]))) ?_
 refine zac hp zaj hc rfl fun K1 hK1 => ?_
 simp -dsimp -implicitDefEqProofs (disch := first | assumption | omega | (simp only [r_z] <;> omega) | decide) only [r_r, ↓reduceIte, Nat.reduceEqDiff, Nat.reduceAdd, D.fix, Int.reduceToNat, Nat.reduceMul, Nat.reduceBNe, Nat.reduceBEq]
 refine hK1 _ _ ?_
 refine zac hp zaj hc rfl fun K2 hK2 => ?_
 simp -dsimp -implicitDefEqProofs (disch := first | assumption | omega | (simp only [r_z] <;> omega) | decide) only [r_r, ↓reduceIte, Nat.reduceEqDiff, Nat.reduceAdd, D.fix, Int.reduceToNat, Nat.reduceMul, Nat.reduceBNe, Nat.reduceBEq, zhm]
 refine zov (jk1 l cm hl) rfl fun r hr => ?_
 obtain ⟨z, rfl, hz⟩ := hr
 simp -dsimp -implicitDefEqProofs (disch := first | assumption | omega | (simp only [r_z] <;> omega) | decide) only [r_r, ↓reduceIte, Nat.reduceEqDiff, Nat.reduceAdd, D.fix, Int.reduceToNat, Nat.reduceMul, Nat.reduceBNe, Nat.reduceBEq, zhm]
 refine hK2 _ _ ?_
 refine za6 ?_
 show closeA _ _ = _
 simp (disch := first | assumption | omega | (simp only [r_z] <;> omega) | decide) only [r_c, Nat.reduceAdd, D.fix, ↓reduceIte, Nat.reduceEqDiff]
 congr 4
 rw [Bool.eq_iff_iff, decide_eq_true_iff]
 exact hz
end Go.Proofs.Ytignimmnnccblaa
