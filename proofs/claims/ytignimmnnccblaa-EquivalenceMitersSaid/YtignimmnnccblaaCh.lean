/- Whether shapes and nodes are refused. -/
import Derived.Test.YtignimmnnccblaaQr
import Derived.Test.YtignimmnnccblaaCg
set_option linter.unusedVariables false
set_option linter.unusedSimpArgs false
set_option maxRecDepth 100000
set_option maxHeartbeats 4000000
namespace Go.Proofs.Ytignimmnnccblaa
open Go Go.RowKit
theorem zhl : (((((type_of% @zkr) ∧ (type_of% @zks)) ∧ ((type_of% @zkt) ∧ (type_of% @zex))) ∧ (((type_of% @zey) ∧ (type_of% @zfa)) ∧ ((type_of% @zfu) ∧ ((type_of% @zfv) ∧ (type_of% @zfw))))) ∧ ((((type_of% @zfx) ∧ (type_of% @zwv)) ∧ ((type_of% @zww) ∧ (type_of% @zde))) ∧ (((type_of% @zdf) ∧ (type_of% @zdg)) ∧ ((type_of% @zdq) ∧ ((type_of% @zy9) ∧ (type_of% @zza)))))) := ⟨⟨⟨⟨@zkr, @zks⟩, ⟨@zkt, @zex⟩⟩, ⟨⟨@zey, @zfa⟩, ⟨@zfu, ⟨@zfv, @zfw⟩⟩⟩⟩, ⟨⟨⟨@zfx, @zwv⟩, ⟨@zww, @zde⟩⟩, ⟨⟨@zdf, @zdg⟩, ⟨@zdq, ⟨@zy9, @zza⟩⟩⟩⟩⟩
def jjx (p : Int × Int) : Bool := decide (min p.1 p.2 < 0) || decide (8 < max p.1 p.2)
def znp (c n : Int) : Bool := decide (n < 0) || decide (c ≤ n)
theorem js6 (p : Int × Int) : za9 Try.prog 62 [.agg [iD p.1, iD p.2]] (.d (oD (jjx p))) := by
 refine zbc (fn := Try.f62) (by kernel_rfl) Try.func62 rfl (Nat.le_of_ble_eq_true rfl) fun c hc hp => ?_
 refine zbf (τ' := frL [(0, .d (.agg [iD p.1, iD p.2]))]) (by repeat (first | exact zak _ | refine zah ?_ (by first | rfl | (simp [r_f]; done) | simp [r_f, *]))) ?_
 refine zac hp zaj hc rfl fun K1 hK1 => ?_
 simp -dsimp -implicitDefEqProofs (disch := first | assumption | omega | (simp only [r_z] <;> omega) | decide) only [r_r, ↓reduceIte, Nat.reduceEqDiff, Nat.reduceAdd, D.fix, Int.reduceToNat, Nat.reduceMul, Nat.reduceBNe, Nat.reduceBEq, zhl]
 refine hK1 _ _ ?_
 refine zac hp zaj hc rfl fun K2 hK2 => ?_
 rcases tf (decide (min p.1 p.2 < 0)) with q | q
 ·simp -dsimp -implicitDefEqProofs (disch := first | assumption | omega | (simp only [r_z] <;> omega) | decide) only [r_r, ↓reduceIte, Nat.reduceEqDiff, Nat.reduceAdd, D.fix, Int.reduceToNat, Nat.reduceMul, Nat.reduceBNe, Nat.reduceBEq, q, zhl]
  refine hK2 _ _ ?_
  refine za4 ?_
  show closeA _ _ = _
  simp (disch := first | assumption | omega | (simp only [r_z] <;> omega) | decide) only [r_c, Nat.reduceAdd, D.fix, ↓reduceIte, Nat.reduceEqDiff]
  simp [jjx, q]
 ·simp -dsimp -implicitDefEqProofs (disch := first | assumption | omega | (simp only [r_z] <;> omega) | decide) only [r_r, ↓reduceIte, Nat.reduceEqDiff, Nat.reduceAdd, D.fix, Int.reduceToNat, Nat.reduceMul, Nat.reduceBNe, Nat.reduceBEq, q, zhl]
  refine hK2 _ _ ?_
  refine za4 ?_
  show closeA _ _ = _
  simp (disch := first | assumption | omega | (simp only [r_z] <;> omega) | decide) only [r_c, Nat.reduceAdd, D.fix, ↓reduceIte, Nat.reduceEqDiff]
  simp [jjx, q]
theorem js7 (n cm : Int) : za9 Try.prog 63 [iD n, .fp [iD cm] 0] (.d (oD (znp cm n))) := by
 refine zbc (fn := Try.f63) (by kernel_rfl) Try.func63 rfl (Nat.le_of_ble_eq_true rfl) fun c hc hp => ?_
 refine zbf (τ' := frL [(0, .d (iD n)), (1, .d (.fp [iD cm] 0))]) (by repeat (first | exact zak _ | refine zah ?_ (by first | rfl | (simp [r_f]; done) | simp [r_f, *]))) ?_
 refine zac hp zaj hc rfl fun K1 hK1 => ?_
 simp -dsimp -implicitDefEqProofs (disch := first | assumption | omega | (simp only [r_z] <;> omega) | decide) only [r_r, ↓reduceIte, Nat.reduceEqDiff, Nat.reduceAdd, D.fix, Int.reduceToNat, Nat.reduceMul, Nat.reduceBNe, Nat.reduceBEq]
 refine hK1 _ _ ?_
 refine zac hp zaj hc rfl fun K2 hK2 => ?_
 rcases tf (decide (n < 0)) with q | q
 ·simp -dsimp -implicitDefEqProofs (disch := first | assumption | omega | (simp only [r_z] <;> omega) | decide) only [r_r, ↓reduceIte, Nat.reduceEqDiff, Nat.reduceAdd, D.fix, Int.reduceToNat, Nat.reduceMul, Nat.reduceBNe, Nat.reduceBEq, q, zhl]
  refine hK2 _ _ ?_
  refine za4 ?_
  show closeA _ _ = _
  simp (disch := first | assumption | omega | (simp only [r_z] <;> omega) | decide) only [r_c, Nat.reduceAdd, D.fix, ↓reduceIte, Nat.reduceEqDiff]
  simp [znp, q]
 ·simp -dsimp -implicitDefEqProofs (disch := first | assumption | omega | (simp only [r_z] <;> omega) | decide) only [r_r, ↓reduceIte, Nat.reduceEqDiff, Nat.reduceAdd, D.fix, Int.reduceToNat, Nat.reduceMul, Nat.reduceBNe, Nat.reduceBEq, q, zhl]
  refine hK2 _ _ ?_
  refine za4 ?_
  show closeA _ _ = _
  simp (disch := first | assumption | omega | (simp only [r_z] <;> omega) | decide) only [r_c, Nat.reduceAdd, D.fix, ↓reduceIte, Nat.reduceEqDiff]
  simp [znp, q]
def pC (p : Int × Int) : List D := [iD p.1, iD p.2]
def shI (l : List (Int × Int)) : D := .fs (l.flatMap pC) l.length
theorem p_w (p : Int × Int) : (pC p).length = 2 := rfl
theorem zlq {l : List (Int × Int)} {k : Nat} (h : k < l.length) : zcm (l.flatMap pC) (k * 2) 2 = some (pC (nth l k)) := zhf p_w h
theorem zbi {l : List (Int × Int)} : (l.flatMap pC).length = l.length * 2 := zeu p_w l
theorem zmo {α : Type} [Inhabited α] {f : α → Bool} {l : List α} {k : Nat} (h : k < l.length) : (l.take (k + 1)).any f = ((l.take k).any f || f (nth l k)) := by rw [zdy h]; simp
theorem zmp {α : Type} [Inhabited α] {f : α → Bool} {l : List α} {k : Nat} (h : k < l.length) (hf : f (nth l k) = true) : l.any f = true := List.any_eq_true.2 ⟨_, zb3 h, hf⟩
theorem jk9 (l : List (Int × Int)) (hl : l.length ≤ maxLen) : RCalls Try.prog 70 [shI l, .val (.func (.func 62) #[] #[])] (fun r => ∃ z : Int, r = .d (iD z) ∧ (0 ≤ z ↔ l.any jjx = true)) := by
 unfold maxLen at hl
 refine zd4 (fn := Try.f70) (by kernel_rfl) Try.func70 rfl (Nat.le_of_ble_eq_true rfl) fun c hc hp => ?_
 refine zbf (τ' := frL [(0, .d (shI l)), (1, .d (.val (.func (.func 62) #[] #[])))]) (by repeat (first | exact zak _ | refine zah ?_ (by first | rfl | (simp [r_f, zbi]; done) | simp [r_f, zbi, *]))) ?_
 refine zac hp zaj hc rfl fun K1 hK1 => ?_
 simp -dsimp -implicitDefEqProofs (disch := first | assumption | omega | (simp only [r_z, zbi] <;> omega) | decide) only [r_r, ↓reduceIte, Nat.reduceEqDiff, Nat.reduceAdd, D.fix, Int.reduceToNat, Nat.reduceMul, Nat.reduceBNe, Nat.reduceBEq, shI, zlq, p_w, pC]
 refine hK1 _ _ ?_
 refine zam fun K2 hK2 => ?_
 refine zac hp zaj hc rfl fun K3 hK3 => ?_
 simp -dsimp -implicitDefEqProofs (disch := first | assumption | omega | (simp only [r_z, zbi] <;> omega) | decide) only [r_r, ↓reduceIte, Nat.reduceEqDiff, Nat.reduceAdd, D.fix, Int.reduceToNat, Nat.reduceMul, Nat.reduceBNe, Nat.reduceBEq, shI, zlq, p_w, pC, zhl]
 refine hK3 _ _ ?_
 refine zaz ?_
 refine za7 hp (fun τ' H' mm => ∃ k, (k ≤ l.length ∧ (l.take k).any jjx = false) ∧ mm = l.length - k ∧ H' = [] ∧ τ' = frL [(0, .d (shI l)), (1, .d (.val (.func (.func 62) #[] #[]))), (7, .d (iD l.length)), (8, .d (iD k))]) (l.length) ?_ ⟨0, ⟨Nat.zero_le _, rfl⟩, rfl, rfl, rfl⟩ ?_
 ·refine Rt.end (by repeat (first | exact zak _ | refine zah ?_ (by first | rfl | (simp [r_f, zbi]; done) | simp [r_f, zbi, *]))) ?_
  first | rfl | (simp only [r_g, Nat.reduceAdd, ↓reduceIte, Nat.reduceEqDiff, shI, zlq, p_w, pC]; first | done | rfl)
 rintro τ' H' mm ⟨k, ⟨hk, hno⟩, rfl, rfl, rfl⟩
 refine zac hp zaj hc rfl fun K4 hK4 => ?_
 simp -dsimp -implicitDefEqProofs (disch := first | assumption | omega | (simp only [r_z, zbi] <;> omega) | decide) only [r_r, ↓reduceIte, Nat.reduceEqDiff, Nat.reduceAdd, D.fix, Int.reduceToNat, Nat.reduceMul, Nat.reduceBNe, Nat.reduceBEq, shI, zlq, p_w, pC, zhl]
 refine hK4 _ _ ?_
 refine zam fun K5 hK5 => ?_
 refine zaq rfl (fun ht => ?_) (fun ht => ?_)
 ·have hlt : k < l.length := by simp at ht; omega
  refine zay (hK5 _ _ ?_)
  refine zam fun K6 hK6 => ?_
  refine zaz ?_
  refine zac hp zaj hc rfl fun K7 hK7 => ?_
  simp -dsimp -implicitDefEqProofs (disch := first | assumption | omega | (simp only [r_z, zbi] <;> omega) | decide) only [r_r, ↓reduceIte, Nat.reduceEqDiff, Nat.reduceAdd, D.fix, Int.reduceToNat, Nat.reduceMul, Nat.reduceBNe, Nat.reduceBEq, shI, zlq, p_w, pC]
  refine hK7 _ _ ?_
  refine zac hp zaj hc rfl fun K8 hK8 => ?_
  simp -dsimp -implicitDefEqProofs (disch := first | assumption | omega | (simp only [r_z, zbi] <;> omega) | decide) only [r_r, ↓reduceIte, Nat.reduceEqDiff, Nat.reduceAdd, D.fix, Int.reduceToNat, Nat.reduceMul, Nat.reduceBNe, Nat.reduceBEq, shI, zlq, p_w, pC, zhl]
  refine zb4 (js6 (nth l k)) rfl ?_
  simp -dsimp -implicitDefEqProofs (disch := first | assumption | omega | (simp only [r_z, zbi] <;> omega) | decide) only [r_r, ↓reduceIte, Nat.reduceEqDiff, Nat.reduceAdd, D.fix, Int.reduceToNat, Nat.reduceMul, Nat.reduceBNe, Nat.reduceBEq, shI, zlq, p_w, pC, zhl]
  refine hK8 _ _ ?_
  refine zaq rfl (fun ht => ?_) (fun ht => ?_)
  ·have hy := ht
   refine zac hp zaj hc rfl fun K9 hK9 => ?_
   simp -dsimp -implicitDefEqProofs (disch := first | assumption | omega | (simp only [r_z, zbi] <;> omega) | decide) only [r_r, ↓reduceIte, Nat.reduceEqDiff, Nat.reduceAdd, D.fix, Int.reduceToNat, Nat.reduceMul, Nat.reduceBNe, Nat.reduceBEq, shI, zlq, p_w, pC]
   refine hK9 _ _ ?_
   refine za4 ?_
   show ∃ r, closeA _ _ = some r ∧ _
   simp (disch := first | assumption | omega | (simp only [r_z, zbi] <;> omega) | decide) only [r_c, Nat.reduceAdd, D.fix, ↓reduceIte, Nat.reduceEqDiff, shI, zlq, p_w, pC]
   exact ⟨_, rfl, _, rfl, fun _ => zmp hlt hy, fun _ => by omega⟩
  ·refine zay (hK6 _ _ ?_)
   refine zbo hp zaj hc rfl fun K10 hK10 => ?_
   simp -dsimp -implicitDefEqProofs (disch := first | assumption | omega | (simp only [r_z, zbi] <;> omega) | decide) only [r_r, ↓reduceIte, Nat.reduceEqDiff, Nat.reduceAdd, D.fix, Int.reduceToNat, Nat.reduceMul, Nat.reduceBNe, Nat.reduceBEq, shI, zlq, p_w, pC, zhl]
   refine hK10 _ _ ⟨_, _, _, ?_, ⟨k + 1, ⟨by omega, by rw [zmo hlt, hno, ht]; rfl⟩, rfl, rfl, rfl⟩, ?_⟩
   ·first | omega | (simp only [List.length_cons]; omega) | (dsimp only; omega)
   ·refine Rt.end (by repeat (first | exact zak _ | refine zah ?_ (by first | rfl | (simp [r_f, zbi]; done) | simp [r_f, zbi, *]))) ?_
    first | rfl | (simp only [r_g, Nat.reduceAdd, ↓reduceIte, Nat.reduceEqDiff, shI, zlq, p_w, pC]; first | done | rfl)
 ·have hge : k = l.length := by simp at ht; omega
  rw [hge, List.take_length] at hno
  refine zbj (hK2 _ _ ?_)
  refine zac hp zaj hc rfl fun K11 hK11 => ?_
  simp -dsimp -implicitDefEqProofs (disch := first | assumption | omega | (simp only [r_z, zbi] <;> omega) | decide) only [r_r, ↓reduceIte, Nat.reduceEqDiff, Nat.reduceAdd, D.fix, Int.reduceToNat, Nat.reduceMul, Nat.reduceBNe, Nat.reduceBEq, shI, zlq, p_w, pC]
  refine hK11 _ _ ?_
  refine za4 ?_
  show ∃ r, closeA _ _ = some r ∧ _
  simp (disch := first | assumption | omega | (simp only [r_z, zbi] <;> omega) | decide) only [r_c, Nat.reduceAdd, D.fix, ↓reduceIte, Nat.reduceEqDiff, shI, zlq, p_w, pC]
  exact ⟨_, rfl, _, rfl, fun h => by omega, fun h => by rw [hno] at h; cases h⟩
theorem zzc (l : List (Int × Int)) (hl : l.length ≤ maxLen) : za9 Try.prog 64 [shI l, .val (.func (.func 62) #[] #[])] (.d (oD (l.any jjx))) := by
 refine zbc (fn := Try.f64) (by kernel_rfl) Try.func64 rfl (Nat.le_of_ble_eq_true rfl) fun c hc hp => ?_
 refine zbf (τ' := frL [(0, .d (shI l)), (1, .d (.val (.func (.func 62) #[] #[])))]) (by repeat (first | exact zak _ | refine zah ?_ (by first | rfl | (simp [r_f]; done) | simp [r_f, *]))) ?_
 refine zac hp zaj hc rfl fun K1 hK1 => ?_
 simp -dsimp -implicitDefEqProofs (disch := first | assumption | omega | (simp only [r_z] <;> omega) | decide) only [r_r, ↓reduceIte, Nat.reduceEqDiff, Nat.reduceAdd, D.fix, Int.reduceToNat, Nat.reduceMul, Nat.reduceBNe, Nat.reduceBEq]
 refine hK1 _ _ ?_
 refine zac hp zaj hc rfl fun K2 hK2 => ?_
 simp -dsimp -implicitDefEqProofs (disch := first | assumption | omega | (simp only [r_z] <;> omega) | decide) only [r_r, ↓reduceIte, Nat.reduceEqDiff, Nat.reduceAdd, D.fix, Int.reduceToNat, Nat.reduceMul, Nat.reduceBNe, Nat.reduceBEq, zhl]
 refine zop (jk9 l hl) rfl fun r hr => ?_
 obtain ⟨z, rfl, hz⟩ := hr
 simp -dsimp -implicitDefEqProofs (disch := first | assumption | omega | (simp only [r_z] <;> omega) | decide) only [r_r, ↓reduceIte, Nat.reduceEqDiff, Nat.reduceAdd, D.fix, Int.reduceToNat, Nat.reduceMul, Nat.reduceBNe, Nat.reduceBEq, zhl]
 refine hK2 _ _ ?_
 refine za4 ?_
 show closeA _ _ = _
 simp (disch := first | assumption | omega | (simp only [r_z] <;> omega) | decide) only [r_c, Nat.reduceAdd, D.fix, ↓reduceIte, Nat.reduceEqDiff]
 congr 4
 rw [Bool.eq_iff_iff, decide_eq_true_iff]
 exact hz
theorem jla (l : List Int) (cm : Int) (hl : l.length ≤ maxLen) : RCalls Try.prog 61 [intsD l, .clo (.func 63) [] [.fp [iD cm] 0]] (fun r => ∃ z : Int, r = .d (iD z) ∧ (0 ≤ z ↔ l.any (znp cm) = true)) := by
 unfold maxLen at hl
 refine zd4 (fn := Try.f61) (by kernel_rfl) Try.func61 rfl (Nat.le_of_ble_eq_true rfl) fun c hc hp => ?_
 refine zbf (τ' := frL [(0, .d (intsD l)), (1, .d (.clo (.func 63) [] [.fp [iD cm] 0]))]) (by repeat (first | exact zak _ | refine zah ?_ (by first | rfl | (simp [r_f]; done) | simp [r_f, *]))) ?_
 refine zac hp zaj hc rfl fun K1 hK1 => ?_
 simp -dsimp -implicitDefEqProofs (disch := first | assumption | omega | (simp only [r_z] <;> omega) | decide) only [r_r, ↓reduceIte, Nat.reduceEqDiff, Nat.reduceAdd, D.fix, Int.reduceToNat, Nat.reduceMul, Nat.reduceBNe, Nat.reduceBEq]
 refine hK1 _ _ ?_
 refine zam fun K2 hK2 => ?_
 refine zac hp zaj hc rfl fun K3 hK3 => ?_
 simp -dsimp -implicitDefEqProofs (disch := first | assumption | omega | (simp only [r_z] <;> omega) | decide) only [r_r, ↓reduceIte, Nat.reduceEqDiff, Nat.reduceAdd, D.fix, Int.reduceToNat, Nat.reduceMul, Nat.reduceBNe, Nat.reduceBEq, zhl]
 refine hK3 _ _ ?_
 refine zaz ?_
 refine za7 hp (fun τ' H' mm => ∃ k, (k ≤ l.length ∧ (l.take k).any (znp cm) = false) ∧ mm = l.length - k ∧ H' = [] ∧ τ' = frL [(0, .d (intsD l)), (1, .d (.clo (.func 63) [] [.fp [iD cm] 0])), (7, .d (iD l.length)), (8, .d (iD k))]) (l.length) ?_ ⟨0, ⟨Nat.zero_le _, rfl⟩, rfl, rfl, rfl⟩ ?_
 ·refine Rt.end (by repeat (first | exact zak _ | refine zah ?_ (by first | rfl | (simp [r_f]; done) | simp [r_f, *]))) ?_
  first | rfl | (simp only [r_g, Nat.reduceAdd, ↓reduceIte, Nat.reduceEqDiff]; first | done | rfl)
 rintro τ' H' mm ⟨k, ⟨hk, hno⟩, rfl, rfl, rfl⟩
 refine zac hp zaj hc rfl fun K4 hK4 => ?_
 simp -dsimp -implicitDefEqProofs (disch := first | assumption | omega | (simp only [r_z] <;> omega) | decide) only [r_r, ↓reduceIte, Nat.reduceEqDiff, Nat.reduceAdd, D.fix, Int.reduceToNat, Nat.reduceMul, Nat.reduceBNe, Nat.reduceBEq, zhl]
 refine hK4 _ _ ?_
 refine zam fun K5 hK5 => ?_
 refine zaq rfl (fun ht => ?_) (fun ht => ?_)
 ·have hlt : k < l.length := by simp at ht; omega
  refine zay (hK5 _ _ ?_)
  refine zam fun K6 hK6 => ?_
  refine zaz ?_
  refine zac hp zaj hc rfl fun K7 hK7 => ?_
  simp -dsimp -implicitDefEqProofs (disch := first | assumption | omega | (simp only [r_z] <;> omega) | decide) only [r_r, ↓reduceIte, Nat.reduceEqDiff, Nat.reduceAdd, D.fix, Int.reduceToNat, Nat.reduceMul, Nat.reduceBNe, Nat.reduceBEq]
  refine hK7 _ _ ?_
  refine zac hp zaj hc rfl fun K8 hK8 => ?_
  simp -dsimp -implicitDefEqProofs (disch := first | assumption | omega | (simp only [r_z] <;> omega) | decide) only [r_r, ↓reduceIte, Nat.reduceEqDiff, Nat.reduceAdd, D.fix, Int.reduceToNat, Nat.reduceMul, Nat.reduceBNe, Nat.reduceBEq, zhl]
  refine jbm (fi := []) (ca := [.fp [iD cm] 0]) (ds := [iD (nth l k)]) (js7 (nth l k) cm) rfl ?_
  simp -dsimp -implicitDefEqProofs (disch := first | assumption | omega | (simp only [r_z] <;> omega) | decide) only [r_r, ↓reduceIte, Nat.reduceEqDiff, Nat.reduceAdd, D.fix, Int.reduceToNat, Nat.reduceMul, Nat.reduceBNe, Nat.reduceBEq, zhl]
  refine hK8 _ _ ?_
  refine zaq rfl (fun ht => ?_) (fun ht => ?_)
  ·have hy := ht
   refine zac hp zaj hc rfl fun K9 hK9 => ?_
   simp -dsimp -implicitDefEqProofs (disch := first | assumption | omega | (simp only [r_z] <;> omega) | decide) only [r_r, ↓reduceIte, Nat.reduceEqDiff, Nat.reduceAdd, D.fix, Int.reduceToNat, Nat.reduceMul, Nat.reduceBNe, Nat.reduceBEq]
   refine hK9 _ _ ?_
   refine za4 ?_
   show ∃ r, closeA _ _ = some r ∧ _
   simp (disch := first | assumption | omega | (simp only [r_z] <;> omega) | decide) only [r_c, Nat.reduceAdd, D.fix, ↓reduceIte, Nat.reduceEqDiff]
   exact ⟨_, rfl, _, rfl, fun _ => zmp hlt hy, fun _ => by omega⟩
  ·refine zay (hK6 _ _ ?_)
   refine zbo hp zaj hc rfl fun K10 hK10 => ?_
   simp -dsimp -implicitDefEqProofs (disch := first | assumption | omega | (simp only [r_z] <;> omega) | decide) only [r_r, ↓reduceIte, Nat.reduceEqDiff, Nat.reduceAdd, D.fix, Int.reduceToNat, Nat.reduceMul, Nat.reduceBNe, Nat.reduceBEq, zhl]
   refine hK10 _ _ ⟨_, _, _, ?_, ⟨k + 1, ⟨by omega, by rw [zmo hlt, hno, ht]; rfl⟩, rfl, rfl, rfl⟩, ?_⟩
   ·first | omega | (simp only [List.length_cons]; omega) | (dsimp only; omega)
   ·refine Rt.end (by repeat (first | exact zak _ | refine zah ?_ (by first | rfl | (simp [r_f]; done) | simp [r_f, *]))) ?_
    first | rfl | (simp only [r_g, Nat.reduceAdd, ↓reduceIte, Nat.reduceEqDiff]; first | done | rfl)
 ·have hge : k = l.length := by simp at ht; omega
  rw [hge, List.take_length] at hno
  refine zbj (hK2 _ _ ?_)
  refine zac hp zaj hc rfl fun K11 hK11 => ?_
  simp -dsimp -implicitDefEqProofs (disch := first | assumption | omega | (simp only [r_z] <;> omega) | decide) only [r_r, ↓reduceIte, Nat.reduceEqDiff, Nat.reduceAdd, D.fix, Int.reduceToNat, Nat.reduceMul, Nat.reduceBNe, Nat.reduceBEq]
  refine hK11 _ _ ?_
  refine za4 ?_
  show ∃ r, closeA _ _ = some r ∧ _
  simp (disch := first | assumption | omega | (simp only [r_z] <;> omega) | decide) only [r_c, Nat.reduceAdd, D.fix, ↓reduceIte, Nat.reduceEqDiff]
  exact ⟨_, rfl, _, rfl, fun h => by omega, fun h => by rw [hno] at h; cases h⟩
theorem zzd (l : List Int) (cm : Int) (hl : l.length ≤ maxLen) : za9 Try.prog 43 [intsD l, .clo (.func 63) [] [.fp [iD cm] 0]] (.d (oD (l.any (znp cm)))) := by
 refine zbc (fn := Try.f43) (by kernel_rfl) Try.func43 rfl (Nat.le_of_ble_eq_true rfl) fun c hc hp => ?_
 refine zbf (τ' := frL [(0, .d (intsD l)), (1, .d (.clo (.func 63) [] [.fp [iD cm] 0]))]) (by repeat (first | exact zak _ | refine zah ?_ (by first | rfl | (simp [r_f]; done) | simp [r_f, *]))) ?_
 refine zac hp zaj hc rfl fun K1 hK1 => ?_
 simp -dsimp -implicitDefEqProofs (disch := first | assumption | omega | (simp only [r_z] <;> omega) | decide) only [r_r, ↓reduceIte, Nat.reduceEqDiff, Nat.reduceAdd, D.fix, Int.reduceToNat, Nat.reduceMul, Nat.reduceBNe, Nat.reduceBEq]
 refine hK1 _ _ ?_
 refine zac hp zaj hc rfl fun K2 hK2 => ?_
 simp -dsimp -implicitDefEqProofs (disch := first | assumption | omega | (simp only [r_z] <;> omega) | decide) only [r_r, ↓reduceIte, Nat.reduceEqDiff, Nat.reduceAdd, D.fix, Int.reduceToNat, Nat.reduceMul, Nat.reduceBNe, Nat.reduceBEq, zhl]
 refine zop (jla l cm hl) rfl fun r hr => ?_
 obtain ⟨z, rfl, hz⟩ := hr
 simp -dsimp -implicitDefEqProofs (disch := first | assumption | omega | (simp only [r_z] <;> omega) | decide) only [r_r, ↓reduceIte, Nat.reduceEqDiff, Nat.reduceAdd, D.fix, Int.reduceToNat, Nat.reduceMul, Nat.reduceBNe, Nat.reduceBEq, zhl]
 refine hK2 _ _ ?_
 refine za4 ?_
 show closeA _ _ = _
 simp (disch := first | assumption | omega | (simp only [r_z] <;> omega) | decide) only [r_c, Nat.reduceAdd, D.fix, ↓reduceIte, Nat.reduceEqDiff]
 congr 4
 rw [Bool.eq_iff_iff, decide_eq_true_iff]
 exact hz
end Go.Proofs.Ytignimmnnccblaa
