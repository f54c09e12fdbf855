/- Whether shapes and nodes are refused. -/
import Derived.Test.YtgfnpfchdlcoeaaQr
import Derived.Test.YtgfnpfchdlcoeaaQ
import Derived.Test.YtgfnpfchdlcoeaaCg
set_option linter.unusedVariables false
set_option linter.unusedSimpArgs false
set_option maxRecDepth 100000
set_option maxHeartbeats 4000000
namespace Go.Proofs.Ytgfnpfchdlcoeaa
open Go Go.RowKit
def zn7 (p : Int × Int) : Bool := decide (min p.1 p.2 < 0) || decide (8 < max p.1 p.2)
def zh7 (c n : Int) : Bool := decide (n < 0) || decide (c ≤ n)
theorem jrr (p : Int × Int) : zbi Try.prog 57 [.agg [iD p.1, iD p.2]] (.d (oD (zn7 p))) := by
 refine za8 (fn := Try.f57) (by kernel_rfl) Try.func57 rfl (Nat.le_of_ble_eq_true rfl) fun c hc hp => ?_
 refine zba (τ' := frL [(0, .d (.agg [iD p.1, iD p.2]))]) (zaa (zae _) rfl) ?_
 refine zab hp zad hc rfl fun K1 hK1 => ?_
 simp -dsimp -implicitDefEqProofs (disch := first | omega | decide) only [q_r, zau, zb0, ↓reduceIte, D.one, Value.oneCell', iD, zau]
 refine hK1 _ _ ?_
 refine zab hp zad hc rfl fun K2 hK2 => ?_
 rcases tf (decide (min p.1 p.2 < 0)) with q | q
 ·simp -dsimp -implicitDefEqProofs (disch := first | omega | decide) only [q_r, zam, ixO, zai, zar, ↓reduceIte, Nat.reduceEqDiff, Int.toNat_zero, Int.reduceToNat, q, zlo, zci, zcn]
  refine hK2 _ _ ?_
  refine zao ?_
  show zaj _ _ = _
  simp (disch := first | omega | decide) only [zaj, zct, za1, Nat.zero_add, D.fix, zat, ↓reduceIte, Option.map_some, List.length_cons, List.length_nil, oD]
  simp [zn7, q]
 ·simp -dsimp -implicitDefEqProofs (disch := first | omega | decide) only [q_r, zam, ixO, zai, zar, ↓reduceIte, Nat.reduceEqDiff, Int.toNat_zero, Int.reduceToNat, q, zlo, zci, zcn]
  refine hK2 _ _ ?_
  refine zao ?_
  show zaj _ _ = _
  simp (disch := first | omega | decide) only [zaj, zct, za1, Nat.zero_add, D.fix, zat, ↓reduceIte, Option.map_some, List.length_cons, List.length_nil, oD]
  simp [zn7, q]
theorem jrs (n cm : Int) : zbi Try.prog 58 [iD n, .fp [iD cm] 0] (.d (oD (zh7 cm n))) := by
 refine za8 (fn := Try.f58) (by kernel_rfl) Try.func58 rfl (Nat.le_of_ble_eq_true rfl) fun c hc hp => ?_
 refine zba (τ' := frL [(0, .d (iD n)), (1, .d (.fp [iD cm] 0))]) (zaa (zaa (zae _) rfl) rfl) ?_
 refine zab hp zad hc rfl fun K1 hK1 => ?_
 simp -dsimp -implicitDefEqProofs (disch := first | omega | decide) only [q_r, iD]
 refine hK1 _ _ ?_
 refine zab hp zad hc rfl fun K2 hK2 => ?_
 rcases tf (decide (n < 0)) with q | q
 ·simp -dsimp -implicitDefEqProofs (disch := first | omega | decide) only [q_r, ↓reduceIte, Nat.reduceEqDiff, q]
  refine hK2 _ _ ?_
  refine zao ?_
  show zaj _ _ = _
  simp (disch := first | omega | decide) only [zaj, zct, za1, D.fix, zat, ↓reduceIte, Option.map_some, List.length_nil, oD]
  simp [zh7, q]
 ·simp -dsimp -implicitDefEqProofs (disch := first | omega | decide) only [q_r, zam, ↓reduceIte, Nat.reduceEqDiff, q, zci, zcn]
  refine hK2 _ _ ?_
  refine zao ?_
  show zaj _ _ = _
  simp (disch := first | omega | decide) only [zaj, zct, za1, D.fix, zat, ↓reduceIte, Option.map_some, List.length_nil, oD]
  simp [zh7, q]
def pC (p : Int × Int) : List D := [iD p.1, iD p.2]
def shI (l : List (Int × Int)) : D := .fs (l.flatMap pC) l.length
theorem p_w (p : Int × Int) : (pC p).length = 2 := rfl
theorem jrt {l : List (Int × Int)} {k : Nat} (h : k < l.length) : zc9 (l.flatMap pC) (k * 2) 2 = some (pC (nth l k)) := zg9 p_w h
theorem zss {l : List (Int × Int)} : (l.flatMap pC).length = l.length * 2 := zez p_w l
theorem zmg {α : Type} [Inhabited α] {f : α → Bool} {l : List α} {k : Nat} (h : k < l.length) : (l.take (k + 1)).any f = ((l.take k).any f || f (nth l k)) := by rw [zel h]; simp
theorem zgo {α : Type} [Inhabited α] {f : α → Bool} {l : List α} {k : Nat} (h : k < l.length) (hf : f (nth l k) = true) : l.any f = true := List.any_eq_true.2 ⟨_, zcf h, hf⟩
theorem jln (l : List (Int × Int)) (hl : l.length ≤ maxLen) : RCalls Try.prog 78 [shI l, .val (.func (.func 57) #[] #[])] (fun r => ∃ z : Int, r = .d (iD z) ∧ (0 ≤ z ↔ l.any zn7 = true)) := by
 unfold maxLen at hl
 refine zgr (fn := Try.f78) (by kernel_rfl) Try.func78 rfl (Nat.le_of_ble_eq_true rfl) fun c hc hp => ?_
 refine zba (τ' := frL [(0, .d (shI l)), (1, .d (.val (.func (.func 57) #[] #[])))]) (zaa (zaa (zae _) rfl) rfl) ?_
 refine zab hp zad hc rfl fun K1 hK1 => ?_
 simp -dsimp -implicitDefEqProofs (disch := first | omega | decide) only [q_r, shI]
 refine hK1 _ _ ?_
 refine zaf fun K2 hK2 => ?_
 refine zab hp zad hc rfl fun K3 hK3 => ?_
 simp -dsimp -implicitDefEqProofs (disch := first | omega | decide) only [q_r, zc1, zar, ↓reduceIte, Nat.reduceEqDiff, zgd]
 refine hK3 _ _ ?_
 refine zaq ?_
 refine za4 hp (fun τ' H' mm => ∃ k, (k ≤ l.length ∧ (l.take k).any zn7 = false) ∧ mm = l.length - k ∧ H' = [] ∧ τ' = frL [(0, .d (shI l)), (1, .d (.val (.func (.func 57) #[] #[]))), (7, .d (iD l.length)), (8, .d (iD k))]) (l.length) ?_ ⟨0, ⟨Nat.zero_le _, rfl⟩, rfl, rfl, rfl⟩ ?_
 ·refine Rt.end (zaa (zaa (zaa (zaa (zae _) rfl) rfl) rfl) rfl) ?_
  rfl
 rintro τ' H' mm ⟨k, ⟨hk, hno⟩, rfl, rfl, rfl⟩
 refine zab hp zad hc rfl fun K4 hK4 => ?_
 simp -dsimp -implicitDefEqProofs (disch := first | omega | decide) only [q_r, ↓reduceIte, Nat.reduceEqDiff, iD, shI]
 refine hK4 _ _ ?_
 refine zaf fun K5 hK5 => ?_
 refine zag rfl (fun ht => ?_) (fun ht => ?_)
 ·have hlt : k < l.length := by simp at ht; omega
  refine zan (hK5 _ _ ?_)
  refine zaf fun K6 hK6 => ?_
  refine zaq ?_
  refine zab hp zad hc rfl fun K7 hK7 => ?_
  simp -dsimp -implicitDefEqProofs (disch := first | omega | decide) only [q_r, ↓reduceIte, Nat.reduceEqDiff]
  refine hK7 _ _ ?_
  refine zab hp zad hc rfl fun K8 hK8 => ?_
  simp -dsimp -implicitDefEqProofs (disch := first | omega | decide) only [q_r, zam, ixO, zai, ↓reduceIte, Int.toNat_natCast, Nat.reduceEqDiff, iD, jrt, pC, zgd, joe, jof]
  refine zb9 (jrr (nth l k)) rfl ?_
  simp -dsimp -implicitDefEqProofs (disch := first | omega | decide) only [q_r, oD]
  refine hK8 _ _ ?_
  refine zag rfl (fun ht => ?_) (fun ht => ?_)
  ·have hy := ht
   refine zab hp zad hc rfl fun K9 hK9 => ?_
   simp -dsimp -implicitDefEqProofs (disch := first | omega | decide) only [q_r, ↓reduceIte, Nat.reduceEqDiff]
   refine hK9 _ _ ?_
   refine zao ?_
   show ∃ r, zaj _ _ = some r ∧ _
   simp (disch := first | omega | decide) only [zaj, zct, za1, D.fix, zat, ↓reduceIte, Option.map_some, List.length_nil, iD]
   exact ⟨_, rfl, _, rfl, fun _ => zgo hlt hy, fun _ => by omega⟩
  ·refine zan (hK6 _ _ ?_)
   refine zbs hp zad hc rfl fun K10 hK10 => ?_
   simp -dsimp -implicitDefEqProofs (disch := first | omega | decide) only [q_r, ↓reduceIte, Nat.reduceEqDiff]
   refine hK10 _ _ ⟨_, _, _, ?_, ⟨k + 1, ⟨by omega, by rw [zmg hlt, hno, ht]; rfl⟩, rfl, rfl, rfl⟩, ?_⟩
   ·first | omega | (simp only [List.length_cons]; omega) | (dsimp only; omega)
   ·refine Rt.end (zaa (zaa (zaa (zaa (zae _) rfl) rfl) rfl) rfl) ?_
    rfl
 ·have hge : k = l.length := by simp at ht; omega
  rw [hge, List.take_length] at hno
  refine zbd (hK2 _ _ ?_)
  refine zab hp zad hc rfl fun K11 hK11 => ?_
  simp -dsimp -implicitDefEqProofs (disch := first | omega | decide) only [q_r]
  refine hK11 _ _ ?_
  refine zao ?_
  show ∃ r, zaj _ _ = some r ∧ _
  simp (disch := first | omega | decide) only [zaj, zct, za1, D.fix, zat, ↓reduceIte, Option.map_some, List.length_nil, iD]
  exact ⟨_, rfl, _, rfl, fun h => by omega, fun h => by rw [hno] at h; cases h⟩
theorem zst (l : List (Int × Int)) (hl : l.length ≤ maxLen) : zbi Try.prog 59 [shI l, .val (.func (.func 57) #[] #[])] (.d (oD (l.any zn7))) := by
 refine za8 (fn := Try.f59) (by kernel_rfl) Try.func59 rfl (Nat.le_of_ble_eq_true rfl) fun c hc hp => ?_
 refine zba (τ' := frL [(0, .d (shI l)), (1, .d (.val (.func (.func 57) #[] #[])))]) (zaa (zaa (zae _) rfl) rfl) ?_
 refine zab hp zad hc rfl fun K1 hK1 => ?_
 simp -dsimp -implicitDefEqProofs (disch := first | omega | decide) only [q_r]
 refine hK1 _ _ ?_
 refine zab hp zad hc rfl fun K2 hK2 => ?_
 simp -dsimp -implicitDefEqProofs (disch := first | omega | decide) only [q_r, ↓reduceIte, Nat.reduceEqDiff]
 refine zvg (jln l hl) rfl fun r hr => ?_
 obtain ⟨z, rfl, hz⟩ := hr
 simp -dsimp -implicitDefEqProofs (disch := first | omega | decide) only [q_r, ↓reduceIte, iD]
 refine hK2 _ _ ?_
 refine zao ?_
 show zaj _ _ = _
 simp (disch := first | omega | decide) only [zaj, zct, za1, D.fix, zat, ↓reduceIte, Option.map_some, List.length_nil, oD]
 congr 4
 rw [Bool.eq_iff_iff, decide_eq_true_iff]
 exact hz
theorem jlo (l : List Int) (cm : Int) (hl : l.length ≤ maxLen) : RCalls Try.prog 66 [zay l, .clo (.func 58) [] [.fp [iD cm] 0]] (fun r => ∃ z : Int, r = .d (iD z) ∧ (0 ≤ z ↔ l.any (zh7 cm) = true)) := by
 unfold maxLen at hl
 refine zgr (fn := Try.f66) (by kernel_rfl) Try.func66 rfl (Nat.le_of_ble_eq_true rfl) fun c hc hp => ?_
 refine zba (τ' := frL [(0, .d (zay l)), (1, .d (.clo (.func 58) [] [.fp [iD cm] 0]))]) (zaa (zaa (zae _) rfl) rfl) ?_
 refine zab hp zad hc rfl fun K1 hK1 => ?_
 simp -dsimp -implicitDefEqProofs (disch := first | omega | decide) only [q_r, iD, zay]
 refine hK1 _ _ ?_
 refine zaf fun K2 hK2 => ?_
 refine zab hp zad hc rfl fun K3 hK3 => ?_
 simp -dsimp -implicitDefEqProofs (disch := first | omega | decide) only [q_r, zc1, zar, ↓reduceIte, Nat.reduceEqDiff, zc3]
 refine hK3 _ _ ?_
 refine zaq ?_
 refine za4 hp (fun τ' H' mm => ∃ k, (k ≤ l.length ∧ (l.take k).any (zh7 cm) = false) ∧ mm = l.length - k ∧ H' = [] ∧ τ' = frL [(0, .d (zay l)), (1, .d (.clo (.func 58) [] [.fp [iD cm] 0])), (7, .d (iD l.length)), (8, .d (iD k))]) (l.length) ?_ ⟨0, ⟨Nat.zero_le _, rfl⟩, rfl, rfl, rfl⟩ ?_
 ·refine Rt.end (zaa (zaa (zaa (zaa (zae _) rfl) rfl) rfl) rfl) ?_
  rfl
 rintro τ' H' mm ⟨k, ⟨hk, hno⟩, rfl, rfl, rfl⟩
 refine zab hp zad hc rfl fun K4 hK4 => ?_
 simp -dsimp -implicitDefEqProofs (disch := first | omega | decide) only [q_r, ↓reduceIte, Nat.reduceEqDiff, iD, zay]
 refine hK4 _ _ ?_
 refine zaf fun K5 hK5 => ?_
 refine zag rfl (fun ht => ?_) (fun ht => ?_)
 ·have hlt : k < l.length := by simp at ht; omega
  refine zan (hK5 _ _ ?_)
  refine zaf fun K6 hK6 => ?_
  refine zaq ?_
  refine zab hp zad hc rfl fun K7 hK7 => ?_
  simp -dsimp -implicitDefEqProofs (disch := first | omega | decide) only [q_r, ↓reduceIte, Nat.reduceEqDiff]
  refine hK7 _ _ ?_
  refine zab hp zad hc rfl fun K8 hK8 => ?_
  simp -dsimp -implicitDefEqProofs (disch := first | omega | decide) only [q_r, zam, ixO, zai, ↓reduceIte, Int.toNat_natCast, Nat.reduceEqDiff, iD, zc3, zci, zcn]
  refine jds (fi := []) (ca := [.fp [iD cm] 0]) (ds := [iD (nth l k)]) (jrs (nth l k) cm) rfl ?_
  simp -dsimp -implicitDefEqProofs (disch := first | omega | decide) only [q_r, oD]
  refine hK8 _ _ ?_
  refine zag rfl (fun ht => ?_) (fun ht => ?_)
  ·have hy := ht
   refine zab hp zad hc rfl fun K9 hK9 => ?_
   simp -dsimp -implicitDefEqProofs (disch := first | omega | decide) only [q_r, ↓reduceIte, Nat.reduceEqDiff]
   refine hK9 _ _ ?_
   refine zao ?_
   show ∃ r, zaj _ _ = some r ∧ _
   simp (disch := first | omega | decide) only [zaj, zct, za1, D.fix, zat, ↓reduceIte, Option.map_some, List.length_nil, iD]
   exact ⟨_, rfl, _, rfl, fun _ => zgo hlt hy, fun _ => by omega⟩
  ·refine zan (hK6 _ _ ?_)
   refine zbs hp zad hc rfl fun K10 hK10 => ?_
   simp -dsimp -implicitDefEqProofs (disch := first | omega | decide) only [q_r, ↓reduceIte, Nat.reduceEqDiff]
   refine hK10 _ _ ⟨_, _, _, ?_, ⟨k + 1, ⟨by omega, by rw [zmg hlt, hno, ht]; rfl⟩, rfl, rfl, rfl⟩, ?_⟩
   ·first | omega | (simp only [List.length_cons]; omega) | (dsimp only; omega)
   ·refine Rt.end (zaa (zaa (zaa (zaa (zae _) rfl) rfl) rfl) rfl) ?_
    rfl
 ·have hge : k = l.length := by simp at ht; omega
  rw [hge, List.take_length] at hno
  refine zbd (hK2 _ _ ?_)
  refine zab hp zad hc rfl fun K11 hK11 => ?_
  simp -dsimp -implicitDefEqProofs (disch := first | omega | decide) only [q_r]
  refine hK11 _ _ ?_
  refine zao ?_
  show ∃ r, zaj _ _ = some r ∧ _
  simp (disch := first | omega | decide) only [zaj, zct, za1, D.fix, zat, ↓reduceIte, Option.map_some, List.length_nil, iD]
  exact ⟨_, rfl, _, rfl, fun h => by omega, fun h => by rw [hno] at h; cases h⟩
theorem zsu (l : List Int) (cm : Int) (hl : l.length ≤ maxLen) : zbi Try.prog 44 [zay l, .clo (.func 58) [] [.fp [iD cm] 0]] (.d (oD (l.any (zh7 cm)))) := by
 refine za8 (fn := Try.f44) (by kernel_rfl) Try.func44 rfl (Nat.le_of_ble_eq_true rfl) fun c hc hp => ?_
 refine zba (τ' := frL [(0, .d (zay l)), (1, .d (.clo (.func 58) [] [.fp [iD cm] 0]))]) (zaa (zaa (zae _) rfl) rfl) ?_
 refine zab hp zad hc rfl fun K1 hK1 => ?_
 simp -dsimp -implicitDefEqProofs (disch := first | omega | decide) only [q_r, iD, zay]
 refine hK1 _ _ ?_
 refine zab hp zad hc rfl fun K2 hK2 => ?_
 simp -dsimp -implicitDefEqProofs (disch := first | omega | decide) only [q_r, ↓reduceIte, Nat.reduceEqDiff]
 refine zvg (jlo l cm hl) rfl fun r hr => ?_
 obtain ⟨z, rfl, hz⟩ := hr
 simp -dsimp -implicitDefEqProofs (disch := first | omega | decide) only [q_r, ↓reduceIte, iD]
 refine hK2 _ _ ?_
 refine zao ?_
 show zaj _ _ = _
 simp (disch := first | omega | decide) only [zaj, zct, za1, D.fix, zat, ↓reduceIte, Option.map_some, List.length_nil, oD]
 congr 4
 rw [Bool.eq_iff_iff, decide_eq_true_iff]
 exact hz
end Go.Proofs.Ytgfnpfchdlcoeaa
