/- Lists of numbers; nets: how they lie in memory; the small functions of the simulation. -/
import Derived.Test.YtignimmnnccblaaQr
import Derived.Test.YtignimmnnccblaaTy
import Derived.Test.YtignimmnnccblaaBa
set_option linter.unusedVariables false
set_option linter.unusedSimpArgs false
set_option maxRecDepth 100000
set_option maxHeartbeats 4000000
namespace Go.Proofs.Ytignimmnnccblaa
open Go Go.RowKit
theorem zqy : ((((type_of% @zdf) ∧ (type_of% @zdg)) ∧ ((type_of% @zdh) ∧ ((type_of% @zdq) ∧ (type_of% @ze9)))) ∧ (((type_of% @zfa) ∧ ((type_of% @zfc) ∧ (type_of% @zn1))) ∧ ((type_of% @zn2) ∧ ((type_of% @zn3) ∧ (type_of% @zn4))))) := ⟨⟨⟨@zdf, @zdg⟩, ⟨@zdh, ⟨@zdq, @ze9⟩⟩⟩, ⟨⟨@zfa, ⟨@zfc, @zn1⟩⟩, ⟨@zn2, ⟨@zn3, @zn4⟩⟩⟩⟩
theorem jp4 (a b : List Int) (ha : a.length ≤ maxLen) : zbf Try.prog 29 [intsD a, intsD b] (.d (oD (decide (a = b)))) := by
 refine zbi (fn := Try.f29) (by kernel_rfl) Try.func29 rfl (Nat.le_of_ble_eq_true rfl) fun c hc hp => ?_
 refine zbk (τ' := frL [(0, .d (intsD a)), (1, .d (intsD b))]) (by repeat (first | exact zal _ | refine zai ?_ (by first | rfl | (simp [r_f]; done) | simp [r_f, *]))) ?_
 unfold maxLen at ha
 refine zac hp zaj hc rfl fun K1 hK1 => ?_
 simp -dsimp -implicitDefEqProofs (disch := first | assumption | omega | (simp only [r_z] <;> omega) | decide) only [r_r, ↓reduceIte, Nat.reduceEqDiff, Nat.reduceAdd, D.fix, Int.reduceToNat, Nat.reduceMul, Nat.reduceBNe, Nat.reduceBEq]
 refine hK1 _ _ ?_
 refine zan fun K2 hK2 => ?_
 refine zac hp zaj hc rfl fun K3 hK3 => ?_
 simp -dsimp -implicitDefEqProofs (disch := first | assumption | omega | (simp only [r_z] <;> omega) | decide) only [r_r, ↓reduceIte, Nat.reduceEqDiff, Nat.reduceAdd, D.fix, Int.reduceToNat, Nat.reduceMul, Nat.reduceBNe, Nat.reduceBEq, zqy]
 refine hK3 _ _ ?_
 refine zap rfl (fun ht => ?_) (fun ht => ?_)
 ·have hne : a ≠ b := fun e => by subst e; simp at ht
  refine zac hp zaj hc rfl fun K4 hK4 => ?_
  simp -dsimp -implicitDefEqProofs (disch := first | assumption | omega | (simp only [r_z] <;> omega) | decide) only [r_r, ↓reduceIte, Nat.reduceEqDiff, Nat.reduceAdd, D.fix, Int.reduceToNat, Nat.reduceMul, Nat.reduceBNe, Nat.reduceBEq]
  refine hK4 _ _ ?_
  refine za6 ?_
  show closeA _ _ = _
  simp (disch := first | assumption | omega | (simp only [r_z] <;> omega) | decide) only [r_c, Nat.reduceAdd, D.fix, ↓reduceIte, Nat.reduceEqDiff]
  simp [hne]
 ·have hl : a.length = b.length := by simp at ht; omega
  refine za0 (hK2 _ _ ?_)
  refine zan fun K5 hK5 => ?_
  refine zac hp zaj hc rfl fun K6 hK6 => ?_
  simp -dsimp -implicitDefEqProofs (disch := first | assumption | omega | (simp only [r_z] <;> omega) | decide) only [r_r, ↓reduceIte, Nat.reduceEqDiff, Nat.reduceAdd, D.fix, Int.reduceToNat, Nat.reduceMul, Nat.reduceBNe, Nat.reduceBEq]
  refine hK6 _ _ ?_
  refine za1 ?_
  refine zbd hp (fun τ' H' mm => ∃ k, (k ≤ a.length ∧ a.take k = b.take k) ∧ mm = a.length - k ∧ H' = [] ∧ τ' = frL [(5, .d (iD k)), (0, .d (intsD a)), (1, .d (intsD b))]) (a.length) ?_ ⟨0, ⟨Nat.zero_le _, rfl⟩, rfl, rfl, rfl⟩ ?_
  ·refine Rt.end (by repeat (first | exact zal _ | refine zai ?_ (by first | rfl | (simp [r_f]; done) | simp [r_f, *]))) ?_
   first | rfl | (simp only [r_g, Nat.reduceAdd, ↓reduceIte, Nat.reduceEqDiff]; first | done | rfl)
  rintro τ' H' mm ⟨k, ⟨hk, htake⟩, rfl, rfl, rfl⟩
  refine zan fun K7 hK7 => ?_
  refine zac hp zaj hc rfl fun K8 hK8 => ?_
  simp -dsimp -implicitDefEqProofs (disch := first | assumption | omega | (simp only [r_z] <;> omega) | decide) only [r_r, ↓reduceIte, Nat.reduceEqDiff, Nat.reduceAdd, D.fix, Int.reduceToNat, Nat.reduceMul, Nat.reduceBNe, Nat.reduceBEq, zqy]
  refine hK8 _ _ ?_
  refine zap rfl (fun ht => ?_) (fun ht => ?_)
  ·have hlt : k < a.length := by simp at ht; omega
   have hlt2 : k < b.length := by omega
   refine za0 (hK7 _ _ ?_)
   refine zan fun K9 hK9 => ?_
   refine za1 ?_
   refine zbr zaj hc mixed rfl (q := 0) (by kernel_rfl) (by kernel_rfl) fun K10 hK10 => ?_
   simp -dsimp -implicitDefEqProofs (disch := first | assumption | omega | (simp only [r_z] <;> omega) | decide) only [r_r, ↓reduceIte, Nat.reduceEqDiff, Nat.reduceAdd, D.fix, Int.reduceToNat, Nat.reduceMul, Nat.reduceBNe, Nat.reduceBEq, zqy]
   refine hK10 _ _ ?_
   refine zap rfl (fun ht => ?_) (fun ht => ?_)
   ·have hne : a ≠ b := fun e => by subst e; simp at ht
    refine zac hp zaj hc rfl fun K11 hK11 => ?_
    simp -dsimp -implicitDefEqProofs (disch := first | assumption | omega | (simp only [r_z] <;> omega) | decide) only [r_r, ↓reduceIte, Nat.reduceEqDiff, Nat.reduceAdd, D.fix, Int.reduceToNat, Nat.reduceMul, Nat.reduceBNe, Nat.reduceBEq]
    refine hK11 _ _ ?_
    refine za6 ?_
    show closeA _ _ = _
    simp (disch := first | assumption | omega | (simp only [r_z] <;> omega) | decide) only [r_c, Nat.reduceAdd, D.fix, ↓reduceIte, Nat.reduceEqDiff]
    simp [hne]
   ·refine za0 (hK9 _ _ ?_)
    refine zbt hp zaj hc rfl fun K12 hK12 => ?_
    simp -dsimp -implicitDefEqProofs (disch := first | assumption | omega | (simp only [r_z] <;> omega) | decide) only [r_r, ↓reduceIte, Nat.reduceEqDiff, Nat.reduceAdd, D.fix, Int.reduceToNat, Nat.reduceMul, Nat.reduceBNe, Nat.reduceBEq, zqy]
    refine hK12 _ _ ⟨_, _, _, ?_, ⟨k + 1, ⟨by omega, zlx hlt hlt2 htake (by simpa using ht)⟩, rfl, rfl, rfl⟩, ?_⟩
    ·first | omega | (simp only [List.length_cons]; omega) | (dsimp only; omega)
    ·refine Rt.end (by repeat (first | exact zal _ | refine zai ?_ (by first | rfl | (simp [r_f]; done) | simp [r_f, *]))) ?_
     first | rfl | (simp only [r_g, Nat.reduceAdd, ↓reduceIte, Nat.reduceEqDiff]; first | done | rfl)
  ·have hge : k = a.length := by simp at ht; omega
   have he : a = b := by rw [hge, List.take_length, hl, List.take_length] at htake; exact htake
   refine zbl (hK5 _ _ ?_)
   refine zac hp zaj hc rfl fun K13 hK13 => ?_
   simp -dsimp -implicitDefEqProofs (disch := first | assumption | omega | (simp only [r_z] <;> omega) | decide) only [r_r, ↓reduceIte, Nat.reduceEqDiff, Nat.reduceAdd, D.fix, Int.reduceToNat, Nat.reduceMul, Nat.reduceBNe, Nat.reduceBEq]
   refine hK13 _ _ ?_
   refine za6 ?_
   show closeA _ _ = _
   simp (disch := first | assumption | omega | (simp only [r_z] <;> omega) | decide) only [r_c, Nat.reduceAdd, D.fix, ↓reduceIte, Nat.reduceEqDiff]
   simp [he]
structure Wire where
 kind : Int
 i : Int
 bit : Int
instance : Inhabited Wire := ⟨⟨0, 0, 0⟩⟩
structure Gate where
 op : Int
 a : Int
 b : Int
 c : Int
 n : Int
instance : Inhabited Gate := ⟨⟨0, 0, 0, 0, 0⟩⟩
structure Net where
 ins : List Wire
 gates : List Gate
 out : List Wire
 drive : List Int
def zbn (w : Wire) : List D := [iD w.kind, iD w.i, iD w.bit]
def zar (g : Gate) : List D := [iD g.op, iD g.a, iD g.b, iD g.c, iD g.n]
def zaf (l : List Wire) : D := .fs (l.flatMap zbn) l.length
def zag (l : List Gate) : D := .fs (l.flatMap zar) l.length
def zaz (n : Net) : List D := [zaf n.ins, zag n.gates, zaf n.out, intsD n.drive]
def zas (n : Net) : D := .agg (zaz n)
theorem zay (g : Gate) : (zar g).length = 5 := rfl
theorem za7 (w : Wire) : (zbn w).length = 3 := rfl
section
variable {l : List Gate} {k : Nat}
theorem zax (h : k < l.length) : zcl (l.flatMap zar) (k * 5) 5 = some (zar (nth l k)) := zhg zay h
theorem zxy (h : k < l.length) : (l.flatMap zar)[k * 5]? = some (iD (nth l k).op) := (zi5 (j := 0) zay h (by omega)).trans rfl
theorem zab : (l.flatMap zar).length = l.length * 5 := zew zay l
theorem zjg (l : List Gate) : (l.flatMap zar).map D.fix = l.flatMap zar := zmj (fun _ => rfl) l
theorem zxz (l : List Wire) : (l.flatMap zbn).map D.fix = l.flatMap zbn := zmj (fun _ => rfl) l
end
section
variable {l : List Wire} {k : Nat}
theorem zek (h : k < l.length) : zcl (l.flatMap zbn) (k * 3) 3 = some (zbn (nth l k)) := zhg za7 h
theorem zaa : (l.flatMap zbn).length = l.length * 3 := zew za7 l
end
def jjo (v b : Int) : Bool := zzj .and .i64 (v.fdiv (2 ^ min b.toNat 64)) 1 == 1
theorem jsd (v b : Int) (hb : 0 ≤ b) : zbf Try.prog 56 [iD v, iD b] (.d (oD (jjo v b))) := by
 refine zbi (fn := Try.f56) (by kernel_rfl) Try.func56 rfl (Nat.le_of_ble_eq_true rfl) fun c hc hp => ?_
 refine zbk (τ' := frL [(0, .d (iD v)), (1, .d (iD b))]) (by repeat (first | exact zal _ | refine zai ?_ (by first | rfl | (simp [r_f]; done) | simp [r_f, *]))) ?_
 refine zac hp zaj hc rfl fun K1 hK1 => ?_
 simp -dsimp -implicitDefEqProofs (disch := first | assumption | omega | (simp only [r_z] <;> omega) | decide) only [r_r, ↓reduceIte, Nat.reduceEqDiff, Nat.reduceAdd, D.fix, Int.reduceToNat, Nat.reduceMul, Nat.reduceBNe, Nat.reduceBEq]
 refine hK1 _ _ ?_
 refine zac hp zaj hc rfl fun K2 hK2 => ?_
 simp -dsimp -implicitDefEqProofs (disch := first | assumption | omega | (simp only [r_z] <;> omega) | decide) only [r_r, ↓reduceIte, Nat.reduceEqDiff, Nat.reduceAdd, D.fix, Int.reduceToNat, Nat.reduceMul, Nat.reduceBNe, Nat.reduceBEq, zqy]
 refine hK2 _ _ ?_
 refine za6 ?_
 show closeA _ _ = _
 simp (disch := first | assumption | omega | (simp only [r_z] <;> omega) | decide) only [r_c, Nat.reduceAdd, D.fix, ↓reduceIte, Nat.reduceEqDiff, jjo]
def jl4 (a b c : Bool) : Int := (if a then 1 else 0) + (if b then 2 else 0) + (if c then 4 else 0)
theorem jp5 (a b c : Bool) : 0 ≤ jl4 a b c ∧ jl4 a b c ≤ 7 := by cases a <;> cases b <;> cases c <;> decide
theorem jgc (a b c : Bool) : zbf Try.prog 35 [.fs [oD a, oD b, oD c] 3] (.d (iD (jl4 a b c))) := by
 cases a <;> cases b <;> cases c <;> exact zcb (n := 60) mixed zaj (by kernel_rfl)
def zub (mems : List (List Int)) (n x : Int) : Bool := decide (n / 8 < mems.length) && (decide (x < (nth mems (n / 8).toNat).length) && jjo (nth (nth mems (n / 8).toNat) x.toNat) (n % 8))
theorem jp6 (mems : List (List Int)) (n x : Int) (hn : 0 ≤ n) (hn2 : n < 1000000) (hx : 0 ≤ x) : zbf Try.prog 34 [intssD mems, iD n, iD x] (.d (oD (zub mems n x))) := by
 refine zbi (fn := Try.f34) (by kernel_rfl) Try.func34 rfl (Nat.le_of_ble_eq_true rfl) fun c hc hp => ?_
 refine zbk (τ' := frL [(0, .d (intssD mems)), (1, .d (iD n)), (2, .d (iD x))]) (by repeat (first | exact zal _ | refine zai ?_ (by first | rfl | (simp [r_f]; done) | simp [r_f, *]))) ?_
 refine zac hp zaj hc rfl fun K1 hK1 => ?_
 simp -dsimp -implicitDefEqProofs (disch := first | assumption | omega | (simp only [r_z] <;> omega) | decide) only [r_r, ↓reduceIte, Nat.reduceEqDiff, Nat.reduceAdd, D.fix, Int.reduceToNat, Nat.reduceMul, Nat.reduceBNe, Nat.reduceBEq]
 refine hK1 _ _ ?_
 refine zac hp zaj hc rfl fun K2 hK2 => ?_
 by_cases h1 : n / 8 < mems.length
 by_cases h2 : x < (nth mems (n / 8).toNat).length
 ·simp -dsimp -implicitDefEqProofs (disch := first | assumption | omega | (simp only [r_z] <;> omega) | decide) only [r_r, ↓reduceIte, Nat.reduceEqDiff, Nat.reduceAdd, D.fix, Int.reduceToNat, Nat.reduceMul, Nat.reduceBNe, Nat.reduceBEq, h1, h2, decide_true, decide_false, zqy]
  refine zb8 (jsd _ _ (by omega)) rfl ?_
  simp -dsimp -implicitDefEqProofs (disch := first | assumption | omega | (simp only [r_z] <;> omega) | decide) only [r_r, ↓reduceIte, Nat.reduceEqDiff, Nat.reduceAdd, D.fix, Int.reduceToNat, Nat.reduceMul, Nat.reduceBNe, Nat.reduceBEq, h1, h2, decide_true, decide_false, zqy]
  refine hK2 _ _ ?_
  refine za6 ?_
  show closeA _ _ = _
  simp (disch := first | assumption | omega | (simp only [r_z] <;> omega) | decide) only [r_c, Nat.reduceAdd, D.fix, ↓reduceIte, Nat.reduceEqDiff]
  simp [zub, h1, h2]
 ·simp -dsimp -implicitDefEqProofs (disch := first | assumption | omega | (simp only [r_z] <;> omega) | decide) only [r_r, ↓reduceIte, Nat.reduceEqDiff, Nat.reduceAdd, D.fix, Int.reduceToNat, Nat.reduceMul, Nat.reduceBNe, Nat.reduceBEq, h1, h2, decide_true, decide_false, zqy]
  refine hK2 _ _ ?_
  refine za6 ?_
  show closeA _ _ = _
  simp (disch := first | assumption | omega | (simp only [r_z] <;> omega) | decide) only [r_c, Nat.reduceAdd, D.fix, ↓reduceIte, Nat.reduceEqDiff]
  simp [zub, h1, h2]
 ·have h2 := h1
  simp -dsimp -implicitDefEqProofs (disch := first | assumption | omega | (simp only [r_z] <;> omega) | decide) only [r_r, ↓reduceIte, Nat.reduceEqDiff, Nat.reduceAdd, D.fix, Int.reduceToNat, Nat.reduceMul, Nat.reduceBNe, Nat.reduceBEq, h1, h2, decide_true, decide_false, zqy]
  refine hK2 _ _ ?_
  refine za6 ?_
  show closeA _ _ = _
  simp (disch := first | assumption | omega | (simp only [r_z] <;> omega) | decide) only [r_c, Nat.reduceAdd, D.fix, ↓reduceIte, Nat.reduceEqDiff]
  simp [zub, h1]
def opsC : List D := [iD 1, .val (.func (.func 50) #[] #[]), iD 2, .val (.func (.func 51) #[] #[]), iD 3, .val (.func (.func 52) #[] #[]), iD 4, .val (.func (.func 53) #[] #[]), iD 5, .val (.func (.func 54) #[] #[]), iD 6, .val (.func (.func 55) #[] #[])]
theorem zuc : zbf Try.prog 33 [] (.d (.agg opsC)) := zcb (n := 60) mixed zaj (by kernel_rfl)
theorem jt1 (x y z : Bool) : zbf Try.prog 50 [oD x, oD y, oD z] (.d (oD (!x))) := by cases x <;> cases y <;> cases z <;> exact zcb (n := 60) mixed zaj (by kernel_rfl)
theorem jt2 (x y z : Bool) : zbf Try.prog 51 [oD x, oD y, oD z] (.d (oD (x && y))) := by cases x <;> cases y <;> cases z <;> exact zcb (n := 60) mixed zaj (by kernel_rfl)
theorem jt3 (x y z : Bool) : zbf Try.prog 52 [oD x, oD y, oD z] (.d (oD (x || y))) := by cases x <;> cases y <;> cases z <;> exact zcb (n := 60) mixed zaj (by kernel_rfl)
theorem jt4 (x y z : Bool) : zbf Try.prog 53 [oD x, oD y, oD z] (.d (oD (x != y))) := by cases x <;> cases y <;> cases z <;> exact zcb (n := 60) mixed zaj (by kernel_rfl)
theorem jt5 (x y z : Bool) : zbf Try.prog 54 [oD x, oD y, oD z] (.d (oD (if x then y else z))) := by cases x <;> cases y <;> cases z <;> exact zcb (n := 60) mixed zaj (by kernel_rfl)
theorem jt6 (x y z : Bool) : zbf Try.prog 55 [oD x, oD y, oD z] (.d (oD (x && (y || z) || y && z))) := by cases x <;> cases y <;> cases z <;> exact zcb (n := 60) mixed zaj (by kernel_rfl)
def zl6 (op a b c n : Int) : List D := [.fs opsC 6, .clo (.func 37) [] [.fp [iD op, iD a, iD b, iD c, iD n] 0]]
theorem jp7 (a b c n : Int) : zbf Try.prog 36 (zl6 1 a b c n) (.d (iD 0)) := zcb (n := 60) mixed zaj (by kernel_rfl)
theorem jp8 (a b c n : Int) : zbf Try.prog 36 (zl6 2 a b c n) (.d (iD 1)) := zcb (n := 60) mixed zaj (by kernel_rfl)
theorem jp9 (a b c n : Int) : zbf Try.prog 36 (zl6 3 a b c n) (.d (iD 2)) := zcb (n := 60) mixed zaj (by kernel_rfl)
theorem jqa (a b c n : Int) : zbf Try.prog 36 (zl6 4 a b c n) (.d (iD 3)) := zcb (n := 60) mixed zaj (by kernel_rfl)
theorem jqb (a b c n : Int) : zbf Try.prog 36 (zl6 5 a b c n) (.d (iD 4)) := zcb (n := 60) mixed zaj (by kernel_rfl)
theorem jqc (a b c n : Int) : zbf Try.prog 36 (zl6 6 a b c n) (.d (iD 5)) := zcb (n := 60) mixed zaj (by kernel_rfl)
end Go.Proofs.Ytignimmnnccblaa
