/- Lists of numbers; nets: how they lie in memory; the small functions of the simulation. -/
import Derived.Test.YtignimmnnccblaaQr
import Derived.Test.YtignimmnnccblaaTy
import Derived.Test.YtignimmnnccblaaBa
set_option linter.unusedVariables false
set_option linter.unusedSimpArgs false
set_option maxRecDepth 100000
set_option maxHeartbeats 4000000
namespace Go.Proofs.Ytignimmnnccblaa
open Go Go.RowKit
theorem zqm : ((((type_of% @zde) ∧ (type_of% @zdf)) ∧ ((type_of% @zdg) ∧ ((type_of% @zdq) ∧ (type_of% @zex)))) ∧ (((type_of% @zey) ∧ ((type_of% @zfa) ∧ (type_of% @zsn))) ∧ ((type_of% @zso) ∧ ((type_of% @zsp) ∧ (type_of% @zsq))))) := ⟨⟨⟨@zde, @zdf⟩, ⟨@zdg, ⟨@zdq, @zex⟩⟩⟩, ⟨⟨@zey, ⟨@zfa, @zsn⟩⟩, ⟨@zso, ⟨@zsp, @zsq⟩⟩⟩⟩
theorem jqv (a b : List Int) (ha : a.length ≤ maxLen) : za9 Try.prog 29 [intsD a, intsD b] (.d (oD (decide (a = b)))) := by
 refine zbc (fn := Try.f29) (by kernel_rfl) Try.func29 rfl (Nat.le_of_ble_eq_true rfl) fun c hc hp => ?_
 refine zbf (τ' := frL [(0, .d (intsD a)), (1, .d (intsD b))]) (by repeat (first | exact zak _ | refine zah ?_ (by first | rfl | (simp [r_f]; done) | simp [r_f, *]))) ?_
 unfold maxLen at ha
 refine zac hp zaj hc rfl fun K1 hK1 => ?_
 simp -dsimp -implicitDefEqProofs (disch := first | assumption | omega | (simp only [r_z] <;> omega) | decide) only [r_r, ↓reduceIte, Nat.reduceEqDiff, Nat.reduceAdd, D.fix, Int.reduceToNat, Nat.reduceMul, Nat.reduceBNe, Nat.reduceBEq]
 refine hK1 _ _ ?_
 refine zam fun K2 hK2 => ?_
 refine zac hp zaj hc rfl fun K3 hK3 => ?_
 simp -dsimp -implicitDefEqProofs (disch := first | assumption | omega | (simp only [r_z] <;> omega) | decide) only [r_r, ↓reduceIte, Nat.reduceEqDiff, Nat.reduceAdd, D.fix, Int.reduceToNat, Nat.reduceMul, Nat.reduceBNe, Nat.reduceBEq, zqm]
 refine hK3 _ _ ?_
 refine zaq rfl (fun ht => ?_) (fun ht => ?_)
 ·have hne : a ≠ b := fun e => by subst e; simp at ht
  refine zac hp zaj hc rfl fun K4 hK4 => ?_
  simp -dsimp -implicitDefEqProofs (disch := first | assumption | omega | (simp only [r_z] <;> omega) | decide) only [r_r, ↓reduceIte, Nat.reduceEqDiff, Nat.reduceAdd, D.fix, Int.reduceToNat, Nat.reduceMul, Nat.reduceBNe, Nat.reduceBEq]
  refine hK4 _ _ ?_
  refine za4 ?_
  show closeA _ _ = _
  simp (disch := first | assumption | omega | (simp only [r_z] <;> omega) | decide) only [r_c, Nat.reduceAdd, D.fix, ↓reduceIte, Nat.reduceEqDiff]
  simp [hne]
 ·have hl : a.length = b.length := by simp at ht; omega
  refine zay (hK2 _ _ ?_)
  refine zam fun K5 hK5 => ?_
  refine zac hp zaj hc rfl fun K6 hK6 => ?_
  simp -dsimp -implicitDefEqProofs (disch := first | assumption | omega | (simp only [r_z] <;> omega) | decide) only [r_r, ↓reduceIte, Nat.reduceEqDiff, Nat.reduceAdd, D.fix, Int.reduceToNat, Nat.reduceMul, Nat.reduceBNe, Nat.reduceBEq]
  refine hK6 _ _ ?_
  refine zaz ?_
  refine za7 hp (fun τ' H' mm => ∃ k, (k ≤ a.length ∧ a.take k = b.take k) ∧ mm = a.length - k ∧ H' = [] ∧ τ' = frL [(5, .d (iD k)), (0, .d (intsD a)), (1, .d (intsD b))]) (a.length) ?_ ⟨0, ⟨Nat.zero_le _, rfl⟩, rfl, rfl, rfl⟩ ?_
  ·refine Rt.end (by repeat (first | exact zak _ | refine zah ?_ (by first | rfl | (simp [r_f]; done) | simp [r_f, *]))) ?_
   first | rfl | (simp only [r_g, Nat.reduceAdd, ↓reduceIte, Nat.reduceEqDiff]; first | done | rfl)
  rintro τ' H' mm ⟨k, ⟨hk, htake⟩, rfl, rfl, rfl⟩
  refine zam fun K7 hK7 => ?_
  refine zac hp zaj hc rfl fun K8 hK8 => ?_
  simp -dsimp -implicitDefEqProofs (disch := first | assumption | omega | (simp only [r_z] <;> omega) | decide) only [r_r, ↓reduceIte, Nat.reduceEqDiff, Nat.reduceAdd, D.fix, Int.reduceToNat, Nat.reduceMul, Nat.reduceBNe, Nat.reduceBEq, zqm]
  refine hK8 _ _ ?_
  refine zaq rfl (fun ht => ?_) (fun ht => ?_)
  ·have hlt : k < a.length := by simp at ht; omega
   have hlt2 : k < b.length := by omega
   refine zay (hK7 _ _ ?_)
   refine zam fun K9 hK9 => ?_
   refine zaz ?_
   refine zbn zaj hc mixed rfl (q := 0) (by kernel_rfl) (by kernel_rfl) fun K10 hK10 => ?_
   simp -dsimp -implicitDefEqProofs (disch := first | assumption | omega | (simp only [r_z] <;> omega) | decide) only [r_r, ↓reduceIte, Nat.reduceEqDiff, Nat.reduceAdd, D.fix, Int.reduceToNat, Nat.reduceMul, Nat.reduceBNe, Nat.reduceBEq, zqm]
   refine hK10 _ _ ?_
   refine zaq rfl (fun ht => ?_) (fun ht => ?_)
   ·have hne : a ≠ b := fun e => by subst e; simp at ht
    refine zac hp zaj hc rfl fun K11 hK11 => ?_
    simp -dsimp -implicitDefEqProofs (disch := first | assumption | omega | (simp only [r_z] <;> omega) | decide) only [r_r, ↓reduceIte, Nat.reduceEqDiff, Nat.reduceAdd, D.fix, Int.reduceToNat, Nat.reduceMul, Nat.reduceBNe, Nat.reduceBEq]
    refine hK11 _ _ ?_
    refine za4 ?_
    show closeA _ _ = _
    simp (disch := first | assumption | omega | (simp only [r_z] <;> omega) | decide) only [r_c, Nat.reduceAdd, D.fix, ↓reduceIte, Nat.reduceEqDiff]
    simp [hne]
   ·refine zay (hK9 _ _ ?_)
    refine zbo hp zaj hc rfl fun K12 hK12 => ?_
    simp -dsimp -implicitDefEqProofs (disch := first | assumption | omega | (simp only [r_z] <;> omega) | decide) only [r_r, ↓reduceIte, Nat.reduceEqDiff, Nat.reduceAdd, D.fix, Int.reduceToNat, Nat.reduceMul, Nat.reduceBNe, Nat.reduceBEq, zqm]
    refine hK12 _ _ ⟨_, _, _, ?_, ⟨k + 1, ⟨by omega, zlx hlt hlt2 htake (by simpa using ht)⟩, rfl, rfl, rfl⟩, ?_⟩
    ·first | omega | (simp only [List.length_cons]; omega) | (dsimp only; omega)
    ·refine Rt.end (by repeat (first | exact zak _ | refine zah ?_ (by first | rfl | (simp [r_f]; done) | simp [r_f, *]))) ?_
     first | rfl | (simp only [r_g, Nat.reduceAdd, ↓reduceIte, Nat.reduceEqDiff]; first | done | rfl)
  ·have hge : k = a.length := by simp at ht; omega
   have he : a = b := by rw [hge, List.take_length, hl, List.take_length] at htake; exact htake
   refine zbj (hK5 _ _ ?_)
   refine zac hp zaj hc rfl fun K13 hK13 => ?_
   simp -dsimp -implicitDefEqProofs (disch := first | assumption | omega | (simp only [r_z] <;> omega) | decide) only [r_r, ↓reduceIte, Nat.reduceEqDiff, Nat.reduceAdd, D.fix, Int.reduceToNat, Nat.reduceMul, Nat.reduceBNe, Nat.reduceBEq]
   refine hK13 _ _ ?_
   refine za4 ?_
   show closeA _ _ = _
   simp (disch := first | assumption | omega | (simp only [r_z] <;> omega) | decide) only [r_c, Nat.reduceAdd, D.fix, ↓reduceIte, Nat.reduceEqDiff]
   simp [he]
structure Wire where
 kind : Int
 i : Int
 bit : Int
instance : Inhabited Wire := ⟨⟨0, 0, 0⟩⟩
structure Gate where
 op : Int
 a : Int
 b : Int
 c : Int
 n : Int
instance : Inhabited Gate := ⟨⟨0, 0, 0, 0, 0⟩⟩
structure Net where
 ins : List Wire
 gates : List Gate
 out : List Wire
 drive : List Int
def za5 (w : Wire) : List D := [iD w.kind, iD w.i, iD w.bit]
def zap (g : Gate) : List D := [iD g.op, iD g.a, iD g.b, iD g.c, iD g.n]
def zae (l : List Wire) : D := .fs (l.flatMap za5) l.length
def zaf (l : List Gate) : D := .fs (l.flatMap zap) l.length
def zax (n : Net) : List D := [zae n.ins, zaf n.gates, zae n.out, intsD n.drive]
def zas (n : Net) : D := .agg (zax n)
theorem zaw (g : Gate) : (zap g).length = 5 := rfl
theorem za0 (w : Wire) : (za5 w).length = 3 := rfl
section
variable {l : List Gate} {k : Nat}
theorem zav (h : k < l.length) : zcm (l.flatMap zap) (k * 5) 5 = some (zap (nth l k)) := zhf zaw h
theorem zxv (h : k < l.length) : (l.flatMap zap)[k * 5]? = some (iD (nth l k).op) := (zi6 (j := 0) zaw h (by omega)).trans rfl
theorem zab : (l.flatMap zap).length = l.length * 5 := zeu zaw l
theorem zjh (l : List Gate) : (l.flatMap zap).map D.fix = l.flatMap zap := zmg (fun _ => rfl) l
theorem zxw (l : List Wire) : (l.flatMap za5).map D.fix = l.flatMap za5 := zmg (fun _ => rfl) l
end
section
variable {l : List Wire} {k : Nat}
theorem zca (h : k < l.length) : zcm (l.flatMap za5) (k * 3) 3 = some (za5 (nth l k)) := zhf za0 h
theorem zaa : (l.flatMap za5).length = l.length * 3 := zeu za0 l
end
def jmp (v b : Int) : Bool := zzt .and .i64 (v.fdiv (2 ^ min b.toNat 64)) 1 == 1
theorem js4 (v b : Int) (hb : 0 ≤ b) : za9 Try.prog 56 [iD v, iD b] (.d (oD (jmp v b))) := by
 refine zbc (fn := Try.f56) (by kernel_rfl) Try.func56 rfl (Nat.le_of_ble_eq_true rfl) fun c hc hp => ?_
 refine zbf (τ' := frL [(0, .d (iD v)), (1, .d (iD b))]) (by repeat (first | exact zak _ | refine zah ?_ (by first | rfl | (simp [r_f]; done) | simp [r_f, *]))) ?_
 refine zac hp zaj hc rfl fun K1 hK1 => ?_
 simp -dsimp -implicitDefEqProofs (disch := first | assumption | omega | (simp only [r_z] <;> omega) | decide) only [r_r, ↓reduceIte, Nat.reduceEqDiff, Nat.reduceAdd, D.fix, Int.reduceToNat, Nat.reduceMul, Nat.reduceBNe, Nat.reduceBEq]
 refine hK1 _ _ ?_
 refine zac hp zaj hc rfl fun K2 hK2 => ?_
 simp -dsimp -implicitDefEqProofs (disch := first | assumption | omega | (simp only [r_z] <;> omega) | decide) only [r_r, ↓reduceIte, Nat.reduceEqDiff, Nat.reduceAdd, D.fix, Int.reduceToNat, Nat.reduceMul, Nat.reduceBNe, Nat.reduceBEq, zqm]
 refine hK2 _ _ ?_
 refine za4 ?_
 show closeA _ _ = _
 simp (disch := first | assumption | omega | (simp only [r_z] <;> omega) | decide) only [r_c, Nat.reduceAdd, D.fix, ↓reduceIte, Nat.reduceEqDiff, jmp]
def jmq (a b c : Bool) : Int := (if a then 1 else 0) + (if b then 2 else 0) + (if c then 4 else 0)
theorem jqw (a b c : Bool) : 0 ≤ jmq a b c ∧ jmq a b c ≤ 7 := by cases a <;> cases b <;> cases c <;> decide
theorem jgg (a b c : Bool) : za9 Try.prog 35 [.fs [oD a, oD b, oD c] 3] (.d (iD (jmq a b c))) := by
 cases a <;> cases b <;> cases c <;> exact zb6 (n := 60) mixed zaj (by kernel_rfl)
def zt3 (mems : List (List Int)) (n x : Int) : Bool := decide (n / 8 < mems.length) && (decide (x < (nth mems (n / 8).toNat).length) && jmp (nth (nth mems (n / 8).toNat) x.toNat) (n % 8))
theorem jqx (mems : List (List Int)) (n x : Int) (hn : 0 ≤ n) (hn2 : n < 1000000) (hx : 0 ≤ x) : za9 Try.prog 34 [intssD mems, iD n, iD x] (.d (oD (zt3 mems n x))) := by
 refine zbc (fn := Try.f34) (by kernel_rfl) Try.func34 rfl (Nat.le_of_ble_eq_true rfl) fun c hc hp => ?_
 refine zbf (τ' := frL [(0, .d (intssD mems)), (1, .d (iD n)), (2, .d (iD x))]) (by repeat (first | exact zak _ | refine zah ?_ (by first | rfl | (simp [r_f]; done) | simp [r_f, *]))) ?_
 refine zac hp zaj hc rfl fun K1 hK1 => ?_
 simp -dsimp -implicitDefEqProofs (disch := first | assumption | omega | (simp only [r_z] <;> omega) | decide) only [r_r, ↓reduceIte, Nat.reduceEqDiff, Nat.reduceAdd, D.fix, Int.reduceToNat, Nat.reduceMul, Nat.reduceBNe, Nat.reduceBEq]
 refine hK1 _ _ ?_
 refine zac hp zaj hc rfl fun K2 hK2 => ?_
 by_cases h1 : n / 8 < mems.length
 by_cases h2 : x < (nth mems (n / 8).toNat).length
 ·simp -dsimp -implicitDefEqProofs (disch := first | assumption | omega | (simp only [r_z] <;> omega) | decide) only [r_r, ↓reduceIte, Nat.reduceEqDiff, Nat.reduceAdd, D.fix, Int.reduceToNat, Nat.reduceMul, Nat.reduceBNe, Nat.reduceBEq, h1, h2, decide_true, decide_false, zqm]
  refine zb4 (js4 _ _ (by omega)) rfl ?_
  simp -dsimp -implicitDefEqProofs (disch := first | assumption | omega | (simp only [r_z] <;> omega) | decide) only [r_r, ↓reduceIte, Nat.reduceEqDiff, Nat.reduceAdd, D.fix, Int.reduceToNat, Nat.reduceMul, Nat.reduceBNe, Nat.reduceBEq, h1, h2, decide_true, decide_false, zqm]
  refine hK2 _ _ ?_
  refine za4 ?_
  show closeA _ _ = _
  simp (disch := first | assumption | omega | (simp only [r_z] <;> omega) | decide) only [r_c, Nat.reduceAdd, D.fix, ↓reduceIte, Nat.reduceEqDiff]
  simp [zt3, h1, h2]
 ·simp -dsimp -implicitDefEqProofs (disch := first | assumption | omega | (simp only [r_z] <;> omega) | decide) only [r_r, ↓reduceIte, Nat.reduceEqDiff, Nat.reduceAdd, D.fix, Int.reduceToNat, Nat.reduceMul, Nat.reduceBNe, Nat.reduceBEq, h1, h2, decide_true, decide_false, zqm]
  refine hK2 _ _ ?_
  refine za4 ?_
  show closeA _ _ = _
  simp (disch := first | assumption | omega | (simp only [r_z] <;> omega) | decide) only [r_c, Nat.reduceAdd, D.fix, ↓reduceIte, Nat.reduceEqDiff]
  simp [zt3, h1, h2]
 ·have h2 := h1
  simp -dsimp -implicitDefEqProofs (disch := first | assumption | omega | (simp only [r_z] <;> omega) | decide) only [r_r, ↓reduceIte, Nat.reduceEqDiff, Nat.reduceAdd, D.fix, Int.reduceToNat, Nat.reduceMul, Nat.reduceBNe, Nat.reduceBEq, h1, h2, decide_true, decide_false, zqm]
  refine hK2 _ _ ?_
  refine za4 ?_
  show closeA _ _ = _
  simp (disch := first | assumption | omega | (simp only [r_z] <;> omega) | decide) only [r_c, Nat.reduceAdd, D.fix, ↓reduceIte, Nat.reduceEqDiff]
  simp [zt3, h1]
def opsC : List D := [iD 1, .val (.func (.func 50) #[] #[]), iD 2, .val (.func (.func 51) #[] #[]), iD 3, .val (.func (.func 52) #[] #[]), iD 4, .val (.func (.func 53) #[] #[]), iD 5, .val (.func (.func 54) #[] #[]), iD 6, .val (.func (.func 55) #[] #[])]
theorem zt4 : za9 Try.prog 33 [] (.d (.agg opsC)) := zb6 (n := 60) mixed zaj (by kernel_rfl)
theorem juv (x y z : Bool) : za9 Try.prog 50 [oD x, oD y, oD z] (.d (oD (!x))) := by cases x <;> cases y <;> cases z <;> exact zb6 (n := 60) mixed zaj (by kernel_rfl)
theorem juw (x y z : Bool) : za9 Try.prog 51 [oD x, oD y, oD z] (.d (oD (x && y))) := by cases x <;> cases y <;> cases z <;> exact zb6 (n := 60) mixed zaj (by kernel_rfl)
theorem jux (x y z : Bool) : za9 Try.prog 52 [oD x, oD y, oD z] (.d (oD (x || y))) := by cases x <;> cases y <;> cases z <;> exact zb6 (n := 60) mixed zaj (by kernel_rfl)
theorem juy (x y z : Bool) : za9 Try.prog 53 [oD x, oD y, oD z] (.d (oD (x != y))) := by cases x <;> cases y <;> cases z <;> exact zb6 (n := 60) mixed zaj (by kernel_rfl)
theorem juz (x y z : Bool) : za9 Try.prog 54 [oD x, oD y, oD z] (.d (oD (if x then y else z))) := by cases x <;> cases y <;> cases z <;> exact zb6 (n := 60) mixed zaj (by kernel_rfl)
theorem ju0 (x y z : Bool) : za9 Try.prog 55 [oD x, oD y, oD z] (.d (oD (x && (y || z) || y && z))) := by cases x <;> cases y <;> cases z <;> exact zb6 (n := 60) mixed zaj (by kernel_rfl)
def zl5 (op a b c n : Int) : List D := [.fs opsC 6, .clo (.func 37) [] [.fp [iD op, iD a, iD b, iD c, iD n] 0]]
theorem jqy (a b c n : Int) : za9 Try.prog 36 (zl5 1 a b c n) (.d (iD 0)) := zb6 (n := 60) mixed zaj (by kernel_rfl)
theorem jqz (a b c n : Int) : za9 Try.prog 36 (zl5 2 a b c n) (.d (iD 1)) := zb6 (n := 60) mixed zaj (by kernel_rfl)
theorem jq0 (a b c n : Int) : za9 Try.prog 36 (zl5 3 a b c n) (.d (iD 2)) := zb6 (n := 60) mixed zaj (by kernel_rfl)
theorem jq1 (a b c n : Int) : za9 Try.prog 36 (zl5 4 a b c n) (.d (iD 3)) := zb6 (n := 60) mixed zaj (by kernel_rfl)
theorem jq2 (a b c n : Int) : za9 Try.prog 36 (zl5 5 a b c n) (.d (iD 4)) := zb6 (n := 60) mixed zaj (by kernel_rfl)
theorem jq3 (a b c n : Int) : za9 Try.prog 36 (zl5 6 a b c n) (.d (iD 5)) := zb6 (n := 60) mixed zaj (by kernel_rfl)
end Go.Proofs.Ytignimmnnccblaa
