/- Lists of numbers; nets: how they lie in memory; the small functions of the simulation. -/
import Derived.Test.YtapjobndmmkanaaQr
import Derived.Test.YtapjobndmmkanaaTy
import Derived.Test.YtapjobndmmkanaaBa
set_option linter.unusedVariables false
set_option linter.unusedSimpArgs false
set_option maxRecDepth 100000
set_option maxHeartbeats 4000000
namespace Go.Proofs.Ytapjobndmmkanaa
open Go Go.RowKit
theorem zud : ((((type_of% @ze5) ∧ (type_of% @ze6)) ∧ ((type_of% @ze7) ∧ ((type_of% @ze8) ∧ (type_of% @zo8)))) ∧ (((type_of% @zo9) ∧ ((type_of% @zpa) ∧ (type_of% @zhr))) ∧ ((type_of% @zhs) ∧ ((type_of% @zht) ∧ (type_of% @zhu))))) := ⟨⟨⟨@ze5, @ze6⟩, ⟨@ze7, ⟨@ze8, @zo8⟩⟩⟩, ⟨⟨@zo9, ⟨@zpa, @zhr⟩⟩, ⟨@zhs, ⟨@zht, @zhu⟩⟩⟩⟩
structure Wire where
 kind : Int
 i : Int
 bit : Int
instance : Inhabited Wire := ⟨⟨0, 0, 0⟩⟩
structure Gate where
 op : Int
 a : Int
 b : Int
 c : Int
 n : Int
instance : Inhabited Gate := ⟨⟨0, 0, 0, 0, 0⟩⟩
structure Net where
 ins : List Wire
 gates : List Gate
 out : List Wire
 drive : List Int
def zao (w : Wire) : List D := [iD w.kind, iD w.i, iD w.bit]
def za0 (g : Gate) : List D := [iD g.op, iD g.a, iD g.b, iD g.c, iD g.n]
def zad (l : List Wire) : D := .fs (l.flatMap zao) l.length
def zae (l : List Gate) : D := .fs (l.flatMap za0) l.length
def za3 (n : Net) : List D := [zad n.ins, zae n.gates, zad n.out, intsD n.drive]
def za1 (n : Net) : D := .agg (za3 n)
theorem zau (g : Gate) : (za0 g).length = 5 := rfl
theorem zaf (w : Wire) : (zao w).length = 3 := rfl
section
variable {l : List Gate} {k : Nat}
theorem zaz (h : k < l.length) : zbk (l.flatMap za0) (k * 5) 5 = some (za0 (nth l k)) := zgm zau h
theorem zaa : (l.flatMap za0).length = l.length * 5 := zdl zau l
theorem zph (l : List Gate) : (l.flatMap za0).map D.fix = l.flatMap za0 := zjc (fun _ => rfl) l
theorem zpi (l : List Wire) : (l.flatMap zao).map D.fix = l.flatMap zao := zjc (fun _ => rfl) l
end
section
variable {l : List Wire} {k : Nat}
theorem zaj (h : k < l.length) : zbk (l.flatMap zao) (k * 3) 3 = some (zao (nth l k)) := zgm zaf h
theorem zue (h : k < l.length) : (l.flatMap zao)[k * 3]? = some (iD (nth l k).kind) := (zdm (j := 0) zaf h (by omega)).trans rfl
theorem zuf (h : k < l.length) : (l.flatMap zao)[k * 3 + 1]? = some (iD (nth l k).i) := (zdm (j := 1) zaf h (by omega)).trans rfl
theorem zab : (l.flatMap zao).length = l.length * 3 := zdl zaf l
end
def jdv (v b : Int) : Bool := zpu .and .i64 (v.fdiv (2 ^ min b.toNat 64)) 1 == 1
theorem jak (v b : Int) (hb : 0 ≤ b) : zbh Try.prog 47 [iD v, iD b] (.d (oD (jdv v b))) := by
 refine zbv (fn := Try.f47) (by kernel_rfl) Try.func47 rfl (Nat.le_of_ble_eq_true rfl) fun c hc hp => ?_
 refine zb8 (τ' := frL [(0, .d (iD v)), (1, .d (iD b))]) (by repeat (first | exact zat _ | refine zap ?_ (by first | rfl | (simp [r_f]; done) | simp [r_f, *]))) ?_
 refine zah hp zar hc rfl fun K1 hK1 => ?_
 simp -dsimp -implicitDefEqProofs (disch := first | assumption | omega | (simp only [r_z] <;> omega) | decide) only [r_r, ↓reduceIte, Nat.reduceEqDiff, Nat.reduceAdd, D.fix, Int.reduceToNat, Nat.reduceMul, Nat.reduceBNe, Nat.reduceBEq]
 refine hK1 _ _ ?_
 refine zah hp zar hc rfl fun K2 hK2 => ?_
 simp -dsimp -implicitDefEqProofs (disch := first | assumption | omega | (simp only [r_z] <;> omega) | decide) only [r_r, ↓reduceIte, Nat.reduceEqDiff, Nat.reduceAdd, D.fix, Int.reduceToNat, Nat.reduceMul, Nat.reduceBNe, Nat.reduceBEq, zud]
 refine hK2 _ _ ?_
 refine zbr ?_
 show closeA _ _ = _
 simp (disch := first | assumption | omega | (simp only [r_z] <;> omega) | decide) only [r_c, Nat.reduceAdd, D.fix, ↓reduceIte, Nat.reduceEqDiff, jdv]
def jer (a b c : Bool) : Int := (if a then 1 else 0) + (if b then 2 else 0) + (if c then 4 else 0)
theorem jdw (a b c : Bool) : 0 ≤ jer a b c ∧ jer a b c ≤ 7 := by cases a <;> cases b <;> cases c <;> decide
theorem zwb (a b c : Bool) : zbh Try.prog 43 [.fs [oD a, oD b, oD c] 3] (.d (iD (jer a b c))) := by
 cases a <;> cases b <;> cases c <;> exact zbg (n := 60) zcb zar (by kernel_rfl)
def zug (mems : List (List Int)) (n x : Int) : Bool := decide (n / 8 < mems.length) && (decide (x < (nth mems (n / 8).toNat).length) && jdv (nth (nth mems (n / 8).toNat) x.toNat) (n % 8))
theorem jdx (mems : List (List Int)) (n x : Int) (hn : 0 ≤ n) (hn2 : n < 1000000) (hx : 0 ≤ x) : zbh Try.prog 42 [intssD mems, iD n, iD x] (.d (oD (zug mems n x))) := by
 refine zbv (fn := Try.f42) (by kernel_rfl) Try.func42 rfl (Nat.le_of_ble_eq_true rfl) fun c hc hp => ?_
 refine zb8 (τ' := frL [(0, .d (intssD mems)), (1, .d (iD n)), (2, .d (iD x))]) (by repeat (first | exact zat _ | refine zap ?_ (by first | rfl | (simp [r_f]; done) | simp [r_f, *]))) ?_
 refine zah hp zar hc rfl fun K1 hK1 => ?_
 simp -dsimp -implicitDefEqProofs (disch := first | assumption | omega | (simp only [r_z] <;> omega) | decide) only [r_r, ↓reduceIte, Nat.reduceEqDiff, Nat.reduceAdd, D.fix, Int.reduceToNat, Nat.reduceMul, Nat.reduceBNe, Nat.reduceBEq]
 refine hK1 _ _ ?_
 refine zah hp zar hc rfl fun K2 hK2 => ?_
 by_cases h1 : n / 8 < mems.length
 by_cases h2 : x < (nth mems (n / 8).toNat).length
 ·simp -dsimp -implicitDefEqProofs (disch := first | assumption | omega | (simp only [r_z] <;> omega) | decide) only [r_r, ↓reduceIte, Nat.reduceEqDiff, Nat.reduceAdd, D.fix, Int.reduceToNat, Nat.reduceMul, Nat.reduceBNe, Nat.reduceBEq, h1, h2, decide_true, decide_false, zud]
  refine zdf (jak _ _ (by omega)) rfl ?_
  simp -dsimp -implicitDefEqProofs (disch := first | assumption | omega | (simp only [r_z] <;> omega) | decide) only [r_r, ↓reduceIte, Nat.reduceEqDiff, Nat.reduceAdd, D.fix, Int.reduceToNat, Nat.reduceMul, Nat.reduceBNe, Nat.reduceBEq, h1, h2, decide_true, decide_false, zud]
  refine hK2 _ _ ?_
  refine zbr ?_
  show closeA _ _ = _
  simp (disch := first | assumption | omega | (simp only [r_z] <;> omega) | decide) only [r_c, Nat.reduceAdd, D.fix, ↓reduceIte, Nat.reduceEqDiff]
  simp [zug, h1, h2]
 ·simp -dsimp -implicitDefEqProofs (disch := first | assumption | omega | (simp only [r_z] <;> omega) | decide) only [r_r, ↓reduceIte, Nat.reduceEqDiff, Nat.reduceAdd, D.fix, Int.reduceToNat, Nat.reduceMul, Nat.reduceBNe, Nat.reduceBEq, h1, h2, decide_true, decide_false, zud]
  refine hK2 _ _ ?_
  refine zbr ?_
  show closeA _ _ = _
  simp (disch := first | assumption | omega | (simp only [r_z] <;> omega) | decide) only [r_c, Nat.reduceAdd, D.fix, ↓reduceIte, Nat.reduceEqDiff]
  simp [zug, h1, h2]
 ·have h2 := h1
  simp -dsimp -implicitDefEqProofs (disch := first | assumption | omega | (simp only [r_z] <;> omega) | decide) only [r_r, ↓reduceIte, Nat.reduceEqDiff, Nat.reduceAdd, D.fix, Int.reduceToNat, Nat.reduceMul, Nat.reduceBNe, Nat.reduceBEq, h1, h2, decide_true, decide_false, zud]
  refine hK2 _ _ ?_
  refine zbr ?_
  show closeA _ _ = _
  simp (disch := first | assumption | omega | (simp only [r_z] <;> omega) | decide) only [r_c, Nat.reduceAdd, D.fix, ↓reduceIte, Nat.reduceEqDiff]
  simp [zug, h1]
def opsC : List D := [iD 1, .val (.func (.func 82) #[] #[]), iD 2, .val (.func (.func 83) #[] #[]), iD 3, .val (.func (.func 84) #[] #[]), iD 4, .val (.func (.func 85) #[] #[]), iD 5, .val (.func (.func 86) #[] #[]), iD 6, .val (.func (.func 87) #[] #[])]
theorem zmw : zbh Try.prog 41 [] (.d (.agg opsC)) := zbg (n := 60) zcb zar (by kernel_rfl)
theorem jge (x y z : Bool) : zbh Try.prog 82 [oD x, oD y, oD z] (.d (oD (!x))) := by cases x <;> cases y <;> cases z <;> exact zbg (n := 60) zcb zar (by kernel_rfl)
theorem jgf (x y z : Bool) : zbh Try.prog 83 [oD x, oD y, oD z] (.d (oD (x && y))) := by cases x <;> cases y <;> cases z <;> exact zbg (n := 60) zcb zar (by kernel_rfl)
theorem jgg (x y z : Bool) : zbh Try.prog 84 [oD x, oD y, oD z] (.d (oD (x || y))) := by cases x <;> cases y <;> cases z <;> exact zbg (n := 60) zcb zar (by kernel_rfl)
theorem jgh (x y z : Bool) : zbh Try.prog 85 [oD x, oD y, oD z] (.d (oD (x != y))) := by cases x <;> cases y <;> cases z <;> exact zbg (n := 60) zcb zar (by kernel_rfl)
theorem jgi (x y z : Bool) : zbh Try.prog 86 [oD x, oD y, oD z] (.d (oD (if x then y else z))) := by cases x <;> cases y <;> cases z <;> exact zbg (n := 60) zcb zar (by kernel_rfl)
theorem jgj (x y z : Bool) : zbh Try.prog 87 [oD x, oD y, oD z] (.d (oD (x && (y || z) || y && z))) := by cases x <;> cases y <;> cases z <;> exact zbg (n := 60) zcb zar (by kernel_rfl)
def zgb (op a b c n : Int) : List D := [.fs opsC 6, .clo (.func 45) [] [.fp [iD op, iD a, iD b, iD c, iD n] 0]]
theorem jdy (a b c n : Int) : zbh Try.prog 44 (zgb 1 a b c n) (.d (iD 0)) := zbg (n := 60) zcb zar (by kernel_rfl)
theorem jdz (a b c n : Int) : zbh Try.prog 44 (zgb 2 a b c n) (.d (iD 1)) := zbg (n := 60) zcb zar (by kernel_rfl)
theorem jd0 (a b c n : Int) : zbh Try.prog 44 (zgb 3 a b c n) (.d (iD 2)) := zbg (n := 60) zcb zar (by kernel_rfl)
theorem jd1 (a b c n : Int) : zbh Try.prog 44 (zgb 4 a b c n) (.d (iD 3)) := zbg (n := 60) zcb zar (by kernel_rfl)
theorem jd2 (a b c n : Int) : zbh Try.prog 44 (zgb 5 a b c n) (.d (iD 4)) := zbg (n := 60) zcb zar (by kernel_rfl)
theorem jd3 (a b c n : Int) : zbh Try.prog 44 (zgb 6 a b c n) (.d (iD 5)) := zbg (n := 60) zcb zar (by kernel_rfl)
end Go.Proofs.Ytapjobndmmkanaa
