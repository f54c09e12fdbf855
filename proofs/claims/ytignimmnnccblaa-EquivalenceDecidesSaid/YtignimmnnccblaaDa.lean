/- Lists of numbers; nets: how they lie in memory; the small functions of the simulation. -/
import Derived.Test.YtignimmnnccblaaQr
import Derived.Test.YtignimmnnccblaaTy
import Derived.Test.YtignimmnnccblaaBa
set_option linter.unusedVariables false
set_option linter.unusedSimpArgs false
set_option maxRecDepth 100000
set_option maxHeartbeats 4000000
namespace Go.Proofs.Ytignimmnnccblaa
open Go Go.RowKit
theorem zqd : ((((type_of% @zdm) ∧ (type_of% @zdn)) ∧ ((type_of% @zdo) ∧ ((type_of% @zdv) ∧ (type_of% @ze4)))) ∧ (((type_of% @ze5) ∧ ((type_of% @ze7) ∧ (type_of% @zsc))) ∧ ((type_of% @zsd) ∧ ((type_of% @zse) ∧ (type_of% @zsf))))) := ⟨⟨⟨@zdm, @zdn⟩, ⟨@zdo, ⟨@zdv, @ze4⟩⟩⟩, ⟨⟨@ze5, ⟨@ze7, @zsc⟩⟩, ⟨@zsd, ⟨@zse, @zsf⟩⟩⟩⟩
theorem jqf (a b : List Int) (ha : a.length ≤ maxLen) : zbd Try.prog 29 [intsD a, intsD b] (.d (oD (decide (a = b)))) := by
 refine zbg (fn := Try.f29) (by kernel_rfl) Try.func29 rfl (Nat.le_of_ble_eq_true rfl) fun c hc hp => ?_
 refine zbh (τ' := frL [(0, .d (intsD a)), (1, .d (intsD b))]) (by repeat (first | exact zam _ | refine zai ?_ (by first | rfl | (simp [r_f]; done) | simp [r_f, *]))) ?_
 unfold maxLen at ha
 refine zac hp zak hc rfl fun K1 hK1 => ?_
 simp -dsimp -implicitDefEqProofs (disch := first | assumption | omega | (simp only [r_z] <;> omega) | decide) only [r_r, ↓reduceIte, Nat.reduceEqDiff, Nat.reduceAdd, D.fix, Int.reduceToNat, Nat.reduceMul, Nat.reduceBNe, Nat.reduceBEq]
 refine hK1 _ _ ?_
 refine zao fun K2 hK2 => ?_
 refine zac hp zak hc rfl fun K3 hK3 => ?_
 simp -dsimp -implicitDefEqProofs (disch := first | assumption | omega | (simp only [r_z] <;> omega) | decide) only [r_r, ↓reduceIte, Nat.reduceEqDiff, Nat.reduceAdd, D.fix, Int.reduceToNat, Nat.reduceMul, Nat.reduceBNe, Nat.reduceBEq, zqd]
 refine hK3 _ _ ?_
 refine zaq rfl (fun ht => ?_) (fun ht => ?_)
 ·have hne : a ≠ b := fun e => by subst e; simp at ht
  refine zac hp zak hc rfl fun K4 hK4 => ?_
  simp -dsimp -implicitDefEqProofs (disch := first | assumption | omega | (simp only [r_z] <;> omega) | decide) only [r_r, ↓reduceIte, Nat.reduceEqDiff, Nat.reduceAdd, D.fix, Int.reduceToNat, Nat.reduceMul, Nat.reduceBNe, Nat.reduceBEq]
  refine hK4 _ _ ?_
  refine za4 ?_
  show closeA _ _ = _
  simp (disch := first | assumption | omega | (simp only [r_z] <;> omega) | decide) only [r_c, Nat.reduceAdd, D.fix, ↓reduceIte, Nat.reduceEqDiff]
  simp [hne]
 ·have hl : a.length = b.length := by simp at ht; omega
  refine zay (hK2 _ _ ?_)
  refine zao fun K5 hK5 => ?_
  refine zac hp zak hc rfl fun K6 hK6 => ?_
  simp -dsimp -implicitDefEqProofs (disch := first | assumption | omega | (simp only [r_z] <;> omega) | decide) only [r_r, ↓reduceIte, Nat.reduceEqDiff, Nat.reduceAdd, D.fix, Int.reduceToNat, Nat.reduceMul, Nat.reduceBNe, Nat.reduceBEq]
  refine hK6 _ _ ?_
  refine zaz ?_
  refine zbb hp (fun τ' H' mm => ∃ k, (k ≤ a.length ∧ a.take k = b.take k) ∧ mm = a.length - k ∧ H' = [] ∧ τ' = frL [(5, .d (iD k)), (0, .d (intsD a)), (1, .d (intsD b))]) (a.length) ?_ ⟨0, ⟨Nat.zero_le _, rfl⟩, rfl, rfl, rfl⟩ ?_
  ·refine Rt.end (by repeat (first | exact zam _ | refine zai ?_ (by first | rfl | (simp [r_f]; done) | simp [r_f, *]))) ?_
   first | rfl | (simp only [r_g, Nat.reduceAdd, ↓reduceIte, Nat.reduceEqDiff]; first | done | rfl)
  rintro τ' H' mm ⟨k, ⟨hk, htake⟩, rfl, rfl, rfl⟩
  refine zao fun K7 hK7 => ?_
  refine zac hp zak hc rfl fun K8 hK8 => ?_
  simp -dsimp -implicitDefEqProofs (disch := first | assumption | omega | (simp only [r_z] <;> omega) | decide) only [r_r, ↓reduceIte, Nat.reduceEqDiff, Nat.reduceAdd, D.fix, Int.reduceToNat, Nat.reduceMul, Nat.reduceBNe, Nat.reduceBEq, zqd]
  refine hK8 _ _ ?_
  refine zaq rfl (fun ht => ?_) (fun ht => ?_)
  ·have hlt : k < a.length := by simp at ht; omega
   have hlt2 : k < b.length := by omega
   refine zay (hK7 _ _ ?_)
   refine zao fun K9 hK9 => ?_
   refine zaz ?_
   refine zbp zak hc mixed rfl (q := 0) (by kernel_rfl) (by kernel_rfl) fun K10 hK10 => ?_
   simp -dsimp -implicitDefEqProofs (disch := first | assumption | omega | (simp only [r_z] <;> omega) | decide) only [r_r, ↓reduceIte, Nat.reduceEqDiff, Nat.reduceAdd, D.fix, Int.reduceToNat, Nat.reduceMul, Nat.reduceBNe, Nat.reduceBEq, zqd]
   refine hK10 _ _ ?_
   refine zaq rfl (fun ht => ?_) (fun ht => ?_)
   ·have hne : a ≠ b := fun e => by subst e; simp at ht
    refine zac hp zak hc rfl fun K11 hK11 => ?_
    simp -dsimp -implicitDefEqProofs (disch := first | assumption | omega | (simp only [r_z] <;> omega) | decide) only [r_r, ↓reduceIte, Nat.reduceEqDiff, Nat.reduceAdd, D.fix, Int.reduceToNat, Nat.reduceMul, Nat.reduceBNe, Nat.reduceBEq]
    refine hK11 _ _ ?_
    refine za4 ?_
    show closeA _ _ = _
    simp (disch := first | assumption | omega | (simp only [r_z] <;> omega) | decide) only [r_c, Nat.reduceAdd, D.fix, ↓reduceIte, Nat.reduceEqDiff]
    simp [hne]
   ·refine zay (hK9 _ _ ?_)
    refine zbt hp zak hc rfl fun K12 hK12 => ?_
    simp -dsimp -implicitDefEqProofs (disch := first | assumption | omega | (simp only [r_z] <;> omega) | decide) only [r_r, ↓reduceIte, Nat.reduceEqDiff, Nat.reduceAdd, D.fix, Int.reduceToNat, Nat.reduceMul, Nat.reduceBNe, Nat.reduceBEq, zqd]
    refine hK12 _ _ ⟨_, _, _, ?_, ⟨k + 1, ⟨by omega, zly hlt hlt2 htake (by simpa using ht)⟩, rfl, rfl, rfl⟩, ?_⟩
    ·first | omega | (simp only [List.length_cons]; omega) | (dsimp only; omega)
    ·refine Rt.end (by repeat (first | exact zam _ | refine zai ?_ (by first | rfl | (simp [r_f]; done) | simp [r_f, *]))) ?_
     first | rfl | (simp only [r_g, Nat.reduceAdd, ↓reduceIte, Nat.reduceEqDiff]; first | done | rfl)
  ·have hge : k = a.length := by simp at ht; omega
   have he : a = b := by rw [hge, List.take_length, hl, List.take_length] at htake; exact htake
   refine zbn (hK5 _ _ ?_)
   refine zac hp zak hc rfl fun K13 hK13 => ?_
   simp -dsimp -implicitDefEqProofs (disch := first | assumption | omega | (simp only [r_z] <;> omega) | decide) only [r_r, ↓reduceIte, Nat.reduceEqDiff, Nat.reduceAdd, D.fix, Int.reduceToNat, Nat.reduceMul, Nat.reduceBNe, Nat.reduceBEq]
   refine hK13 _ _ ?_
   refine za4 ?_
   show closeA _ _ = _
   simp (disch := first | assumption | omega | (simp only [r_z] <;> omega) | decide) only [r_c, Nat.reduceAdd, D.fix, ↓reduceIte, Nat.reduceEqDiff]
   simp [he]
structure Wire where
 kind : Int
 i : Int
 bit : Int
instance : Inhabited Wire := ⟨⟨0, 0, 0⟩⟩
structure Gate where
 op : Int
 a : Int
 b : Int
 c : Int
 n : Int
instance : Inhabited Gate := ⟨⟨0, 0, 0, 0, 0⟩⟩
structure Net where
 ins : List Wire
 gates : List Gate
 out : List Wire
 drive : List Int
def zbl (w : Wire) : List D := [iD w.kind, iD w.i, iD w.bit]
def zar (g : Gate) : List D := [iD g.op, iD g.a, iD g.b, iD g.c, iD g.n]
def zaf (l : List Wire) : D := .fs (l.flatMap zbl) l.length
def zag (l : List Gate) : D := .fs (l.flatMap zar) l.length
def zax (n : Net) : List D := [zaf n.ins, zag n.gates, zaf n.out, intsD n.drive]
def zaw (n : Net) : D := .agg (zax n)
theorem zav (g : Gate) : (zar g).length = 5 := rfl
theorem za3 (w : Wire) : (zbl w).length = 3 := rfl
section
variable {l : List Gate} {k : Nat}
theorem zau (h : k < l.length) : zcj (l.flatMap zar) (k * 5) 5 = some (zar (nth l k)) := zhc zav h
theorem zxo (h : k < l.length) : (l.flatMap zar)[k * 5]? = some (iD (nth l k).op) := (zi0 (j := 0) zav h (by omega)).trans rfl
theorem zab : (l.flatMap zar).length = l.length * 5 := zeu zav l
theorem zjb (l : List Gate) : (l.flatMap zar).map D.fix = l.flatMap zar := zmj (fun _ => rfl) l
theorem zxp (l : List Wire) : (l.flatMap zbl).map D.fix = l.flatMap zbl := zmj (fun _ => rfl) l
end
section
variable {l : List Wire} {k : Nat}
theorem zei (h : k < l.length) : zcj (l.flatMap zbl) (k * 3) 3 = some (zbl (nth l k)) := zhc za3 h
theorem zaa : (l.flatMap zbl).length = l.length * 3 := zeu za3 l
end
def jl8 (v b : Int) : Bool := zze .and .i64 (v.fdiv (2 ^ min b.toNat 64)) 1 == 1
theorem jsp (v b : Int) (hb : 0 ≤ b) : zbd Try.prog 56 [iD v, iD b] (.d (oD (jl8 v b))) := by
 refine zbg (fn := Try.f56) (by kernel_rfl) Try.func56 rfl (Nat.le_of_ble_eq_true rfl) fun c hc hp => ?_
 refine zbh (τ' := frL [(0, .d (iD v)), (1, .d (iD b))]) (by repeat (first | exact zam _ | refine zai ?_ (by first | rfl | (simp [r_f]; done) | simp [r_f, *]))) ?_
 refine zac hp zak hc rfl fun K1 hK1 => ?_
 simp -dsimp -implicitDefEqProofs (disch := first | assumption | omega | (simp only [r_z] <;> omega) | decide) only [r_r, ↓reduceIte, Nat.reduceEqDiff, Nat.reduceAdd, D.fix, Int.reduceToNat, Nat.reduceMul, Nat.reduceBNe, Nat.reduceBEq]
 refine hK1 _ _ ?_
 refine zac hp zak hc rfl fun K2 hK2 => ?_
 simp -dsimp -implicitDefEqProofs (disch := first | assumption | omega | (simp only [r_z] <;> omega) | decide) only [r_r, ↓reduceIte, Nat.reduceEqDiff, Nat.reduceAdd, D.fix, Int.reduceToNat, Nat.reduceMul, Nat.reduceBNe, Nat.reduceBEq, zqd]
 refine hK2 _ _ ?_
 refine za4 ?_
 show closeA _ _ = _
 simp (disch := first | assumption | omega | (simp only [r_z] <;> omega) | decide) only [r_c, Nat.reduceAdd, D.fix, ↓reduceIte, Nat.reduceEqDiff, jl8]
def jl9 (a b c : Bool) : Int := (if a then 1 else 0) + (if b then 2 else 0) + (if c then 4 else 0)
theorem jqg (a b c : Bool) : 0 ≤ jl9 a b c ∧ jl9 a b c ≤ 7 := by cases a <;> cases b <;> cases c <;> decide
theorem jf6 (a b c : Bool) : zbd Try.prog 35 [.fs [oD a, oD b, oD c] 3] (.d (iD (jl9 a b c))) := by
 cases a <;> cases b <;> cases c <;> exact zb7 (n := 60) mixed zak (by kernel_rfl)
def ztr (mems : List (List Int)) (n x : Int) : Bool := decide (n / 8 < mems.length) && (decide (x < (nth mems (n / 8).toNat).length) && jl8 (nth (nth mems (n / 8).toNat) x.toNat) (n % 8))
theorem jqh (mems : List (List Int)) (n x : Int) (hn : 0 ≤ n) (hn2 : n < 1000000) (hx : 0 ≤ x) : zbd Try.prog 34 [intssD mems, iD n, iD x] (.d (oD (ztr mems n x))) := by
 refine zbg (fn := Try.f34) (by kernel_rfl) Try.func34 rfl (Nat.le_of_ble_eq_true rfl) fun c hc hp => ?_
 refine zbh (τ' := frL [(0, .d (intssD mems)), (1, .d (iD n)), (2, .d (iD x))]) (by repeat (first | exact zam _ | refine zai ?_ (by first | rfl | (simp [r_f]; done) | simp [r_f, *]))) ?_
 refine zac hp zak hc rfl fun K1 hK1 => ?_
 simp -dsimp -implicitDefEqProofs (disch := first | assumption | omega | (simp only [r_z] <;> omega) | decide) only [r_r, ↓reduceIte, Nat.reduceEqDiff, Nat.reduceAdd, D.fix, Int.reduceToNat, Nat.reduceMul, Nat.reduceBNe, Nat.reduceBEq]
 refine hK1 _ _ ?_
 refine zac hp zak hc rfl fun K2 hK2 => ?_
 by_cases h1 : n / 8 < mems.length
 by_cases h2 : x < (nth mems (n / 8).toNat).length
 ·simp -dsimp -implicitDefEqProofs (disch := first | assumption | omega | (simp only [r_z] <;> omega) | decide) only [r_r, ↓reduceIte, Nat.reduceEqDiff, Nat.reduceAdd, D.fix, Int.reduceToNat, Nat.reduceMul, Nat.reduceBNe, Nat.reduceBEq, h1, h2, decide_true, decide_false, zqd]
  refine zb8 (jsp _ _ (by omega)) rfl ?_
  simp -dsimp -implicitDefEqProofs (disch := first | assumption | omega | (simp only [r_z] <;> omega) | decide) only [r_r, ↓reduceIte, Nat.reduceEqDiff, Nat.reduceAdd, D.fix, Int.reduceToNat, Nat.reduceMul, Nat.reduceBNe, Nat.reduceBEq, h1, h2, decide_true, decide_false, zqd]
  refine hK2 _ _ ?_
  refine za4 ?_
  show closeA _ _ = _
  simp (disch := first | assumption | omega | (simp only [r_z] <;> omega) | decide) only [r_c, Nat.reduceAdd, D.fix, ↓reduceIte, Nat.reduceEqDiff]
  simp [ztr, h1, h2]
 ·simp -dsimp -implicitDefEqProofs (disch := first | assumption | omega | (simp only [r_z] <;> omega) | decide) only [r_r, ↓reduceIte, Nat.reduceEqDiff, Nat.reduceAdd, D.fix, Int.reduceToNat, Nat.reduceMul, Nat.reduceBNe, Nat.reduceBEq, h1, h2, decide_true, decide_false, zqd]
  refine hK2 _ _ ?_
  refine za4 ?_
  show closeA _ _ = _
  simp (disch := first | assumption | omega | (simp only [r_z] <;> omega) | decide) only [r_c, Nat.reduceAdd, D.fix, ↓reduceIte, Nat.reduceEqDiff]
  simp [ztr, h1, h2]
 ·have h2 := h1
  simp -dsimp -implicitDefEqProofs (disch := first | assumption | omega | (simp only [r_z] <;> omega) | decide) only [r_r, ↓reduceIte, Nat.reduceEqDiff, Nat.reduceAdd, D.fix, Int.reduceToNat, Nat.reduceMul, Nat.reduceBNe, Nat.reduceBEq, h1, h2, decide_true, decide_false, zqd]
  refine hK2 _ _ ?_
  refine za4 ?_
  show closeA _ _ = _
  simp (disch := first | assumption | omega | (simp only [r_z] <;> omega) | decide) only [r_c, Nat.reduceAdd, D.fix, ↓reduceIte, Nat.reduceEqDiff]
  simp [ztr, h1]
def opsC : List D := [iD 1, .val (.func (.func 50) #[] #[]), iD 2, .val (.func (.func 51) #[] #[]), iD 3, .val (.func (.func 52) #[] #[]), iD 4, .val (.func (.func 53) #[] #[]), iD 5, .val (.func (.func 54) #[] #[]), iD 6, .val (.func (.func 55) #[] #[])]
theorem zts : zbd Try.prog 33 [] (.d (.agg opsC)) := zb7 (n := 60) mixed zak (by kernel_rfl)
theorem jud (x y z : Bool) : zbd Try.prog 50 [oD x, oD y, oD z] (.d (oD (!x))) := by cases x <;> cases y <;> cases z <;> exact zb7 (n := 60) mixed zak (by kernel_rfl)
theorem jue (x y z : Bool) : zbd Try.prog 51 [oD x, oD y, oD z] (.d (oD (x && y))) := by cases x <;> cases y <;> cases z <;> exact zb7 (n := 60) mixed zak (by kernel_rfl)
theorem juf (x y z : Bool) : zbd Try.prog 52 [oD x, oD y, oD z] (.d (oD (x || y))) := by cases x <;> cases y <;> cases z <;> exact zb7 (n := 60) mixed zak (by kernel_rfl)
theorem jug (x y z : Bool) : zbd Try.prog 53 [oD x, oD y, oD z] (.d (oD (x != y))) := by cases x <;> cases y <;> cases z <;> exact zb7 (n := 60) mixed zak (by kernel_rfl)
theorem juh (x y z : Bool) : zbd Try.prog 54 [oD x, oD y, oD z] (.d (oD (if x then y else z))) := by cases x <;> cases y <;> cases z <;> exact zb7 (n := 60) mixed zak (by kernel_rfl)
theorem jui (x y z : Bool) : zbd Try.prog 55 [oD x, oD y, oD z] (.d (oD (x && (y || z) || y && z))) := by cases x <;> cases y <;> cases z <;> exact zb7 (n := 60) mixed zak (by kernel_rfl)
def zl7 (op a b c n : Int) : List D := [.fs opsC 6, .clo (.func 37) [] [.fp [iD op, iD a, iD b, iD c, iD n] 0]]
theorem jqi (a b c n : Int) : zbd Try.prog 36 (zl7 1 a b c n) (.d (iD 0)) := zb7 (n := 60) mixed zak (by kernel_rfl)
theorem jqj (a b c n : Int) : zbd Try.prog 36 (zl7 2 a b c n) (.d (iD 1)) := zb7 (n := 60) mixed zak (by kernel_rfl)
theorem jqk (a b c n : Int) : zbd Try.prog 36 (zl7 3 a b c n) (.d (iD 2)) := zb7 (n := 60) mixed zak (by kernel_rfl)
theorem jql (a b c n : Int) : zbd Try.prog 36 (zl7 4 a b c n) (.d (iD 3)) := zb7 (n := 60) mixed zak (by kernel_rfl)
theorem jqm (a b c n : Int) : zbd Try.prog 36 (zl7 5 a b c n) (.d (iD 4)) := zb7 (n := 60) mixed zak (by kernel_rfl)
theorem jqn (a b c n : Int) : zbd Try.prog 36 (zl7 6 a b c n) (.d (iD 5)) := zb7 (n := 60) mixed zak (by kernel_rfl)
end Go.Proofs.Ytignimmnnccblaa
