/- The builder's gate. -/
import Derived.Test.YtignimmnnccblaaQr
import Derived.Test.YtignimmnnccblaaCd
set_option linter.unusedVariables false
set_option linter.unusedSimpArgs false
set_option maxRecDepth 100000
set_option maxHeartbeats 4000000
namespace Go.Proofs.Ytignimmnnccblaa
open Go Go.RowKit
theorem ze8 : (((((type_of% @zjq) ∧ ((type_of% @zjr) ∧ (type_of% @zjb))) ∧ ((type_of% @zjc) ∧ ((type_of% @zo4) ∧ (type_of% @zo5)))) ∧ (((type_of% @zdf) ∧ ((type_of% @zdg) ∧ (type_of% @zdh))) ∧ (((type_of% @zgm) ∧ (type_of% @zgn)) ∧ ((type_of% @ze9) ∧ (type_of% @zfa))))) ∧ ((((type_of% @zgo) ∧ ((type_of% @zgp) ∧ (type_of% @zgq))) ∧ ((type_of% @zgr) ∧ ((type_of% @zii) ∧ (type_of% @zij)))) ∧ (((type_of% @zfc) ∧ ((type_of% @zi9) ∧ (type_of% @zja))) ∧ (((type_of% @zhs) ∧ (type_of% @zht)) ∧ ((type_of% @zw0) ∧ (type_of% @zw1)))))) := ⟨⟨⟨⟨@zjq, ⟨@zjr, @zjb⟩⟩, ⟨@zjc, ⟨@zo4, @zo5⟩⟩⟩, ⟨⟨@zdf, ⟨@zdg, @zdh⟩⟩, ⟨⟨@zgm, @zgn⟩, ⟨@ze9, @zfa⟩⟩⟩⟩, ⟨⟨⟨@zgo, ⟨@zgp, @zgq⟩⟩, ⟨@zgr, ⟨@zii, @zij⟩⟩⟩, ⟨⟨@zfc, ⟨@zi9, @zja⟩⟩, ⟨⟨@zhs, @zht⟩, ⟨@zw0, @zw1⟩⟩⟩⟩⟩
def zit (base : Nat) (sh : Sh) (fs : List T) (g : Gate) (a : Nat → Bool) : Bool :=
 if g.op = 1 then !(nth fs g.a.toNat).eval a
 else if g.op = 2 then (nth fs g.a.toNat).eval a && (nth fs g.b.toNat).eval a
 else if g.op = 3 then (nth fs g.a.toNat).eval a || (nth fs g.b.toNat).eval a
 else if g.op = 4 then (nth fs g.a.toNat).eval a != (nth fs g.b.toNat).eval a
 else if g.op = 5 then if (nth fs g.a.toNat).eval a then (nth fs g.b.toNat).eval a else (nth fs g.c.toNat).eval a
 else if g.op = 6 then (nth fs g.a.toNat).eval a && ((nth fs g.b.toNat).eval a || (nth fs g.c.toNat).eval a) || (nth fs g.b.toNat).eval a && (nth fs g.c.toNat).eval a
 else zs6 base sh g.n.toNat (low fs [g.a, g.b, g.c] a 3) a
theorem zx2 {ts : List T} : (0 : Int) = (num ts (.leaf false) : Nat) := by rw [zjj]; rfl
theorem jgf {ts : List T} : (1 : Int) = (num ts (.leaf true) : Nat) := by rw [zqa]; rfl
theorem zy7 {ts us : List T} (hp : ts <+: us) {t : T} (h : t ∈ zbu ts) : ((num ts t : Nat) : Int) = (num us t : Nat) := by rw [zdr hp h]
theorem jqf (V base : Nat) (sh : Sh) (fs : List T) (ts : List T) (μu μm : Mp) (g : Gate) (hS : MS V ts μu μm) (hsh : ShOk sh) (hV : zci base sh ≤ V) (hfs : ∀ t ∈ fs, t ∈ zbu ts) (hfl : fs.length ≤ 1000000) (hg : GOp fs.length g) (hlen : ts.length + 32 * 2 ^ V ≤ zeo) : ScS Try.prog [0, 1, 2, 4, 5, 6] 67 [.op 4 0, .agg (gA g)] (zbo ts μu μm base sh fs) (jtk V (8 + 7 * 2 ^ V) ts base sh fs (zit base sh fs g)) := by
 refine zhe (fn := Try.f67) (by kernel_rfl) Try.func67 rfl (Nat.le_of_ble_eq_true rfl) fun c hc hp => ?_
 refine jbp ?_
 have hpos : 0 < 2 ^ V := Nat.two_pow_pos V
 have hlen' := hlen
 unfold zeo at hlen
 have hV9 := hS.V0
 have hg' := hg
 obtain ⟨a0, a1, b0, b1, c0, c1, n0, n1⟩ := hg
 have hx : nth fs g.a.toNat ∈ zbu ts := hfs _ (zb6 (by omega))
 have hy : nth fs g.b.toNat ∈ zbu ts := hfs _ (zb6 (by omega))
 have hz : nth fs g.c.toNat ∈ zbu ts := hfs _ (zb6 (by omega))
 refine zac hp zaj hc rfl fun K1 hK1 => ?_
 simp -dsimp -implicitDefEqProofs (disch := first | assumption | omega | (simp only [r_z, zah, zae, zad, zak] <;> omega) | decide) only [r_r, ↓reduceIte, Nat.reduceEqDiff, Nat.reduceAdd, D.fix, Int.reduceToNat, Nat.reduceMul, Nat.reduceBNe, Nat.reduceBEq, r_m, zbe, zbh, zbo, zbm, shD, gA, zb4, zb1, ze8]
 refine hK1 _ _ ?_
 refine zbr zaj hc mixed rfl (q := 0) (by kernel_rfl) (by kernel_rfl) fun K2 hK2 => ?_
 simp -dsimp -implicitDefEqProofs (disch := first | assumption | omega | (simp only [r_z, zah, zae, zad, zak] <;> omega) | decide) only [r_r, ↓reduceIte, Nat.reduceEqDiff, Nat.reduceAdd, D.fix, Int.reduceToNat, Nat.reduceMul, Nat.reduceBNe, Nat.reduceBEq, r_m, zbe, zbh, zbo, zbm, shD, gA, zb4, zb1, ze8]
 refine hK2 _ _ ?_
 refine zan fun K3 hK3 => ?_
 refine zb3 hp (τ' := frL [(0, .op 4 0), (3, .op 7 0), (5, .d (iD (num ts (nth fs g.a.toNat)))), (6, .d (iD (num ts (nth fs g.b.toNat)))), (7, .d (iD (num ts (nth fs g.c.toNat))))]) (H' := zbo ts μu μm base sh fs ++ [.cells (gA g)]) ?_ ?_
 ·refine Rt.trans (Rt.gc (keep := [0,1,2,3,4,5,6,7]) (by decide) (by decide) (by simp [fzH, gcH])) ?_
  refine Rt.end (by repeat (first | exact zal _ | refine zai ?_ (by first | rfl | (simp [r_f, zah, zae, zad, zak]; done) | simp [r_f, zah, zae, zad, zak, *]))) ?_
  first | rfl | (simp only [r_g, Nat.reduceAdd, ↓reduceIte, Nat.reduceEqDiff, r_m, zbe, zbh, zbo, zbm, shD, gA, zb4, zb1]; first | done | rfl)
 refine zac hp zaj hc rfl fun K4 hK4 => ?_
 simp -dsimp -implicitDefEqProofs (disch := first | assumption | omega | (simp only [r_z, zah, zae, zad, zak] <;> omega) | decide) only [r_r, ↓reduceIte, Nat.reduceEqDiff, Nat.reduceAdd, D.fix, Int.reduceToNat, Nat.reduceMul, Nat.reduceBNe, Nat.reduceBEq, r_m, zbe, zbh, zbo, zbm, shD, gA, zb4, zb1, ze8]
 refine hK4 _ _ ?_
 refine za1 ?_
 refine zac hp zaj hc rfl fun K5 hK5 => ?_
 simp -dsimp -implicitDefEqProofs (disch := first | assumption | omega | (simp only [r_z, zah, zae, zad, zak] <;> omega) | decide) only [r_r, ↓reduceIte, Nat.reduceEqDiff, Nat.reduceAdd, D.fix, Int.reduceToNat, Nat.reduceMul, Nat.reduceBNe, Nat.reduceBEq, r_m, zbe, zbh, zbo, zbm, shD, gA, zb4, zb1, ze8]
 refine hK5 _ _ ?_
 refine zap rfl (fun ht => ?_) (fun ht => ?_)
 ·have o1 : g.op = 1 := by simp at ht; omega
  refine zac hp zaj hc rfl fun K6 hK6 => ?_
  simp -dsimp -implicitDefEqProofs (disch := first | assumption | omega | (simp only [r_z, zah, zae, zad, zak] <;> omega) | decide) only [r_r, ↓reduceIte, Nat.reduceEqDiff, Nat.reduceAdd, D.fix, Int.reduceToNat, Nat.reduceMul, Nat.reduceBNe, Nat.reduceBEq, r_m, zbe, zbh, zbo, zbm, shD, gA, zb4, zb1, ze8]
  refine zt6 (S := zbe ts μu μm) (T := zbm ts base sh fs ++ [.cells (gA g)]) (zn5 hS hx (zhx _) (zqb _) (by unfold zeo; omega) rfl zx2 jgf) rfl (by first | rfl | (simp [AV.allIs, AV.allI, za3, zat, zau, okI, ltI, zao, zbb, zbe, zbh, zbo, zbm, gA]; done) | (intro o ho; simp at ho; done)) (fun t => zbv (by first | rfl | (simp [AV.allIs, AV.allI, za3, zat, zau, okI, ltI, zao, zbb, zbe, zbh, zbo, zbm, gA]; done) | (intro o ho; simp at ho; done)) t) (by first | rfl | (simp [AV.allIs, AV.allI, za3, zat, zau, okI, ltI, zao, zbb, zbe, zbh, zbo, zbm, gA]; done) | (intro o ho; simp at ho; done)) (by first | rfl | (simp [AV.allIs, AV.allI, za3, zat, zau, okI, ltI, zao, zbb, zbe, zbh, zbo, zbm, gA]; done) | (intro o ho; simp at ho; done)) (by first | rfl | (simp [AV.allIs, AV.allI, za3, zat, zau, okI, ltI, zao, zbb, zbe, zbh, zbo, zbm, gA]; done) | (intro o ho; simp at ho; done)) ?_
  rintro _ _ ⟨ts1, μu1, μm1, t1, rfl, rfl, hS1, hp1, hl1, hm1, hi1⟩
  refine ⟨rfl, ?_⟩
  simp -dsimp -implicitDefEqProofs (disch := first | assumption | omega | (simp only [r_z, zah, zae, zad, zak] <;> omega) | decide) only [r_r, ↓reduceIte, Nat.reduceEqDiff, Nat.reduceAdd, D.fix, Int.reduceToNat, Nat.reduceMul, Nat.reduceBNe, Nat.reduceBEq, r_m, zbe, zbh, zbo, zbm, shD, gA, zb4, zb1, ze8]
  refine hK6 _ _ ?_
  refine zb3 hp (τ' := frL [(4, .d (iD (num ts1 t1)))]) (H' := zbo ts1 μu1 μm1 base sh fs) ?_ ?_
  ·refine Rt.trans (Rt.gc (keep := [0,1,2,3,4,5,6]) (by decide) (by decide) (by simp [fzH, gcH])) ?_
   refine Rt.end (by repeat (first | exact zal _ | refine zai ?_ (by first | rfl | (simp [r_f, zah, zae, zad, zak]; done) | simp [r_f, zah, zae, zad, zak, *]))) ?_
   simp only [r_g, Nat.reduceAdd, ↓reduceIte, Nat.reduceEqDiff, r_m, zbe, zbh, zbo, zbm, shD, gA, zb4, zb1]; rw [zd1 hp1 hfs]
  refine za6 ?_
  refine zbs (t := 4) rfl ?_
  show ∃ _, _
  refine ⟨ts1, μu1, μm1, t1, rfl, rfl, hS1, hp1, by omega, hm1, fun a => ?_⟩
  rw [hi1 a]
  simp only [zit, o1, if_true]
  cases (nth fs g.a.toNat).eval a <;> rfl
 ·have o1 : ¬ g.op = 1 := by simp at ht; omega
  refine zac hp zaj hc rfl fun K7 hK7 => ?_
  simp -dsimp -implicitDefEqProofs (disch := first | assumption | omega | (simp only [r_z, zah, zae, zad, zak] <;> omega) | decide) only [r_r, ↓reduceIte, Nat.reduceEqDiff, Nat.reduceAdd, D.fix, Int.reduceToNat, Nat.reduceMul, Nat.reduceBNe, Nat.reduceBEq, r_m, zbe, zbh, zbo, zbm, shD, gA, zb4, zb1, ze8]
  refine hK7 _ _ ?_
  refine zap rfl (fun ht => ?_) (fun ht => ?_)
  ·have o2 : g.op = 2 := by simp at ht; omega
   refine zac hp zaj hc rfl fun K8 hK8 => ?_
   simp -dsimp -implicitDefEqProofs (disch := first | assumption | omega | (simp only [r_z, zah, zae, zad, zak] <;> omega) | decide) only [r_r, ↓reduceIte, Nat.reduceEqDiff, Nat.reduceAdd, D.fix, Int.reduceToNat, Nat.reduceMul, Nat.reduceBNe, Nat.reduceBEq, r_m, zbe, zbh, zbo, zbm, shD, gA, zb4, zb1, ze8]
   refine zt6 (S := zbe ts μu μm) (T := zbm ts base sh fs ++ [.cells (gA g)]) (zn5 hS hx hy (zhx _) (by unfold zeo; omega) rfl rfl zx2) rfl (by first | rfl | (simp [AV.allIs, AV.allI, za3, zat, zau, okI, ltI, zao, zbb, zbe, zbh, zbo, zbm, gA]; done) | (intro o ho; simp at ho; done)) (fun t => zbv (by first | rfl | (simp [AV.allIs, AV.allI, za3, zat, zau, okI, ltI, zao, zbb, zbe, zbh, zbo, zbm, gA]; done) | (intro o ho; simp at ho; done)) t) (by first | rfl | (simp [AV.allIs, AV.allI, za3, zat, zau, okI, ltI, zao, zbb, zbe, zbh, zbo, zbm, gA]; done) | (intro o ho; simp at ho; done)) (by first | rfl | (simp [AV.allIs, AV.allI, za3, zat, zau, okI, ltI, zao, zbb, zbe, zbh, zbo, zbm, gA]; done) | (intro o ho; simp at ho; done)) (by first | rfl | (simp [AV.allIs, AV.allI, za3, zat, zau, okI, ltI, zao, zbb, zbe, zbh, zbo, zbm, gA]; done) | (intro o ho; simp at ho; done)) ?_
   rintro _ _ ⟨ts1, μu1, μm1, t1, rfl, rfl, hS1, hp1, hl1, hm1, hi1⟩
   refine ⟨rfl, ?_⟩
   simp -dsimp -implicitDefEqProofs (disch := first | assumption | omega | (simp only [r_z, zah, zae, zad, zak] <;> omega) | decide) only [r_r, ↓reduceIte, Nat.reduceEqDiff, Nat.reduceAdd, D.fix, Int.reduceToNat, Nat.reduceMul, Nat.reduceBNe, Nat.reduceBEq, r_m, zbe, zbh, zbo, zbm, shD, gA, zb4, zb1, ze8]
   refine hK8 _ _ ?_
   refine zb3 hp (τ' := frL [(4, .d (iD (num ts1 t1)))]) (H' := zbo ts1 μu1 μm1 base sh fs) ?_ ?_
   ·refine Rt.trans (Rt.gc (keep := [0,1,2,3,4,5,6]) (by decide) (by decide) (by simp [fzH, gcH])) ?_
    refine Rt.end (by repeat (first | exact zal _ | refine zai ?_ (by first | rfl | (simp [r_f, zah, zae, zad, zak]; done) | simp [r_f, zah, zae, zad, zak, *]))) ?_
    simp only [r_g, Nat.reduceAdd, ↓reduceIte, Nat.reduceEqDiff, r_m, zbe, zbh, zbo, zbm, shD, gA, zb4, zb1]; rw [zd1 hp1 hfs]
   refine za6 ?_
   refine zbs (t := 4) rfl ?_
   show ∃ _, _
   refine ⟨ts1, μu1, μm1, t1, rfl, rfl, hS1, hp1, by omega, hm1, fun a => ?_⟩
   rw [hi1 a]
   simp only [zit, o1, o2, if_true, if_false]
   cases (nth fs g.a.toNat).eval a <;> simp [T.eval]
  ·have o2 : ¬ g.op = 2 := by simp at ht; omega
   refine zac hp zaj hc rfl fun K9 hK9 => ?_
   simp -dsimp -implicitDefEqProofs (disch := first | assumption | omega | (simp only [r_z, zah, zae, zad, zak] <;> omega) | decide) only [r_r, ↓reduceIte, Nat.reduceEqDiff, Nat.reduceAdd, D.fix, Int.reduceToNat, Nat.reduceMul, Nat.reduceBNe, Nat.reduceBEq, r_m, zbe, zbh, zbo, zbm, shD, gA, zb4, zb1, ze8]
   refine hK9 _ _ ?_
   refine zap rfl (fun ht => ?_) (fun ht => ?_)
   ·have o3 : g.op = 3 := by simp at ht; omega
    refine zac hp zaj hc rfl fun K10 hK10 => ?_
    simp -dsimp -implicitDefEqProofs (disch := first | assumption | omega | (simp only [r_z, zah, zae, zad, zak] <;> omega) | decide) only [r_r, ↓reduceIte, Nat.reduceEqDiff, Nat.reduceAdd, D.fix, Int.reduceToNat, Nat.reduceMul, Nat.reduceBNe, Nat.reduceBEq, r_m, zbe, zbh, zbo, zbm, shD, gA, zb4, zb1, ze8]
    refine zt6 (S := zbe ts μu μm) (T := zbm ts base sh fs ++ [.cells (gA g)]) (zn5 hS hx (zqb _) hy (by unfold zeo; omega) rfl jgf rfl) rfl (by first | rfl | (simp [AV.allIs, AV.allI, za3, zat, zau, okI, ltI, zao, zbb, zbe, zbh, zbo, zbm, gA]; done) | (intro o ho; simp at ho; done)) (fun t => zbv (by first | rfl | (simp [AV.allIs, AV.allI, za3, zat, zau, okI, ltI, zao, zbb, zbe, zbh, zbo, zbm, gA]; done) | (intro o ho; simp at ho; done)) t) (by first | rfl | (simp [AV.allIs, AV.allI, za3, zat, zau, okI, ltI, zao, zbb, zbe, zbh, zbo, zbm, gA]; done) | (intro o ho; simp at ho; done)) (by first | rfl | (simp [AV.allIs, AV.allI, za3, zat, zau, okI, ltI, zao, zbb, zbe, zbh, zbo, zbm, gA]; done) | (intro o ho; simp at ho; done)) (by first | rfl | (simp [AV.allIs, AV.allI, za3, zat, zau, okI, ltI, zao, zbb, zbe, zbh, zbo, zbm, gA]; done) | (intro o ho; simp at ho; done)) ?_
    rintro _ _ ⟨ts1, μu1, μm1, t1, rfl, rfl, hS1, hp1, hl1, hm1, hi1⟩
    refine ⟨rfl, ?_⟩
    simp -dsimp -implicitDefEqProofs (disch := first | assumption | omega | (simp only [r_z, zah, zae, zad, zak] <;> omega) | decide) only [r_r, ↓reduceIte, Nat.reduceEqDiff, Nat.reduceAdd, D.fix, Int.reduceToNat, Nat.reduceMul, Nat.reduceBNe, Nat.reduceBEq, r_m, zbe, zbh, zbo, zbm, shD, gA, zb4, zb1, ze8]
    refine hK10 _ _ ?_
    refine zb3 hp (τ' := frL [(4, .d (iD (num ts1 t1)))]) (H' := zbo ts1 μu1 μm1 base sh fs) ?_ ?_
    ·refine Rt.trans (Rt.gc (keep := [0,1,2,3,4,5,6]) (by decide) (by decide) (by simp [fzH, gcH])) ?_
     refine Rt.end (by repeat (first | exact zal _ | refine zai ?_ (by first | rfl | (simp [r_f, zah, zae, zad, zak]; done) | simp [r_f, zah, zae, zad, zak, *]))) ?_
     simp only [r_g, Nat.reduceAdd, ↓reduceIte, Nat.reduceEqDiff, r_m, zbe, zbh, zbo, zbm, shD, gA, zb4, zb1]; rw [zd1 hp1 hfs]
    refine za6 ?_
    refine zbs (t := 4) rfl ?_
    show ∃ _, _
    refine ⟨ts1, μu1, μm1, t1, rfl, rfl, hS1, hp1, by omega, hm1, fun a => ?_⟩
    rw [hi1 a]
    simp only [zit, o1, o2, o3, if_true, if_false]
    cases (nth fs g.a.toNat).eval a <;> simp [T.eval]
   ·have o3 : ¬ g.op = 3 := by simp at ht; omega
    refine zac hp zaj hc rfl fun K11 hK11 => ?_
    simp -dsimp -implicitDefEqProofs (disch := first | assumption | omega | (simp only [r_z, zah, zae, zad, zak] <;> omega) | decide) only [r_r, ↓reduceIte, Nat.reduceEqDiff, Nat.reduceAdd, D.fix, Int.reduceToNat, Nat.reduceMul, Nat.reduceBNe, Nat.reduceBEq, r_m, zbe, zbh, zbo, zbm, shD, gA, zb4, zb1, ze8]
    refine hK11 _ _ ?_
    refine zap rfl (fun ht => ?_) (fun ht => ?_)
    ·have o4 : g.op = 4 := by simp at ht; omega
     refine zd7 zaj hp hc mixed rfl [(0, []), (1, []), (2, []), (3, []), (4, []), (5, []), (6, []), (7, []), (8, []), (9, []), (11, []), (10, [3]), (12, []), (13, [])] [[], [0], [0, 1], [0, 1, 2], [], [], [5], [5, 6], [5, 6, 7], [], [5, 6, 7, 8, 9], [], [0, 1, 2, 3, 4, 5, 6, 7, 8, 9, 10, 11], [0, 1, 2, 3, 4, 5, 6, 7, 8, 9, 10, 11, 12]] 0 (by kernel_rfl) fun K12 hK12 => ?_
     simp -dsimp -implicitDefEqProofs (disch := first | assumption | omega | (simp only [r_z, zah, zae, zad, zak] <;> omega) | decide) only [r_r, ↓reduceIte, Nat.reduceEqDiff, Nat.reduceAdd, D.fix, Int.reduceToNat, Nat.reduceMul, Nat.reduceBNe, Nat.reduceBEq, r_w, r_m, zbe, zbh, zbo, zbm, shD, gA, zb4, zb1, ze8]
     refine zni (S := zbe ts μu μm) (T := zbm ts base sh fs ++ [.cells (gA g)]) (zn5 hS hy (zhx _) (zqb _) (by unfold zeo; omega) rfl zx2 jgf) rfl (Nat.le_of_ble_eq_true rfl) (by first | rfl | (simp [AV.allIs, AV.allI, za3, zat, zau, okI, ltI, zao, zbb, zbe, zbh, zbo, zbm, gA]; done) | (intro o ho; simp at ho; done)) (fun t => zbv (by first | rfl | (simp [AV.allIs, AV.allI, za3, zat, zau, okI, ltI, zao, zbb, zbe, zbh, zbo, zbm, gA]; done) | (intro o ho; simp at ho; done)) t) (fun t => zbv (by first | rfl | (simp [AV.allIs, AV.allI, za3, zat, zau, okI, ltI, zao, zbb, zbe, zbh, zbo, zbm, gA]; done) | (intro o ho; simp at ho; done)) t) (by first | rfl | (simp [AV.allIs, AV.allI, za3, zat, zau, okI, ltI, zao, zbb, zbe, zbh, zbo, zbm, gA]; done) | (intro o ho; simp at ho; done)) (by first | rfl | (simp [AV.allIs, AV.allI, za3, zat, zau, okI, ltI, zao, zbb, zbe, zbh, zbo, zbm, gA]; done) | (intro o ho; simp at ho; done)) (by first | rfl | (simp [AV.allIs, AV.allI, za3, zat, zau, okI, ltI, zao, zbb, zbe, zbh, zbo, zbm, gA]; done) | (intro o ho; simp at ho; done)) ?_
     rintro _ _ ⟨ts1, μu1, μm1, t1, rfl, rfl, hS1, hp1, hl1, hm1, hi1⟩
     refine ⟨rfl, ?_⟩
     simp -dsimp -implicitDefEqProofs (disch := first | assumption | omega | (simp only [r_z, zah, zae, zad, zak] <;> omega) | decide) only [r_r, ↓reduceIte, Nat.reduceEqDiff, Nat.reduceAdd, D.fix, Int.reduceToNat, Nat.reduceMul, Nat.reduceBNe, Nat.reduceBEq, r_w, r_m, zbe, zbh, zbo, zbm, shD, gA, zb4, zb1, ze8]
     refine zni (S := zbe ts1 μu1 μm1) (T := zbm ts base sh fs ++ [.cells (gA g)]) (zn5 hS1 (zcc hp1 hx) hm1 (zcc hp1 hy) (by unfold zeo; omega) (zy7 hp1 hx) rfl (zy7 hp1 hy)) rfl (Nat.le_of_ble_eq_true rfl) (by first | rfl | (simp [AV.allIs, AV.allI, za3, zat, zau, okI, ltI, zao, zbb, zbe, zbh, zbo, zbm, gA]; done) | (intro o ho; simp at ho; done)) (fun t => zbv (by first | rfl | (simp [AV.allIs, AV.allI, za3, zat, zau, okI, ltI, zao, zbb, zbe, zbh, zbo, zbm, gA]; done) | (intro o ho; simp at ho; done)) t) (fun t => zbv (by first | rfl | (simp [AV.allIs, AV.allI, za3, zat, zau, okI, ltI, zao, zbb, zbe, zbh, zbo, zbm, gA]; done) | (intro o ho; simp at ho; done)) t) (by first | rfl | (simp [AV.allIs, AV.allI, za3, zat, zau, okI, ltI, zao, zbb, zbe, zbh, zbo, zbm, gA]; done) | (intro o ho; simp at ho; done)) (by first | rfl | (simp [AV.allIs, AV.allI, za3, zat, zau, okI, ltI, zao, zbb, zbe, zbh, zbo, zbm, gA]; done) | (intro o ho; simp at ho; done)) (by first | rfl | (simp [AV.allIs, AV.allI, za3, zat, zau, okI, ltI, zao, zbb, zbe, zbh, zbo, zbm, gA]; done) | (intro o ho; simp at ho; done)) ?_
     rintro _ _ ⟨ts2, μu2, μm2, t2, rfl, rfl, hS2, hp2, hl2, hm2, hi2⟩
     refine ⟨rfl, ?_⟩
     have hpp := hp1.trans hp2
     simp -dsimp -implicitDefEqProofs (disch := first | assumption | omega | (simp only [r_z, zah, zae, zad, zak] <;> omega) | decide) only [r_r, ↓reduceIte, Nat.reduceEqDiff, Nat.reduceAdd, D.fix, Int.reduceToNat, Nat.reduceMul, Nat.reduceBNe, Nat.reduceBEq, r_w, r_m, zbe, zbh, zbo, zbm, shD, gA, zb4, zb1, ze8]
     refine hK12 _ _ ?_
     refine zb3 hp (τ' := frL [(4, .d (iD (num ts2 t2)))]) (H' := zbo ts2 μu2 μm2 base sh fs) ?_ ?_
     ·refine Rt.trans (Rt.gc (keep := [0,1,2,3,4,5,6]) (by decide) (by decide) (by simp [fzH, gcH])) ?_
      refine Rt.end (by repeat (first | exact zal _ | refine zai ?_ (by first | rfl | (simp [r_f, zah, zae, zad, zak]; done) | simp [r_f, zah, zae, zad, zak, *]))) ?_
      simp only [r_g, Nat.reduceAdd, ↓reduceIte, Nat.reduceEqDiff, r_m, zbe, zbh, zbo, zbm, shD, gA, zb4, zb1]; rw [zd1 hpp hfs]
     refine za6 ?_
     refine zbs (t := 4) rfl ?_
     show ∃ _, _
     refine ⟨ts2, μu2, μm2, t2, rfl, rfl, hS2, hpp, by omega, hm2, fun a => ?_⟩
     rw [hi2 a, hi1 a]
     simp only [zit, o1, o2, o3, o4, if_true, if_false]
     cases (nth fs g.a.toNat).eval a <;> cases (nth fs g.b.toNat).eval a <;> rfl
    ·have o4 : ¬ g.op = 4 := by simp at ht; omega
     refine zac hp zaj hc rfl fun K13 hK13 => ?_
     simp -dsimp -implicitDefEqProofs (disch := first | assumption | omega | (simp only [r_z, zah, zae, zad, zak] <;> omega) | decide) only [r_r, ↓reduceIte, Nat.reduceEqDiff, Nat.reduceAdd, D.fix, Int.reduceToNat, Nat.reduceMul, Nat.reduceBNe, Nat.reduceBEq, r_m, zbe, zbh, zbo, zbm, shD, gA, zb4, zb1, ze8]
     refine hK13 _ _ ?_
     refine zap rfl (fun ht => ?_) (fun ht => ?_)
     ·have o5 : g.op = 5 := by simp at ht; omega
      refine zac hp zaj hc rfl fun K14 hK14 => ?_
      simp -dsimp -implicitDefEqProofs (disch := first | assumption | omega | (simp only [r_z, zah, zae, zad, zak] <;> omega) | decide) only [r_r, ↓reduceIte, Nat.reduceEqDiff, Nat.reduceAdd, D.fix, Int.reduceToNat, Nat.reduceMul, Nat.reduceBNe, Nat.reduceBEq, r_m, zbe, zbh, zbo, zbm, shD, gA, zb4, zb1, ze8]
      refine zt6 (S := zbe ts μu μm) (T := zbm ts base sh fs ++ [.cells (gA g)]) (zn5 hS hx hy hz (by unfold zeo; omega) rfl rfl rfl) rfl (by first | rfl | (simp [AV.allIs, AV.allI, za3, zat, zau, okI, ltI, zao, zbb, zbe, zbh, zbo, zbm, gA]; done) | (intro o ho; simp at ho; done)) (fun t => zbv (by first | rfl | (simp [AV.allIs, AV.allI, za3, zat, zau, okI, ltI, zao, zbb, zbe, zbh, zbo, zbm, gA]; done) | (intro o ho; simp at ho; done)) t) (by first | rfl | (simp [AV.allIs, AV.allI, za3, zat, zau, okI, ltI, zao, zbb, zbe, zbh, zbo, zbm, gA]; done) | (intro o ho; simp at ho; done)) (by first | rfl | (simp [AV.allIs, AV.allI, za3, zat, zau, okI, ltI, zao, zbb, zbe, zbh, zbo, zbm, gA]; done) | (intro o ho; simp at ho; done)) (by first | rfl | (simp [AV.allIs, AV.allI, za3, zat, zau, okI, ltI, zao, zbb, zbe, zbh, zbo, zbm, gA]; done) | (intro o ho; simp at ho; done)) ?_
      rintro _ _ ⟨ts1, μu1, μm1, t1, rfl, rfl, hS1, hp1, hl1, hm1, hi1⟩
      refine ⟨rfl, ?_⟩
      simp -dsimp -implicitDefEqProofs (disch := first | assumption | omega | (simp only [r_z, zah, zae, zad, zak] <;> omega) | decide) only [r_r, ↓reduceIte, Nat.reduceEqDiff, Nat.reduceAdd, D.fix, Int.reduceToNat, Nat.reduceMul, Nat.reduceBNe, Nat.reduceBEq, r_m, zbe, zbh, zbo, zbm, shD, gA, zb4, zb1, ze8]
      refine hK14 _ _ ?_
      refine zb3 hp (τ' := frL [(4, .d (iD (num ts1 t1)))]) (H' := zbo ts1 μu1 μm1 base sh fs) ?_ ?_
      ·refine Rt.trans (Rt.gc (keep := [0,1,2,3,4,5,6]) (by decide) (by decide) (by simp [fzH, gcH])) ?_
       refine Rt.end (by repeat (first | exact zal _ | refine zai ?_ (by first | rfl | (simp [r_f, zah, zae, zad, zak]; done) | simp [r_f, zah, zae, zad, zak, *]))) ?_
       simp only [r_g, Nat.reduceAdd, ↓reduceIte, Nat.reduceEqDiff, r_m, zbe, zbh, zbo, zbm, shD, gA, zb4, zb1]; rw [zd1 hp1 hfs]
      refine za6 ?_
      refine zbs (t := 4) rfl ?_
      show ∃ _, _
      refine ⟨ts1, μu1, μm1, t1, rfl, rfl, hS1, hp1, by omega, hm1, fun a => ?_⟩
      rw [hi1 a]
      simp [zit, o5]
     ·have o5 : ¬ g.op = 5 := by simp at ht; omega
      refine zac hp zaj hc rfl fun K15 hK15 => ?_
      simp -dsimp -implicitDefEqProofs (disch := first | assumption | omega | (simp only [r_z, zah, zae, zad, zak] <;> omega) | decide) only [r_r, ↓reduceIte, Nat.reduceEqDiff, Nat.reduceAdd, D.fix, Int.reduceToNat, Nat.reduceMul, Nat.reduceBNe, Nat.reduceBEq, r_m, zbe, zbh, zbo, zbm, shD, gA, zb4, zb1, ze8]
      refine hK15 _ _ ?_
      refine zap rfl (fun ht => ?_) (fun ht => ?_)
      ·have o6 : g.op = 6 := by simp at ht; omega
       refine zd7 zaj hp hc mixed rfl [(0, []), (1, []), (2, []), (3, []), (4, []), (5, []), (6, []), (7, []), (8, []), (9, []), (10, []), (12, []), (13, []), (14, []), (15, []), (16, []), (17, []), (11, [3, 15]), (18, [3]), (19, []), (20, [])] [[], [0], [0, 1], [0, 1, 2], [], [], [5], [5, 6], [5, 6, 7], [], [], [5, 6, 7, 8, 9, 10], [], [12], [12, 13], [12, 13, 14], [], [], [5, 6, 7, 8, 9, 10, 11, 12, 13, 14, 15, 16, 17], [0, 1, 2, 3, 4, 5, 6, 7, 8, 9, 10, 11, 12, 13, 14, 15, 16, 17, 18], [0, 1, 2, 3, 4, 5, 6, 7, 8, 9, 10, 11, 12, 13, 14, 15, 16, 17, 18, 19]] 0 (by kernel_rfl) fun K16 hK16 => ?_
       simp -dsimp -implicitDefEqProofs (disch := first | assumption | omega | (simp only [r_z, zah, zae, zad, zak] <;> omega) | decide) only [r_r, ↓reduceIte, Nat.reduceEqDiff, Nat.reduceAdd, D.fix, Int.reduceToNat, Nat.reduceMul, Nat.reduceBNe, Nat.reduceBEq, r_w, r_m, zbe, zbh, zbo, zbm, shD, gA, zb4, zb1, ze8]
       refine zni (S := zbe ts μu μm) (T := zbm ts base sh fs ++ [.cells (gA g)]) (zn5 hS hy (zqb _) hz (by unfold zeo; omega) rfl jgf rfl) rfl (Nat.le_of_ble_eq_true rfl) (by first | rfl | (simp [AV.allIs, AV.allI, za3, zat, zau, okI, ltI, zao, zbb, zbe, zbh, zbo, zbm, gA]; done) | (intro o ho; simp at ho; done)) (fun t => zbv (by first | rfl | (simp [AV.allIs, AV.allI, za3, zat, zau, okI, ltI, zao, zbb, zbe, zbh, zbo, zbm, gA]; done) | (intro o ho; simp at ho; done)) t) (fun t => zbv (by first | rfl | (simp [AV.allIs, AV.allI, za3, zat, zau, okI, ltI, zao, zbb, zbe, zbh, zbo, zbm, gA]; done) | (intro o ho; simp at ho; done)) t) (by first | rfl | (simp [AV.allIs, AV.allI, za3, zat, zau, okI, ltI, zao, zbb, zbe, zbh, zbo, zbm, gA]; done) | (intro o ho; simp at ho; done)) (by first | rfl | (simp [AV.allIs, AV.allI, za3, zat, zau, okI, ltI, zao, zbb, zbe, zbh, zbo, zbm, gA]; done) | (intro o ho; simp at ho; done)) (by first | rfl | (simp [AV.allIs, AV.allI, za3, zat, zau, okI, ltI, zao, zbb, zbe, zbh, zbo, zbm, gA]; done) | (intro o ho; simp at ho; done)) ?_
       rintro _ _ ⟨ts1, μu1, μm1, t1, rfl, rfl, hS1, hp1, hl1, hm1, hi1⟩
       refine ⟨rfl, ?_⟩
       simp -dsimp -implicitDefEqProofs (disch := first | assumption | omega | (simp only [r_z, zah, zae, zad, zak] <;> omega) | decide) only [r_r, ↓reduceIte, Nat.reduceEqDiff, Nat.reduceAdd, D.fix, Int.reduceToNat, Nat.reduceMul, Nat.reduceBNe, Nat.reduceBEq, r_w, r_m, zbe, zbh, zbo, zbm, shD, gA, zb4, zb1, ze8]
       refine zni (S := zbe ts1 μu1 μm1) (T := zbm ts base sh fs ++ [.cells (gA g)]) (zn5 hS1 (zcc hp1 hy) (zcc hp1 hz) (zhx _) (by unfold zeo; omega) (zy7 hp1 hy) (zy7 hp1 hz) zx2) rfl (Nat.le_of_ble_eq_true rfl) (by first | rfl | (simp [AV.allIs, AV.allI, za3, zat, zau, okI, ltI, zao, zbb, zbe, zbh, zbo, zbm, gA]; done) | (intro o ho; simp at ho; done)) (fun t => zbv (by first | rfl | (simp [AV.allIs, AV.allI, za3, zat, zau, okI, ltI, zao, zbb, zbe, zbh, zbo, zbm, gA]; done) | (intro o ho; simp at ho; done)) t) (fun t => zbv (by first | rfl | (simp [AV.allIs, AV.allI, za3, zat, zau, okI, ltI, zao, zbb, zbe, zbh, zbo, zbm, gA]; done) | (intro o ho; simp at ho; done)) t) (by first | rfl | (simp [AV.allIs, AV.allI, za3, zat, zau, okI, ltI, zao, zbb, zbe, zbh, zbo, zbm, gA]; done) | (intro o ho; simp at ho; done)) (by first | rfl | (simp [AV.allIs, AV.allI, za3, zat, zau, okI, ltI, zao, zbb, zbe, zbh, zbo, zbm, gA]; done) | (intro o ho; simp at ho; done)) (by first | rfl | (simp [AV.allIs, AV.allI, za3, zat, zau, okI, ltI, zao, zbb, zbe, zbh, zbo, zbm, gA]; done) | (intro o ho; simp at ho; done)) ?_
       rintro _ _ ⟨ts2, μu2, μm2, t2, rfl, rfl, hS2, hp2, hl2, hm2, hi2⟩
       refine ⟨rfl, ?_⟩
       have hpp := hp1.trans hp2
       simp -dsimp -implicitDefEqProofs (disch := first | assumption | omega | (simp only [r_z, zah, zae, zad, zak] <;> omega) | decide) only [r_r, ↓reduceIte, Nat.reduceEqDiff, Nat.reduceAdd, D.fix, Int.reduceToNat, Nat.reduceMul, Nat.reduceBNe, Nat.reduceBEq, r_w, r_m, zbe, zbh, zbo, zbm, shD, gA, zb4, zb1, ze8]
       refine zni (S := zbe ts2 μu2 μm2) (T := zbm ts base sh fs ++ [.cells (gA g)]) (zn5 hS2 (zcc hpp hx) (zcc hp2 hm1) hm2 (by unfold zeo; omega) (zy7 hpp hx) (zy7 hp2 hm1) rfl) rfl (Nat.le_of_ble_eq_true rfl) (by first | rfl | (simp [AV.allIs, AV.allI, za3, zat, zau, okI, ltI, zao, zbb, zbe, zbh, zbo, zbm, gA]; done) | (intro o ho; simp at ho; done)) (fun t => zbv (by first | rfl | (simp [AV.allIs, AV.allI, za3, zat, zau, okI, ltI, zao, zbb, zbe, zbh, zbo, zbm, gA]; done) | (intro o ho; simp at ho; done)) t) (fun t => zbv (by first | rfl | (simp [AV.allIs, AV.allI, za3, zat, zau, okI, ltI, zao, zbb, zbe, zbh, zbo, zbm, gA]; done) | (intro o ho; simp at ho; done)) t) (by first | rfl | (simp [AV.allIs, AV.allI, za3, zat, zau, okI, ltI, zao, zbb, zbe, zbh, zbo, zbm, gA]; done) | (intro o ho; simp at ho; done)) (by first | rfl | (simp [AV.allIs, AV.allI, za3, zat, zau, okI, ltI, zao, zbb, zbe, zbh, zbo, zbm, gA]; done) | (intro o ho; simp at ho; done)) (by first | rfl | (simp [AV.allIs, AV.allI, za3, zat, zau, okI, ltI, zao, zbb, zbe, zbh, zbo, zbm, gA]; done) | (intro o ho; simp at ho; done)) ?_
       rintro _ _ ⟨ts3, μu3, μm3, t3, rfl, rfl, hS3, hp3, hl3, hm3, hi3⟩
       refine ⟨rfl, ?_⟩
       have hpq := hpp.trans hp3
       simp -dsimp -implicitDefEqProofs (disch := first | assumption | omega | (simp only [r_z, zah, zae, zad, zak] <;> omega) | decide) only [r_r, ↓reduceIte, Nat.reduceEqDiff, Nat.reduceAdd, D.fix, Int.reduceToNat, Nat.reduceMul, Nat.reduceBNe, Nat.reduceBEq, r_w, r_m, zbe, zbh, zbo, zbm, shD, gA, zb4, zb1, ze8]
       refine hK16 _ _ ?_
       refine zb3 hp (τ' := frL [(4, .d (iD (num ts3 t3)))]) (H' := zbo ts3 μu3 μm3 base sh fs) ?_ ?_
       ·refine Rt.trans (Rt.gc (keep := [0,1,2,3,4,5,6]) (by decide) (by decide) (by simp [fzH, gcH])) ?_
        refine Rt.end (by repeat (first | exact zal _ | refine zai ?_ (by first | rfl | (simp [r_f, zah, zae, zad, zak]; done) | simp [r_f, zah, zae, zad, zak, *]))) ?_
        simp only [r_g, Nat.reduceAdd, ↓reduceIte, Nat.reduceEqDiff, r_m, zbe, zbh, zbo, zbm, shD, gA, zb4, zb1]; rw [zd1 hpq hfs]
       refine za6 ?_
       refine zbs (t := 4) rfl ?_
       show ∃ _, _
       refine ⟨ts3, μu3, μm3, t3, rfl, rfl, hS3, hpq, by omega, hm3, fun a => ?_⟩
       rw [hi3 a, hi2 a, hi1 a]
       simp only [zit, o1, o2, o3, o4, o5, o6, if_true, if_false]
       cases (nth fs g.a.toNat).eval a <;> cases (nth fs g.b.toNat).eval a <;> cases (nth fs g.c.toNat).eval a <;> rfl
      ·have o6 : ¬ g.op = 6 := by simp at ht; omega
       refine za0 (hK3 _ _ ?_)
       refine zac hp zaj hc rfl fun K17 hK17 => ?_
       simp -dsimp -implicitDefEqProofs (disch := first | assumption | omega | (simp only [r_z, zah, zae, zad, zak] <;> omega) | decide) only [r_r, ↓reduceIte, Nat.reduceEqDiff, Nat.reduceAdd, D.fix, Int.reduceToNat, Nat.reduceMul, Nat.reduceBNe, Nat.reduceBEq, r_m, zbe, zbh, zbo, zbm, shD, gA, zb4, zb1, ze8]
       refine zt6 (S := zbo ts μu μm base sh fs) (T := [.cells (gA g)]) (jky V base sh fs ts μu μm g hS hsh hV hfs hfl hg' hlen') rfl (by first | rfl | (simp [AV.allIs, AV.allI, za3, zat, zau, okI, ltI, zao, zbb, zbe, zbh, zbo, zbm, gA]; done) | (intro o ho; simp at ho; done)) (fun t => zbv (by first | rfl | (simp [AV.allIs, AV.allI, za3, zat, zau, okI, ltI, zao, zbb, zbe, zbh, zbo, zbm, gA]; done) | (intro o ho; simp at ho; done)) t) (by first | rfl | (simp [AV.allIs, AV.allI, za3, zat, zau, okI, ltI, zao, zbb, zbe, zbh, zbo, zbm, gA]; done) | (intro o ho; simp at ho; done)) (by first | rfl | (simp [AV.allIs, AV.allI, za3, zat, zau, okI, ltI, zao, zbb, zbe, zbh, zbo, zbm, gA]; done) | (intro o ho; simp at ho; done)) (by first | rfl | (simp [AV.allIs, AV.allI, za3, zat, zau, okI, ltI, zao, zbb, zbe, zbh, zbo, zbm, gA]; done) | (intro o ho; simp at ho; done)) ?_
       rintro _ _ ⟨ts1, μu1, μm1, t1, rfl, rfl, hS1, hp1, hl1, hm1, hi1⟩
       refine ⟨rfl, ?_⟩
       simp -dsimp -implicitDefEqProofs (disch := first | assumption | omega | (simp only [r_z, zah, zae, zad, zak] <;> omega) | decide) only [r_r, ↓reduceIte, Nat.reduceEqDiff, Nat.reduceAdd, D.fix, Int.reduceToNat, Nat.reduceMul, Nat.reduceBNe, Nat.reduceBEq, r_m, zbe, zbh, zbo, zbm, shD, gA, zb4, zb1, ze8]
       refine hK17 _ _ ?_
       refine zb3 hp (τ' := frL [(4, .d (iD (num ts1 t1)))]) (H' := zbo ts1 μu1 μm1 base sh fs) ?_ ?_
       ·refine Rt.trans (Rt.gc (keep := [0,1,2,3,4,5,6]) (by decide) (by decide) (by simp [fzH, gcH])) ?_
        refine Rt.end (by repeat (first | exact zal _ | refine zai ?_ (by first | rfl | (simp [r_f, zah, zae, zad, zak]; done) | simp [r_f, zah, zae, zad, zak, *]))) ?_
        first | rfl | (simp only [r_g, Nat.reduceAdd, ↓reduceIte, Nat.reduceEqDiff, r_m, zbe, zbh, zbo, zbm, shD, gA, zb4, zb1]; first | done | rfl)
       refine za6 ?_
       refine zbs (t := 4) rfl ?_
       show ∃ _, _
       refine ⟨ts1, μu1, μm1, t1, rfl, rfl, hS1, hp1, by omega, hm1, fun a => ?_⟩
       rw [hi1 a]
       simp only [zit, o1, o2, o3, o4, o5, o6, if_false]
end Go.Proofs.Ytignimmnnccblaa
