/- The builder's gate. -/
import Derived.Test.YtignimmnnccblaaQr
import Derived.Test.YtignimmnnccblaaCd
set_option linter.unusedVariables false
set_option linter.unusedSimpArgs false
set_option maxRecDepth 100000
set_option maxHeartbeats 4000000
namespace Go.Proofs.Ytignimmnnccblaa
open Go Go.RowKit
theorem ze8 : (((((type_of% @zh1) ∧ ((type_of% @zh2) ∧ (type_of% @zjc))) ∧ ((type_of% @zjd) ∧ ((type_of% @zoy) ∧ (type_of% @zoz)))) ∧ (((type_of% @zde) ∧ ((type_of% @zdf) ∧ (type_of% @zdg))) ∧ (((type_of% @zfe) ∧ (type_of% @zff)) ∧ ((type_of% @zex) ∧ (type_of% @zey))))) ∧ ((((type_of% @zfg) ∧ ((type_of% @zfh) ∧ (type_of% @zfi))) ∧ ((type_of% @zfj) ∧ ((type_of% @zgw) ∧ (type_of% @zgx)))) ∧ (((type_of% @zfa) ∧ ((type_of% @zja) ∧ (type_of% @zjb))) ∧ (((type_of% @zhs) ∧ (type_of% @zht)) ∧ ((type_of% @zwx) ∧ (type_of% @zwy)))))) := ⟨⟨⟨⟨@zh1, ⟨@zh2, @zjc⟩⟩, ⟨@zjd, ⟨@zoy, @zoz⟩⟩⟩, ⟨⟨@zde, ⟨@zdf, @zdg⟩⟩, ⟨⟨@zfe, @zff⟩, ⟨@zex, @zey⟩⟩⟩⟩, ⟨⟨⟨@zfg, ⟨@zfh, @zfi⟩⟩, ⟨@zfj, ⟨@zgw, @zgx⟩⟩⟩, ⟨⟨@zfa, ⟨@zja, @zjb⟩⟩, ⟨⟨@zhs, @zht⟩, ⟨@zwx, @zwy⟩⟩⟩⟩⟩
def ziw (base : Nat) (sh : Sh) (fs : List T) (g : Gate) (a : Nat → Bool) : Bool :=
 if g.op = 1 then !(nth fs g.a.toNat).eval a
 else if g.op = 2 then (nth fs g.a.toNat).eval a && (nth fs g.b.toNat).eval a
 else if g.op = 3 then (nth fs g.a.toNat).eval a || (nth fs g.b.toNat).eval a
 else if g.op = 4 then (nth fs g.a.toNat).eval a != (nth fs g.b.toNat).eval a
 else if g.op = 5 then if (nth fs g.a.toNat).eval a then (nth fs g.b.toNat).eval a else (nth fs g.c.toNat).eval a
 else if g.op = 6 then (nth fs g.a.toNat).eval a && ((nth fs g.b.toNat).eval a || (nth fs g.c.toNat).eval a) || (nth fs g.b.toNat).eval a && (nth fs g.c.toNat).eval a
 else zsy base sh g.n.toNat (low fs [g.a, g.b, g.c] a 3) a
theorem zxz {ts : List T} : (0 : Int) = (num ts (.leaf false) : Nat) := by rw [zjk]; rfl
theorem jgh {ts : List T} : (1 : Int) = (num ts (.leaf true) : Nat) := by rw [zp4]; rfl
theorem zzb {ts us : List T} (hp : ts <+: us) {t : T} (h : t ∈ zbq ts) : ((num ts t : Nat) : Int) = (num us t : Nat) := by rw [zdr hp h]
theorem jq6 (V base : Nat) (sh : Sh) (fs : List T) (ts : List T) (μu μm : Mp) (g : Gate) (hS : MS V ts μu μm) (hsh : ShOk sh) (hV : zdm base sh ≤ V) (hfs : ∀ t ∈ fs, t ∈ zbq ts) (hfl : fs.length ≤ 1000000) (hg : GOp fs.length g) (hlen : ts.length + 32 * 2 ^ V ≤ zel) : ScS Try.prog [0, 1, 2, 4, 5, 6] 67 [.op 4 0, .agg (gA g)] (zbl ts μu μm base sh fs) (jud V (8 + 7 * 2 ^ V) ts base sh fs (ziw base sh fs g)) := by
 refine zhd (fn := Try.f67) (by kernel_rfl) Try.func67 rfl (Nat.le_of_ble_eq_true rfl) fun c hc hp => ?_
 refine jb0 ?_
 have hpos : 0 < 2 ^ V := Nat.two_pow_pos V
 have hlen' := hlen
 unfold zel at hlen
 have hV9 := hS.V0
 have hg' := hg
 obtain ⟨a0, a1, b0, b1, c0, c1, n0, n1⟩ := hg
 have hx : nth fs g.a.toNat ∈ zbq ts := hfs _ (zb3 (by omega))
 have hy : nth fs g.b.toNat ∈ zbq ts := hfs _ (zb3 (by omega))
 have hz : nth fs g.c.toNat ∈ zbq ts := hfs _ (zb3 (by omega))
 refine zac hp zaj hc rfl fun K1 hK1 => ?_
 simp -dsimp -implicitDefEqProofs (disch := first | assumption | omega | (simp only [r_z, zai, zad, zag, zal] <;> omega) | decide) only [r_r, ↓reduceIte, Nat.reduceEqDiff, Nat.reduceAdd, D.fix, Int.reduceToNat, Nat.reduceMul, Nat.reduceBNe, Nat.reduceBEq, r_m, zbe, zbh, zbl, zbk, shD, gA, zb1, zbw, ze8]
 refine hK1 _ _ ?_
 refine zbn zaj hc mixed rfl (q := 0) (by kernel_rfl) (by kernel_rfl) fun K2 hK2 => ?_
 simp -dsimp -implicitDefEqProofs (disch := first | assumption | omega | (simp only [r_z, zai, zad, zag, zal] <;> omega) | decide) only [r_r, ↓reduceIte, Nat.reduceEqDiff, Nat.reduceAdd, D.fix, Int.reduceToNat, Nat.reduceMul, Nat.reduceBNe, Nat.reduceBEq, r_m, zbe, zbh, zbl, zbk, shD, gA, zb1, zbw, ze8]
 refine hK2 _ _ ?_
 refine zam fun K3 hK3 => ?_
 refine zb2 hp (τ' := frL [(0, .op 4 0), (3, .op 7 0), (5, .d (iD (num ts (nth fs g.a.toNat)))), (6, .d (iD (num ts (nth fs g.b.toNat)))), (7, .d (iD (num ts (nth fs g.c.toNat))))]) (H' := zbl ts μu μm base sh fs ++ [.cells (gA g)]) ?_ ?_
 ·refine Rt.trans (Rt.gc (keep := [0,1,2,3,4,5,6,7]) (by decide) (by decide) (by simp [fzH, gcH])) ?_
  refine Rt.end (by repeat (first | exact zak _ | refine zah ?_ (by first | rfl | (simp [r_f, zai, zad, zag, zal]; done) | simp [r_f, zai, zad, zag, zal, *]))) ?_
  first | rfl | (simp only [r_g, Nat.reduceAdd, ↓reduceIte, Nat.reduceEqDiff, r_m, zbe, zbh, zbl, zbk, shD, gA, zb1, zbw]; first | done | rfl)
 refine zac hp zaj hc rfl fun K4 hK4 => ?_
 simp -dsimp -implicitDefEqProofs (disch := first | assumption | omega | (simp only [r_z, zai, zad, zag, zal] <;> omega) | decide) only [r_r, ↓reduceIte, Nat.reduceEqDiff, Nat.reduceAdd, D.fix, Int.reduceToNat, Nat.reduceMul, Nat.reduceBNe, Nat.reduceBEq, r_m, zbe, zbh, zbl, zbk, shD, gA, zb1, zbw, ze8]
 refine hK4 _ _ ?_
 refine zaz ?_
 refine zac hp zaj hc rfl fun K5 hK5 => ?_
 simp -dsimp -implicitDefEqProofs (disch := first | assumption | omega | (simp only [r_z, zai, zad, zag, zal] <;> omega) | decide) only [r_r, ↓reduceIte, Nat.reduceEqDiff, Nat.reduceAdd, D.fix, Int.reduceToNat, Nat.reduceMul, Nat.reduceBNe, Nat.reduceBEq, r_m, zbe, zbh, zbl, zbk, shD, gA, zb1, zbw, ze8]
 refine hK5 _ _ ?_
 refine zaq rfl (fun ht => ?_) (fun ht => ?_)
 ·have o1 : g.op = 1 := by simp at ht; omega
  refine zac hp zaj hc rfl fun K6 hK6 => ?_
  simp -dsimp -implicitDefEqProofs (disch := first | assumption | omega | (simp only [r_z, zai, zad, zag, zal] <;> omega) | decide) only [r_r, ↓reduceIte, Nat.reduceEqDiff, Nat.reduceAdd, D.fix, Int.reduceToNat, Nat.reduceMul, Nat.reduceBNe, Nat.reduceBEq, r_m, zbe, zbh, zbl, zbk, shD, gA, zb1, zbw, ze8]
  refine ztx (S := zbe ts μu μm) (T := zbk ts base sh fs ++ [.cells (gA g)]) (zn2 hS hx (zhy _) (zp5 _) (by unfold zel; omega) rfl zxz jgh) rfl (by first | rfl | (simp [AV.allIs, AV.allI, za1, zat, zau, okI, ltI, zao, zbb, zbe, zbh, zbl, zbk, gA]; done) | (intro o ho; simp at ho; done)) (fun t => zbr (by first | rfl | (simp [AV.allIs, AV.allI, za1, zat, zau, okI, ltI, zao, zbb, zbe, zbh, zbl, zbk, gA]; done) | (intro o ho; simp at ho; done)) t) (by first | rfl | (simp [AV.allIs, AV.allI, za1, zat, zau, okI, ltI, zao, zbb, zbe, zbh, zbl, zbk, gA]; done) | (intro o ho; simp at ho; done)) (by first | rfl | (simp [AV.allIs, AV.allI, za1, zat, zau, okI, ltI, zao, zbb, zbe, zbh, zbl, zbk, gA]; done) | (intro o ho; simp at ho; done)) (by first | rfl | (simp [AV.allIs, AV.allI, za1, zat, zau, okI, ltI, zao, zbb, zbe, zbh, zbl, zbk, gA]; done) | (intro o ho; simp at ho; done)) ?_
  rintro _ _ ⟨ts1, μu1, μm1, t1, rfl, rfl, hS1, hp1, hl1, hm1, hi1⟩
  refine ⟨rfl, ?_⟩
  simp -dsimp -implicitDefEqProofs (disch := first | assumption | omega | (simp only [r_z, zai, zad, zag, zal] <;> omega) | decide) only [r_r, ↓reduceIte, Nat.reduceEqDiff, Nat.reduceAdd, D.fix, Int.reduceToNat, Nat.reduceMul, Nat.reduceBNe, Nat.reduceBEq, r_m, zbe, zbh, zbl, zbk, shD, gA, zb1, zbw, ze8]
  refine hK6 _ _ ?_
  refine zb2 hp (τ' := frL [(4, .d (iD (num ts1 t1)))]) (H' := zbl ts1 μu1 μm1 base sh fs) ?_ ?_
  ·refine Rt.trans (Rt.gc (keep := [0,1,2,3,4,5,6]) (by decide) (by decide) (by simp [fzH, gcH])) ?_
   refine Rt.end (by repeat (first | exact zak _ | refine zah ?_ (by first | rfl | (simp [r_f, zai, zad, zag, zal]; done) | simp [r_f, zai, zad, zag, zal, *]))) ?_
   simp only [r_g, Nat.reduceAdd, ↓reduceIte, Nat.reduceEqDiff, r_m, zbe, zbh, zbl, zbk, shD, gA, zb1, zbw]; rw [zdz hp1 hfs]
  refine za4 ?_
  refine zbp (t := 4) rfl ?_
  show ∃ _, _
  refine ⟨ts1, μu1, μm1, t1, rfl, rfl, hS1, hp1, by omega, hm1, fun a => ?_⟩
  rw [hi1 a]
  simp only [ziw, o1, if_true]
  cases (nth fs g.a.toNat).eval a <;> rfl
 ·have o1 : ¬ g.op = 1 := by simp at ht; omega
  refine zac hp zaj hc rfl fun K7 hK7 => ?_
  simp -dsimp -implicitDefEqProofs (disch := first | assumption | omega | (simp only [r_z, zai, zad, zag, zal] <;> omega) | decide) only [r_r, ↓reduceIte, Nat.reduceEqDiff, Nat.reduceAdd, D.fix, Int.reduceToNat, Nat.reduceMul, Nat.reduceBNe, Nat.reduceBEq, r_m, zbe, zbh, zbl, zbk, shD, gA, zb1, zbw, ze8]
  refine hK7 _ _ ?_
  refine zaq rfl (fun ht => ?_) (fun ht => ?_)
  ·have o2 : g.op = 2 := by simp at ht; omega
   refine zac hp zaj hc rfl fun K8 hK8 => ?_
   simp -dsimp -implicitDefEqProofs (disch := first | assumption | omega | (simp only [r_z, zai, zad, zag, zal] <;> omega) | decide) only [r_r, ↓reduceIte, Nat.reduceEqDiff, Nat.reduceAdd, D.fix, Int.reduceToNat, Nat.reduceMul, Nat.reduceBNe, Nat.reduceBEq, r_m, zbe, zbh, zbl, zbk, shD, gA, zb1, zbw, ze8]
   refine ztx (S := zbe ts μu μm) (T := zbk ts base sh fs ++ [.cells (gA g)]) (zn2 hS hx hy (zhy _) (by unfold zel; omega) rfl rfl zxz) rfl (by first | rfl | (simp [AV.allIs, AV.allI, za1, zat, zau, okI, ltI, zao, zbb, zbe, zbh, zbl, zbk, gA]; done) | (intro o ho; simp at ho; done)) (fun t => zbr (by first | rfl | (simp [AV.allIs, AV.allI, za1, zat, zau, okI, ltI, zao, zbb, zbe, zbh, zbl, zbk, gA]; done) | (intro o ho; simp at ho; done)) t) (by first | rfl | (simp [AV.allIs, AV.allI, za1, zat, zau, okI, ltI, zao, zbb, zbe, zbh, zbl, zbk, gA]; done) | (intro o ho; simp at ho; done)) (by first | rfl | (simp [AV.allIs, AV.allI, za1, zat, zau, okI, ltI, zao, zbb, zbe, zbh, zbl, zbk, gA]; done) | (intro o ho; simp at ho; done)) (by first | rfl | (simp [AV.allIs, AV.allI, za1, zat, zau, okI, ltI, zao, zbb, zbe, zbh, zbl, zbk, gA]; done) | (intro o ho; simp at ho; done)) ?_
   rintro _ _ ⟨ts1, μu1, μm1, t1, rfl, rfl, hS1, hp1, hl1, hm1, hi1⟩
   refine ⟨rfl, ?_⟩
   simp -dsimp -implicitDefEqProofs (disch := first | assumption | omega | (simp only [r_z, zai, zad, zag, zal] <;> omega) | decide) only [r_r, ↓reduceIte, Nat.reduceEqDiff, Nat.reduceAdd, D.fix, Int.reduceToNat, Nat.reduceMul, Nat.reduceBNe, Nat.reduceBEq, r_m, zbe, zbh, zbl, zbk, shD, gA, zb1, zbw, ze8]
   refine hK8 _ _ ?_
   refine zb2 hp (τ' := frL [(4, .d (iD (num ts1 t1)))]) (H' := zbl ts1 μu1 μm1 base sh fs) ?_ ?_
   ·refine Rt.trans (Rt.gc (keep := [0,1,2,3,4,5,6]) (by decide) (by decide) (by simp [fzH, gcH])) ?_
    refine Rt.end (by repeat (first | exact zak _ | refine zah ?_ (by first | rfl | (simp [r_f, zai, zad, zag, zal]; done) | simp [r_f, zai, zad, zag, zal, *]))) ?_
    simp only [r_g, Nat.reduceAdd, ↓reduceIte, Nat.reduceEqDiff, r_m, zbe, zbh, zbl, zbk, shD, gA, zb1, zbw]; rw [zdz hp1 hfs]
   refine za4 ?_
   refine zbp (t := 4) rfl ?_
   show ∃ _, _
   refine ⟨ts1, μu1, μm1, t1, rfl, rfl, hS1, hp1, by omega, hm1, fun a => ?_⟩
   rw [hi1 a]
   simp only [ziw, o1, o2, if_true, if_false]
   cases (nth fs g.a.toNat).eval a <;> simp [T.eval]
  ·have o2 : ¬ g.op = 2 := by simp at ht; omega
   refine zac hp zaj hc rfl fun K9 hK9 => ?_
   simp -dsimp -implicitDefEqProofs (disch := first | assumption | omega | (simp only [r_z, zai, zad, zag, zal] <;> omega) | decide) only [r_r, ↓reduceIte, Nat.reduceEqDiff, Nat.reduceAdd, D.fix, Int.reduceToNat, Nat.reduceMul, Nat.reduceBNe, Nat.reduceBEq, r_m, zbe, zbh, zbl, zbk, shD, gA, zb1, zbw, ze8]
   refine hK9 _ _ ?_
   refine zaq rfl (fun ht => ?_) (fun ht => ?_)
   ·have o3 : g.op = 3 := by simp at ht; omega
    refine zac hp zaj hc rfl fun K10 hK10 => ?_
    simp -dsimp -implicitDefEqProofs (disch := first | assumption | omega | (simp only [r_z, zai, zad, zag, zal] <;> omega) | decide) only [r_r, ↓reduceIte, Nat.reduceEqDiff, Nat.reduceAdd, D.fix, Int.reduceToNat, Nat.reduceMul, Nat.reduceBNe, Nat.reduceBEq, r_m, zbe, zbh, zbl, zbk, shD, gA, zb1, zbw, ze8]
    refine ztx (S := zbe ts μu μm) (T := zbk ts base sh fs ++ [.cells (gA g)]) (zn2 hS hx (zp5 _) hy (by unfold zel; omega) rfl jgh rfl) rfl (by first | rfl | (simp [AV.allIs, AV.allI, za1, zat, zau, okI, ltI, zao, zbb, zbe, zbh, zbl, zbk, gA]; done) | (intro o ho; simp at ho; done)) (fun t => zbr (by first | rfl | (simp [AV.allIs, AV.allI, za1, zat, zau, okI, ltI, zao, zbb, zbe, zbh, zbl, zbk, gA]; done) | (intro o ho; simp at ho; done)) t) (by first | rfl | (simp [AV.allIs, AV.allI, za1, zat, zau, okI, ltI, zao, zbb, zbe, zbh, zbl, zbk, gA]; done) | (intro o ho; simp at ho; done)) (by first | rfl | (simp [AV.allIs, AV.allI, za1, zat, zau, okI, ltI, zao, zbb, zbe, zbh, zbl, zbk, gA]; done) | (intro o ho; simp at ho; done)) (by first | rfl | (simp [AV.allIs, AV.allI, za1, zat, zau, okI, ltI, zao, zbb, zbe, zbh, zbl, zbk, gA]; done) | (intro o ho; simp at ho; done)) ?_
    rintro _ _ ⟨ts1, μu1, μm1, t1, rfl, rfl, hS1, hp1, hl1, hm1, hi1⟩
    refine ⟨rfl, ?_⟩
    simp -dsimp -implicitDefEqProofs (disch := first | assumption | omega | (simp only [r_z, zai, zad, zag, zal] <;> omega) | decide) only [r_r, ↓reduceIte, Nat.reduceEqDiff, Nat.reduceAdd, D.fix, Int.reduceToNat, Nat.reduceMul, Nat.reduceBNe, Nat.reduceBEq, r_m, zbe, zbh, zbl, zbk, shD, gA, zb1, zbw, ze8]
    refine hK10 _ _ ?_
    refine zb2 hp (τ' := frL [(4, .d (iD (num ts1 t1)))]) (H' := zbl ts1 μu1 μm1 base sh fs) ?_ ?_
    ·refine Rt.trans (Rt.gc (keep := [0,1,2,3,4,5,6]) (by decide) (by decide) (by simp [fzH, gcH])) ?_
     refine Rt.end (by repeat (first | exact zak _ | refine zah ?_ (by first | rfl | (simp [r_f, zai, zad, zag, zal]; done) | simp [r_f, zai, zad, zag, zal, *]))) ?_
     simp only [r_g, Nat.reduceAdd, ↓reduceIte, Nat.reduceEqDiff, r_m, zbe, zbh, zbl, zbk, shD, gA, zb1, zbw]; rw [zdz hp1 hfs]
    refine za4 ?_
    refine zbp (t := 4) rfl ?_
    show ∃ _, _
    refine ⟨ts1, μu1, μm1, t1, rfl, rfl, hS1, hp1, by omega, hm1, fun a => ?_⟩
    rw [hi1 a]
    simp only [ziw, o1, o2, o3, if_true, if_false]
    cases (nth fs g.a.toNat).eval a <;> simp [T.eval]
   ·have o3 : ¬ g.op = 3 := by simp at ht; omega
    refine zac hp zaj hc rfl fun K11 hK11 => ?_
    simp -dsimp -implicitDefEqProofs (disch := first | assumption | omega | (simp only [r_z, zai, zad, zag, zal] <;> omega) | decide) only [r_r, ↓reduceIte, Nat.reduceEqDiff, Nat.reduceAdd, D.fix, Int.reduceToNat, Nat.reduceMul, Nat.reduceBNe, Nat.reduceBEq, r_m, zbe, zbh, zbl, zbk, shD, gA, zb1, zbw, ze8]
    refine hK11 _ _ ?_
    refine zaq rfl (fun ht => ?_) (fun ht => ?_)
    ·have o4 : g.op = 4 := by simp at ht; omega
     refine zd5 zaj hp hc mixed rfl [(0, []), (1, []), (2, []), (3, []), (4, []), (5, []), (6, []), (7, []), (8, []), (9, []), (11, []), (10, [3]), (12, []), (13, [])] [[], [0], [0, 1], [0, 1, 2], [], [], [5], [5, 6], [5, 6, 7], [], [5, 6, 7, 8, 9], [], [0, 1, 2, 3, 4, 5, 6, 7, 8, 9, 10, 11], [0, 1, 2, 3, 4, 5, 6, 7, 8, 9, 10, 11, 12]] 0 (by kernel_rfl) fun K12 hK12 => ?_
     simp -dsimp -implicitDefEqProofs (disch := first | assumption | omega | (simp only [r_z, zai, zad, zag, zal] <;> omega) | decide) only [r_r, ↓reduceIte, Nat.reduceEqDiff, Nat.reduceAdd, D.fix, Int.reduceToNat, Nat.reduceMul, Nat.reduceBNe, Nat.reduceBEq, r_w, r_m, zbe, zbh, zbl, zbk, shD, gA, zb1, zbw, ze8]
     refine znh (S := zbe ts μu μm) (T := zbk ts base sh fs ++ [.cells (gA g)]) (zn2 hS hy (zhy _) (zp5 _) (by unfold zel; omega) rfl zxz jgh) rfl (Nat.le_of_ble_eq_true rfl) (by first | rfl | (simp [AV.allIs, AV.allI, za1, zat, zau, okI, ltI, zao, zbb, zbe, zbh, zbl, zbk, gA]; done) | (intro o ho; simp at ho; done)) (fun t => zbr (by first | rfl | (simp [AV.allIs, AV.allI, za1, zat, zau, okI, ltI, zao, zbb, zbe, zbh, zbl, zbk, gA]; done) | (intro o ho; simp at ho; done)) t) (fun t => zbr (by first | rfl | (simp [AV.allIs, AV.allI, za1, zat, zau, okI, ltI, zao, zbb, zbe, zbh, zbl, zbk, gA]; done) | (intro o ho; simp at ho; done)) t) (by first | rfl | (simp [AV.allIs, AV.allI, za1, zat, zau, okI, ltI, zao, zbb, zbe, zbh, zbl, zbk, gA]; done) | (intro o ho; simp at ho; done)) (by first | rfl | (simp [AV.allIs, AV.allI, za1, zat, zau, okI, ltI, zao, zbb, zbe, zbh, zbl, zbk, gA]; done) | (intro o ho; simp at ho; done)) (by first | rfl | (simp [AV.allIs, AV.allI, za1, zat, zau, okI, ltI, zao, zbb, zbe, zbh, zbl, zbk, gA]; done) | (intro o ho; simp at ho; done)) ?_
     rintro _ _ ⟨ts1, μu1, μm1, t1, rfl, rfl, hS1, hp1, hl1, hm1, hi1⟩
     refine ⟨rfl, ?_⟩
     simp -dsimp -implicitDefEqProofs (disch := first | assumption | omega | (simp only [r_z, zai, zad, zag, zal] <;> omega) | decide) only [r_r, ↓reduceIte, Nat.reduceEqDiff, Nat.reduceAdd, D.fix, Int.reduceToNat, Nat.reduceMul, Nat.reduceBNe, Nat.reduceBEq, r_w, r_m, zbe, zbh, zbl, zbk, shD, gA, zb1, zbw, ze8]
     refine znh (S := zbe ts1 μu1 μm1) (T := zbk ts base sh fs ++ [.cells (gA g)]) (zn2 hS1 (zcb hp1 hx) hm1 (zcb hp1 hy) (by unfold zel; omega) (zzb hp1 hx) rfl (zzb hp1 hy)) rfl (Nat.le_of_ble_eq_true rfl) (by first | rfl | (simp [AV.allIs, AV.allI, za1, zat, zau, okI, ltI, zao, zbb, zbe, zbh, zbl, zbk, gA]; done) | (intro o ho; simp at ho; done)) (fun t => zbr (by first | rfl | (simp [AV.allIs, AV.allI, za1, zat, zau, okI, ltI, zao, zbb, zbe, zbh, zbl, zbk, gA]; done) | (intro o ho; simp at ho; done)) t) (fun t => zbr (by first | rfl | (simp [AV.allIs, AV.allI, za1, zat, zau, okI, ltI, zao, zbb, zbe, zbh, zbl, zbk, gA]; done) | (intro o ho; simp at ho; done)) t) (by first | rfl | (simp [AV.allIs, AV.allI, za1, zat, zau, okI, ltI, zao, zbb, zbe, zbh, zbl, zbk, gA]; done) | (intro o ho; simp at ho; done)) (by first | rfl | (simp [AV.allIs, AV.allI, za1, zat, zau, okI, ltI, zao, zbb, zbe, zbh, zbl, zbk, gA]; done) | (intro o ho; simp at ho; done)) (by first | rfl | (simp [AV.allIs, AV.allI, za1, zat, zau, okI, ltI, zao, zbb, zbe, zbh, zbl, zbk, gA]; done) | (intro o ho; simp at ho; done)) ?_
     rintro _ _ ⟨ts2, μu2, μm2, t2, rfl, rfl, hS2, hp2, hl2, hm2, hi2⟩
     refine ⟨rfl, ?_⟩
     have hpp := hp1.trans hp2
     simp -dsimp -implicitDefEqProofs (disch := first | assumption | omega | (simp only [r_z, zai, zad, zag, zal] <;> omega) | decide) only [r_r, ↓reduceIte, Nat.reduceEqDiff, Nat.reduceAdd, D.fix, Int.reduceToNat, Nat.reduceMul, Nat.reduceBNe, Nat.reduceBEq, r_w, r_m, zbe, zbh, zbl, zbk, shD, gA, zb1, zbw, ze8]
     refine hK12 _ _ ?_
     refine zb2 hp (τ' := frL [(4, .d (iD (num ts2 t2)))]) (H' := zbl ts2 μu2 μm2 base sh fs) ?_ ?_
     ·refine Rt.trans (Rt.gc (keep := [0,1,2,3,4,5,6]) (by decide) (by decide) (by simp [fzH, gcH])) ?_
      refine Rt.end (by repeat (first | exact zak _ | refine zah ?_ (by first | rfl | (simp [r_f, zai, zad, zag, zal]; done) | simp [r_f, zai, zad, zag, zal, *]))) ?_
      simp only [r_g, Nat.reduceAdd, ↓reduceIte, Nat.reduceEqDiff, r_m, zbe, zbh, zbl, zbk, shD, gA, zb1, zbw]; rw [zdz hpp hfs]
     refine za4 ?_
     refine zbp (t := 4) rfl ?_
     show ∃ _, _
     refine ⟨ts2, μu2, μm2, t2, rfl, rfl, hS2, hpp, by omega, hm2, fun a => ?_⟩
     rw [hi2 a, hi1 a]
     simp only [ziw, o1, o2, o3, o4, if_true, if_false]
     cases (nth fs g.a.toNat).eval a <;> cases (nth fs g.b.toNat).eval a <;> rfl
    ·have o4 : ¬ g.op = 4 := by simp at ht; omega
     refine zac hp zaj hc rfl fun K13 hK13 => ?_
     simp -dsimp -implicitDefEqProofs (disch := first | assumption | omega | (simp only [r_z, zai, zad, zag, zal] <;> omega) | decide) only [r_r, ↓reduceIte, Nat.reduceEqDiff, Nat.reduceAdd, D.fix, Int.reduceToNat, Nat.reduceMul, Nat.reduceBNe, Nat.reduceBEq, r_m, zbe, zbh, zbl, zbk, shD, gA, zb1, zbw, ze8]
     refine hK13 _ _ ?_
     refine zaq rfl (fun ht => ?_) (fun ht => ?_)
     ·have o5 : g.op = 5 := by simp at ht; omega
      refine zac hp zaj hc rfl fun K14 hK14 => ?_
      simp -dsimp -implicitDefEqProofs (disch := first | assumption | omega | (simp only [r_z, zai, zad, zag, zal] <;> omega) | decide) only [r_r, ↓reduceIte, Nat.reduceEqDiff, Nat.reduceAdd, D.fix, Int.reduceToNat, Nat.reduceMul, Nat.reduceBNe, Nat.reduceBEq, r_m, zbe, zbh, zbl, zbk, shD, gA, zb1, zbw, ze8]
      refine ztx (S := zbe ts μu μm) (T := zbk ts base sh fs ++ [.cells (gA g)]) (zn2 hS hx hy hz (by unfold zel; omega) rfl rfl rfl) rfl (by first | rfl | (simp [AV.allIs, AV.allI, za1, zat, zau, okI, ltI, zao, zbb, zbe, zbh, zbl, zbk, gA]; done) | (intro o ho; simp at ho; done)) (fun t => zbr (by first | rfl | (simp [AV.allIs, AV.allI, za1, zat, zau, okI, ltI, zao, zbb, zbe, zbh, zbl, zbk, gA]; done) | (intro o ho; simp at ho; done)) t) (by first | rfl | (simp [AV.allIs, AV.allI, za1, zat, zau, okI, ltI, zao, zbb, zbe, zbh, zbl, zbk, gA]; done) | (intro o ho; simp at ho; done)) (by first | rfl | (simp [AV.allIs, AV.allI, za1, zat, zau, okI, ltI, zao, zbb, zbe, zbh, zbl, zbk, gA]; done) | (intro o ho; simp at ho; done)) (by first | rfl | (simp [AV.allIs, AV.allI, za1, zat, zau, okI, ltI, zao, zbb, zbe, zbh, zbl, zbk, gA]; done) | (intro o ho; simp at ho; done)) ?_
      rintro _ _ ⟨ts1, μu1, μm1, t1, rfl, rfl, hS1, hp1, hl1, hm1, hi1⟩
      refine ⟨rfl, ?_⟩
      simp -dsimp -implicitDefEqProofs (disch := first | assumption | omega | (simp only [r_z, zai, zad, zag, zal] <;> omega) | decide) only [r_r, ↓reduceIte, Nat.reduceEqDiff, Nat.reduceAdd, D.fix, Int.reduceToNat, Nat.reduceMul, Nat.reduceBNe, Nat.reduceBEq, r_m, zbe, zbh, zbl, zbk, shD, gA, zb1, zbw, ze8]
      refine hK14 _ _ ?_
      refine zb2 hp (τ' := frL [(4, .d (iD (num ts1 t1)))]) (H' := zbl ts1 μu1 μm1 base sh fs) ?_ ?_
      ·refine Rt.trans (Rt.gc (keep := [0,1,2,3,4,5,6]) (by decide) (by decide) (by simp [fzH, gcH])) ?_
       refine Rt.end (by repeat (first | exact zak _ | refine zah ?_ (by first | rfl | (simp [r_f, zai, zad, zag, zal]; done) | simp [r_f, zai, zad, zag, zal, *]))) ?_
       simp only [r_g, Nat.reduceAdd, ↓reduceIte, Nat.reduceEqDiff, r_m, zbe, zbh, zbl, zbk, shD, gA, zb1, zbw]; rw [zdz hp1 hfs]
      refine za4 ?_
      refine zbp (t := 4) rfl ?_
      show ∃ _, _
      refine ⟨ts1, μu1, μm1, t1, rfl, rfl, hS1, hp1, by omega, hm1, fun a => ?_⟩
      rw [hi1 a]
      simp [ziw, o5]
     ·have o5 : ¬ g.op = 5 := by simp at ht; omega
      refine zac hp zaj hc rfl fun K15 hK15 => ?_
      simp -dsimp -implicitDefEqProofs (disch := first | assumption | omega | (simp only [r_z, zai, zad, zag, zal] <;> omega) | decide) only [r_r, ↓reduceIte, Nat.reduceEqDiff, Nat.reduceAdd, D.fix, Int.reduceToNat, Nat.reduceMul, Nat.reduceBNe, Nat.reduceBEq, r_m, zbe, zbh, zbl, zbk, shD, gA, zb1, zbw, ze8]
      refine hK15 _ _ ?_
      refine zaq rfl (fun ht => ?_) (fun ht => ?_)
      ·have o6 : g.op = 6 := by simp at ht; omega
       refine zd5 zaj hp hc mixed rfl [(0, []), (1, []), (2, []), (3, []), (4, []), (5, []), (6, []), (7, []), (8, []), (9, []), (10, []), (12, []), (13, []), (14, []), (15, []), (16, []), (17, []), (11, [3, 15]), (18, [3]), (19, []), (20, [])] [[], [0], [0, 1], [0, 1, 2], [], [], [5], [5, 6], [5, 6, 7], [], [], [5, 6, 7, 8, 9, 10], [], [12], [12, 13], [12, 13, 14], [], [], [5, 6, 7, 8, 9, 10, 11, 12, 13, 14, 15, 16, 17], [0, 1, 2, 3, 4, 5, 6, 7, 8, 9, 10, 11, 12, 13, 14, 15, 16, 17, 18], [0, 1, 2, 3, 4, 5, 6, 7, 8, 9, 10, 11, 12, 13, 14, 15, 16, 17, 18, 19]] 0 (by kernel_rfl) fun K16 hK16 => ?_
       simp -dsimp -implicitDefEqProofs (disch := first | assumption | omega | (simp only [r_z, zai, zad, zag, zal] <;> omega) | decide) only [r_r, ↓reduceIte, Nat.reduceEqDiff, Nat.reduceAdd, D.fix, Int.reduceToNat, Nat.reduceMul, Nat.reduceBNe, Nat.reduceBEq, r_w, r_m, zbe, zbh, zbl, zbk, shD, gA, zb1, zbw, ze8]
       refine znh (S := zbe ts μu μm) (T := zbk ts base sh fs ++ [.cells (gA g)]) (zn2 hS hy (zp5 _) hz (by unfold zel; omega) rfl jgh rfl) rfl (Nat.le_of_ble_eq_true rfl) (by first | rfl | (simp [AV.allIs, AV.allI, za1, zat, zau, okI, ltI, zao, zbb, zbe, zbh, zbl, zbk, gA]; done) | (intro o ho; simp at ho; done)) (fun t => zbr (by first | rfl | (simp [AV.allIs, AV.allI, za1, zat, zau, okI, ltI, zao, zbb, zbe, zbh, zbl, zbk, gA]; done) | (intro o ho; simp at ho; done)) t) (fun t => zbr (by first | rfl | (simp [AV.allIs, AV.allI, za1, zat, zau, okI, ltI, zao, zbb, zbe, zbh, zbl, zbk, gA]; done) | (intro o ho; simp at ho; done)) t) (by first | rfl | (simp [AV.allIs, AV.allI, za1, zat, zau, okI, ltI, zao, zbb, zbe, zbh, zbl, zbk, gA]; done) | (intro o ho; simp at ho; done)) (by first | rfl | (simp [AV.allIs, AV.allI, za1, zat, zau, okI, ltI, zao, zbb, zbe, zbh, zbl, zbk, gA]; done) | (intro o ho; simp at ho; done)) (by first | rfl | (simp [AV.allIs, AV.allI, za1, zat, zau, okI, ltI, zao, zbb, zbe, zbh, zbl, zbk, gA]; done) | (intro o ho; simp at ho; done)) ?_
       rintro _ _ ⟨ts1, μu1, μm1, t1, rfl, rfl, hS1, hp1, hl1, hm1, hi1⟩
       refine ⟨rfl, ?_⟩
       simp -dsimp -implicitDefEqProofs (disch := first | assumption | omega | (simp only [r_z, zai, zad, zag, zal] <;> omega) | decide) only [r_r, ↓reduceIte, Nat.reduceEqDiff, Nat.reduceAdd, D.fix, Int.reduceToNat, Nat.reduceMul, Nat.reduceBNe, Nat.reduceBEq, r_w, r_m, zbe, zbh, zbl, zbk, shD, gA, zb1, zbw, ze8]
       refine znh (S := zbe ts1 μu1 μm1) (T := zbk ts base sh fs ++ [.cells (gA g)]) (zn2 hS1 (zcb hp1 hy) (zcb hp1 hz) (zhy _) (by unfold zel; omega) (zzb hp1 hy) (zzb hp1 hz) zxz) rfl (Nat.le_of_ble_eq_true rfl) (by first | rfl | (simp [AV.allIs, AV.allI, za1, zat, zau, okI, ltI, zao, zbb, zbe, zbh, zbl, zbk, gA]; done) | (intro o ho; simp at ho; done)) (fun t => zbr (by first | rfl | (simp [AV.allIs, AV.allI, za1, zat, zau, okI, ltI, zao, zbb, zbe, zbh, zbl, zbk, gA]; done) | (intro o ho; simp at ho; done)) t) (fun t => zbr (by first | rfl | (simp [AV.allIs, AV.allI, za1, zat, zau, okI, ltI, zao, zbb, zbe, zbh, zbl, zbk, gA]; done) | (intro o ho; simp at ho; done)) t) (by first | rfl | (simp [AV.allIs, AV.allI, za1, zat, zau, okI, ltI, zao, zbb, zbe, zbh, zbl, zbk, gA]; done) | (intro o ho; simp at ho; done)) (by first | rfl | (simp [AV.allIs, AV.allI, za1, zat, zau, okI, ltI, zao, zbb, zbe, zbh, zbl, zbk, gA]; done) | (intro o ho; simp at ho; done)) (by first | rfl | (simp [AV.allIs, AV.allI, za1, zat, zau, okI, ltI, zao, zbb, zbe, zbh, zbl, zbk, gA]; done) | (intro o ho; simp at ho; done)) ?_
       rintro _ _ ⟨ts2, μu2, μm2, t2, rfl, rfl, hS2, hp2, hl2, hm2, hi2⟩
       refine ⟨rfl, ?_⟩
       have hpp := hp1.trans hp2
       simp -dsimp -implicitDefEqProofs (disch := first | assumption | omega | (simp only [r_z, zai, zad, zag, zal] <;> omega) | decide) only [r_r, ↓reduceIte, Nat.reduceEqDiff, Nat.reduceAdd, D.fix, Int.reduceToNat, Nat.reduceMul, Nat.reduceBNe, Nat.reduceBEq, r_w, r_m, zbe, zbh, zbl, zbk, shD, gA, zb1, zbw, ze8]
       refine znh (S := zbe ts2 μu2 μm2) (T := zbk ts base sh fs ++ [.cells (gA g)]) (zn2 hS2 (zcb hpp hx) (zcb hp2 hm1) hm2 (by unfold zel; omega) (zzb hpp hx) (zzb hp2 hm1) rfl) rfl (Nat.le_of_ble_eq_true rfl) (by first | rfl | (simp [AV.allIs, AV.allI, za1, zat, zau, okI, ltI, zao, zbb, zbe, zbh, zbl, zbk, gA]; done) | (intro o ho; simp at ho; done)) (fun t => zbr (by first | rfl | (simp [AV.allIs, AV.allI, za1, zat, zau, okI, ltI, zao, zbb, zbe, zbh, zbl, zbk, gA]; done) | (intro o ho; simp at ho; done)) t) (fun t => zbr (by first | rfl | (simp [AV.allIs, AV.allI, za1, zat, zau, okI, ltI, zao, zbb, zbe, zbh, zbl, zbk, gA]; done) | (intro o ho; simp at ho; done)) t) (by first | rfl | (simp [AV.allIs, AV.allI, za1, zat, zau, okI, ltI, zao, zbb, zbe, zbh, zbl, zbk, gA]; done) | (intro o ho; simp at ho; done)) (by first | rfl | (simp [AV.allIs, AV.allI, za1, zat, zau, okI, ltI, zao, zbb, zbe, zbh, zbl, zbk, gA]; done) | (intro o ho; simp at ho; done)) (by first | rfl | (simp [AV.allIs, AV.allI, za1, zat, zau, okI, ltI, zao, zbb, zbe, zbh, zbl, zbk, gA]; done) | (intro o ho; simp at ho; done)) ?_
       rintro _ _ ⟨ts3, μu3, μm3, t3, rfl, rfl, hS3, hp3, hl3, hm3, hi3⟩
       refine ⟨rfl, ?_⟩
       have hpq := hpp.trans hp3
       simp -dsimp -implicitDefEqProofs (disch := first | assumption | omega | (simp only [r_z, zai, zad, zag, zal] <;> omega) | decide) only [r_r, ↓reduceIte, Nat.reduceEqDiff, Nat.reduceAdd, D.fix, Int.reduceToNat, Nat.reduceMul, Nat.reduceBNe, Nat.reduceBEq, r_w, r_m, zbe, zbh, zbl, zbk, shD, gA, zb1, zbw, ze8]
       refine hK16 _ _ ?_
       refine zb2 hp (τ' := frL [(4, .d (iD (num ts3 t3)))]) (H' := zbl ts3 μu3 μm3 base sh fs) ?_ ?_
       ·refine Rt.trans (Rt.gc (keep := [0,1,2,3,4,5,6]) (by decide) (by decide) (by simp [fzH, gcH])) ?_
        refine Rt.end (by repeat (first | exact zak _ | refine zah ?_ (by first | rfl | (simp [r_f, zai, zad, zag, zal]; done) | simp [r_f, zai, zad, zag, zal, *]))) ?_
        simp only [r_g, Nat.reduceAdd, ↓reduceIte, Nat.reduceEqDiff, r_m, zbe, zbh, zbl, zbk, shD, gA, zb1, zbw]; rw [zdz hpq hfs]
       refine za4 ?_
       refine zbp (t := 4) rfl ?_
       show ∃ _, _
       refine ⟨ts3, μu3, μm3, t3, rfl, rfl, hS3, hpq, by omega, hm3, fun a => ?_⟩
       rw [hi3 a, hi2 a, hi1 a]
       simp only [ziw, o1, o2, o3, o4, o5, o6, if_true, if_false]
       cases (nth fs g.a.toNat).eval a <;> cases (nth fs g.b.toNat).eval a <;> cases (nth fs g.c.toNat).eval a <;> rfl
      ·have o6 : ¬ g.op = 6 := by simp at ht; omega
       refine zay (hK3 _ _ ?_)
       refine zac hp zaj hc rfl fun K17 hK17 => ?_
       simp -dsimp -implicitDefEqProofs (disch := first | assumption | omega | (simp only [r_z, zai, zad, zag, zal] <;> omega) | decide) only [r_r, ↓reduceIte, Nat.reduceEqDiff, Nat.reduceAdd, D.fix, Int.reduceToNat, Nat.reduceMul, Nat.reduceBNe, Nat.reduceBEq, r_m, zbe, zbh, zbl, zbk, shD, gA, zb1, zbw, ze8]
       refine ztx (S := zbl ts μu μm base sh fs) (T := [.cells (gA g)]) (jk7 V base sh fs ts μu μm g hS hsh hV hfs hfl hg' hlen') rfl (by first | rfl | (simp [AV.allIs, AV.allI, za1, zat, zau, okI, ltI, zao, zbb, zbe, zbh, zbl, zbk, gA]; done) | (intro o ho; simp at ho; done)) (fun t => zbr (by first | rfl | (simp [AV.allIs, AV.allI, za1, zat, zau, okI, ltI, zao, zbb, zbe, zbh, zbl, zbk, gA]; done) | (intro o ho; simp at ho; done)) t) (by first | rfl | (simp [AV.allIs, AV.allI, za1, zat, zau, okI, ltI, zao, zbb, zbe, zbh, zbl, zbk, gA]; done) | (intro o ho; simp at ho; done)) (by first | rfl | (simp [AV.allIs, AV.allI, za1, zat, zau, okI, ltI, zao, zbb, zbe, zbh, zbl, zbk, gA]; done) | (intro o ho; simp at ho; done)) (by first | rfl | (simp [AV.allIs, AV.allI, za1, zat, zau, okI, ltI, zao, zbb, zbe, zbh, zbl, zbk, gA]; done) | (intro o ho; simp at ho; done)) ?_
       rintro _ _ ⟨ts1, μu1, μm1, t1, rfl, rfl, hS1, hp1, hl1, hm1, hi1⟩
       refine ⟨rfl, ?_⟩
       simp -dsimp -implicitDefEqProofs (disch := first | assumption | omega | (simp only [r_z, zai, zad, zag, zal] <;> omega) | decide) only [r_r, ↓reduceIte, Nat.reduceEqDiff, Nat.reduceAdd, D.fix, Int.reduceToNat, Nat.reduceMul, Nat.reduceBNe, Nat.reduceBEq, r_m, zbe, zbh, zbl, zbk, shD, gA, zb1, zbw, ze8]
       refine hK17 _ _ ?_
       refine zb2 hp (τ' := frL [(4, .d (iD (num ts1 t1)))]) (H' := zbl ts1 μu1 μm1 base sh fs) ?_ ?_
       ·refine Rt.trans (Rt.gc (keep := [0,1,2,3,4,5,6]) (by decide) (by decide) (by simp [fzH, gcH])) ?_
        refine Rt.end (by repeat (first | exact zak _ | refine zah ?_ (by first | rfl | (simp [r_f, zai, zad, zag, zal]; done) | simp [r_f, zai, zad, zag, zal, *]))) ?_
        first | rfl | (simp only [r_g, Nat.reduceAdd, ↓reduceIte, Nat.reduceEqDiff, r_m, zbe, zbh, zbl, zbk, shD, gA, zb1, zbw]; first | done | rfl)
       refine za4 ?_
       refine zbp (t := 4) rfl ?_
       show ∃ _, _
       refine ⟨ts1, μu1, μm1, t1, rfl, rfl, hS1, hp1, by omega, hm1, fun a => ?_⟩
       rw [hi1 a]
       simp only [ziw, o1, o2, o3, o4, o5, o6, if_false]
end Go.Proofs.Ytignimmnnccblaa
