/- The builder's gate. -/
import Derived.Test.YtgfnpfchdlcoeaaQr
import Derived.Test.YtgfnpfchdlcoeaaQ
import Derived.Test.YtgfnpfchdlcoeaaCd
set_option linter.unusedVariables false
set_option linter.unusedSimpArgs false
set_option maxRecDepth 100000
set_option maxHeartbeats 4000000
namespace Go.Proofs.Ytgfnpfchdlcoeaa
open Go Go.RowKit
def zjs (base : Nat) (sh : Sh) (fs : List T) (g : Gate) (a : Nat → Bool) : Bool :=
 if g.op = 1 then !(nth fs g.a.toNat).eval a
 else if g.op = 2 then (nth fs g.a.toNat).eval a && (nth fs g.b.toNat).eval a
 else if g.op = 3 then (nth fs g.a.toNat).eval a || (nth fs g.b.toNat).eval a
 else if g.op = 4 then (nth fs g.a.toNat).eval a != (nth fs g.b.toNat).eval a
 else if g.op = 5 then if (nth fs g.a.toNat).eval a then (nth fs g.b.toNat).eval a else (nth fs g.c.toNat).eval a
 else if g.op = 6 then (nth fs g.a.toNat).eval a && ((nth fs g.b.toNat).eval a || (nth fs g.c.toNat).eval a) || (nth fs g.b.toNat).eval a && (nth fs g.c.toNat).eval a
 else zt5 base sh g.n.toNat (low fs [g.a, g.b, g.c] a 3) a
theorem zzk {ts : List T} : (0 : Int) = (num ts (.leaf false) : Nat) := by rw [zk0]; rfl
theorem jh1 {ts : List T} : (1 : Int) = (num ts (.leaf true) : Nat) := by rw [znq]; rfl
theorem jcb {ts us : List T} (hp : ts <+: us) {t : T} (h : t ∈ zbn ts) : ((num ts t : Nat) : Int) = (num us t : Nat) := by rw [zd9 hp h]
theorem jo9 (V base : Nat) (sh : Sh) (fs : List T) (ts : List T) (μu μm : Mp) (g : Gate) (hS : MS V ts μu μm) (hsh : ShOk sh) (hV : zcz base sh ≤ V) (hfs : ∀ t ∈ fs, t ∈ zbn ts) (hfl : fs.length ≤ 1000000) (hg : GOp fs.length g) (hlen : ts.length + 32 * 2 ^ V ≤ zed) : ScS Try.prog [0, 1, 2, 4, 5, 6] 62 [.op 4 0, .agg (gA g)] (zde ts μu μm base sh fs) (js8 V (8 + 7 * 2 ^ V) ts base sh fs (zjs base sh fs g)) := by
 refine zlj (fn := Try.f62) (by kernel_rfl) Try.func62 rfl (Nat.le_of_ble_eq_true rfl) fun c hc hp => ?_
 refine jd0 ?_
 have hpos : 0 < 2 ^ V := Nat.two_pow_pos V
 have hlen' := hlen
 unfold zed at hlen
 have hV9 := hS.V0
 have hg' := hg
 obtain ⟨a0, a1, b0, b1, c0, c1, n0, n1⟩ := hg
 have hx : nth fs g.a.toNat ∈ zbn ts := hfs _ (zcf (by omega))
 have hy : nth fs g.b.toNat ∈ zbn ts := hfs _ (zcf (by omega))
 have hz : nth fs g.c.toNat ∈ zbn ts := hfs _ (zcf (by omega))
 refine zab hp zad hc rfl fun K1 hK1 => ?_
 simp -dsimp -implicitDefEqProofs (disch := first | omega | decide) only [q_r, zau, zb0, ↓reduceIte, AV.one, D.one, Value.oneCell', Nat.reduceEqDiff, iD, Nat.reduceAdd, zau, zbu, zb8, zde, zcu, shD, gA]
 refine hK1 _ _ ?_
 refine zbo zad hc mixed rfl (q := 0) (by kernel_rfl) (by kernel_rfl) fun K2 hK2 => ?_
 simp -dsimp -implicitDefEqProofs (disch := first | omega | decide) only [q_r, zam, zac, ixO, zai, zdy, ↓reduceIte, List.append_nil, List.replicate_zero, and_true, Nat.reduceEqDiff, killAll, iD, Nat.reduceAdd, znx, zhb, zea, zeb, zc3, zxi, zci, zcn, ztx, zty]
 refine hK2 _ _ ?_
 refine zaf fun K3 hK3 => ?_
 refine zbx hp (τ' := frL [(0, .op 4 0), (3, .op 7 0), (5, .d (iD (num ts (nth fs g.a.toNat)))), (6, .d (iD (num ts (nth fs g.b.toNat)))), (7, .d (iD (num ts (nth fs g.c.toNat))))]) (H' := zde ts μu μm base sh fs ++ [.cells (gA g)]) ?_ ?_
 ·refine Rt.trans (Rt.gc (keep := [0,1,2,3,4,5,6,7]) (by decide) (by decide) (by simp [])) ?_
  refine Rt.end (zaa (zaa (zaa (zaa (zaa (zae _) rfl) rfl) rfl) rfl) rfl) ?_
  first | rfl | (simp only [gcH, zbb, zcq, zap, zcb, gcV, Nat.reduceAdd, zcp, List.map_cons, List.map_nil, List.getD_cons_zero, List.getD_cons_succ, ↓reduceIte, Nat.reduceEqDiff, Option.map_some, List.cons_append, List.nil_append, zcq, zbu, zb8, zde, zcu, shD, gA]; first | done | rfl)
 refine zab hp zad hc rfl fun K4 hK4 => ?_
 simp -dsimp -implicitDefEqProofs (disch := first | omega | decide) only [q_r, zam, zac, ↓reduceIte, Nat.reduceEqDiff, iD, Nat.reduceAdd, zbu, zb8, zde, zcu, shD, gA, zjq, zci, zcn]
 refine hK4 _ _ ?_
 refine zaq ?_
 refine zab hp zad hc rfl fun K5 hK5 => ?_
 simp -dsimp -implicitDefEqProofs (disch := first | omega | decide) only [q_r, ↓reduceIte]
 refine hK5 _ _ ?_
 refine zag rfl (fun ht => ?_) (fun ht => ?_)
 ·have o1 : g.op = 1 := by simp at ht; omega
  refine zab hp zad hc rfl fun K6 hK6 => ?_
  simp -dsimp -implicitDefEqProofs (disch := first | omega | decide) only [q_r, zam, zac, zdy, ↓reduceIte, Nat.reduceEqDiff, Nat.reduceAdd, zfn, zg1, zg2]
  refine zw4 (S := zbu ts μu μm) (T := zcu ts base sh fs ++ [.cells (gA g)]) (zq2 hS hx (zk1 _) (ztr _) (by unfold zed; omega) rfl zzk jh1) rfl (by first | rfl | (simp [AV.allIs, AV.allI, zaz, za5, za3, okI, ltI, zak, zbj, zbu, zb8, zde, zcu, gA]; done) | (intro o ho; simp at ho; done)) (fun t => zbv (by first | rfl | (simp [AV.allIs, AV.allI, zaz, za5, za3, okI, ltI, zak, zbj, zbu, zb8, zde, zcu, gA]; done) | (intro o ho; simp at ho; done)) t) (by first | rfl | (simp [AV.allIs, AV.allI, zaz, za5, za3, okI, ltI, zak, zbj, zbu, zb8, zde, zcu, gA]; done) | (intro o ho; simp at ho; done)) (by first | rfl | (simp [AV.allIs, AV.allI, zaz, ltI, zak, zbj, zbu, zb8]; done) | (intro o ho; simp at ho; done)) (by first | rfl | (simp [AV.allIs, AV.allI, zaz, okI, zak, zbu, zb8, zcu, gA]; done) | (intro o ho; simp at ho; done)) ?_
  rintro _ _ ⟨ts1, μu1, μm1, t1, rfl, rfl, hS1, hp1, hl1, hm1, hi1⟩
  refine ⟨rfl, ?_⟩
  simp -dsimp -implicitDefEqProofs (disch := first | omega | decide) only [q_r, ↓reduceIte, iD, zbu, zb8, zcu, shD, gA]
  refine hK6 _ _ ?_
  refine zbx hp (τ' := frL [(4, .d (iD (num ts1 t1)))]) (H' := zde ts1 μu1 μm1 base sh fs) ?_ ?_
  ·refine Rt.trans (Rt.gc (keep := [0,1,2,3,4,5,6]) (by decide) (by decide) (by simp [])) ?_
   refine Rt.end (zaa (zae _) rfl) ?_
   simp only [gcH, zbb, zcq, zap, zcb, gcV, Nat.reduceAdd, zcp, List.map_cons, List.map_nil, List.getD_cons_zero, List.getD_cons_succ, ↓reduceIte, Nat.reduceEqDiff, Option.map_some, List.cons_append, List.nil_append, zcq, zbu, zb8, zde, zcu, shD]; rw [ze0 hp1 hfs]
  refine zao ?_
  refine zb3 (t := 4) rfl ?_
  show ∃ _, _
  refine ⟨ts1, μu1, μm1, t1, rfl, rfl, hS1, hp1, by omega, hm1, fun a => ?_⟩
  rw [hi1 a]
  simp only [zjs, o1, if_true]
  cases (nth fs g.a.toNat).eval a <;> rfl
 ·have o1 : ¬ g.op = 1 := by simp at ht; omega
  refine zab hp zad hc rfl fun K7 hK7 => ?_
  simp -dsimp -implicitDefEqProofs (disch := first | omega | decide) only [q_r, ↓reduceIte, Nat.reduceEqDiff]
  refine hK7 _ _ ?_
  refine zag rfl (fun ht => ?_) (fun ht => ?_)
  ·have o2 : g.op = 2 := by simp at ht; omega
   refine zab hp zad hc rfl fun K8 hK8 => ?_
   simp -dsimp -implicitDefEqProofs (disch := first | omega | decide) only [q_r, zam, zac, zdy, ↓reduceIte, Nat.reduceEqDiff, Nat.reduceAdd, zfn, zg1, zg2]
   refine zw4 (S := zbu ts μu μm) (T := zcu ts base sh fs ++ [.cells (gA g)]) (zq2 hS hx hy (zk1 _) (by unfold zed; omega) rfl rfl zzk) rfl (by first | rfl | (simp [AV.allIs, AV.allI, zaz, za5, za3, okI, ltI, zak, zbj, zbu, zb8, zde, zcu, gA]; done) | (intro o ho; simp at ho; done)) (fun t => zbv (by first | rfl | (simp [AV.allIs, AV.allI, zaz, za5, za3, okI, ltI, zak, zbj, zbu, zb8, zde, zcu, gA]; done) | (intro o ho; simp at ho; done)) t) (by first | rfl | (simp [AV.allIs, AV.allI, zaz, za5, za3, okI, ltI, zak, zbj, zbu, zb8, zde, zcu, gA]; done) | (intro o ho; simp at ho; done)) (by first | rfl | (simp [AV.allIs, AV.allI, zaz, ltI, zak, zbj, zbu, zb8]; done) | (intro o ho; simp at ho; done)) (by first | rfl | (simp [AV.allIs, AV.allI, zaz, okI, zak, zbu, zb8, zcu, gA]; done) | (intro o ho; simp at ho; done)) ?_
   rintro _ _ ⟨ts1, μu1, μm1, t1, rfl, rfl, hS1, hp1, hl1, hm1, hi1⟩
   refine ⟨rfl, ?_⟩
   simp -dsimp -implicitDefEqProofs (disch := first | omega | decide) only [q_r, ↓reduceIte, iD, zbu, zb8, zcu, shD, gA]
   refine hK8 _ _ ?_
   refine zbx hp (τ' := frL [(4, .d (iD (num ts1 t1)))]) (H' := zde ts1 μu1 μm1 base sh fs) ?_ ?_
   ·refine Rt.trans (Rt.gc (keep := [0,1,2,3,4,5,6]) (by decide) (by decide) (by simp [])) ?_
    refine Rt.end (zaa (zae _) rfl) ?_
    simp only [gcH, zbb, zcq, zap, zcb, gcV, Nat.reduceAdd, zcp, List.map_cons, List.map_nil, List.getD_cons_zero, List.getD_cons_succ, ↓reduceIte, Nat.reduceEqDiff, Option.map_some, List.cons_append, List.nil_append, zcq, zbu, zb8, zde, zcu, shD]; rw [ze0 hp1 hfs]
   refine zao ?_
   refine zb3 (t := 4) rfl ?_
   show ∃ _, _
   refine ⟨ts1, μu1, μm1, t1, rfl, rfl, hS1, hp1, by omega, hm1, fun a => ?_⟩
   rw [hi1 a]
   simp only [zjs, o2, if_true]
   cases (nth fs g.a.toNat).eval a <;> simp [T.eval]
  ·have o2 : ¬ g.op = 2 := by simp at ht; omega
   refine zab hp zad hc rfl fun K9 hK9 => ?_
   simp -dsimp -implicitDefEqProofs (disch := first | omega | decide) only [q_r, ↓reduceIte, Nat.reduceEqDiff]
   refine hK9 _ _ ?_
   refine zag rfl (fun ht => ?_) (fun ht => ?_)
   ·have o3 : g.op = 3 := by simp at ht; omega
    refine zab hp zad hc rfl fun K10 hK10 => ?_
    simp -dsimp -implicitDefEqProofs (disch := first | omega | decide) only [q_r, zam, zac, zdy, ↓reduceIte, Nat.reduceEqDiff, Nat.reduceAdd, zfn, zg1, zg2]
    refine zw4 (S := zbu ts μu μm) (T := zcu ts base sh fs ++ [.cells (gA g)]) (zq2 hS hx (ztr _) hy (by unfold zed; omega) rfl jh1 rfl) rfl (by first | rfl | (simp [AV.allIs, AV.allI, zaz, za5, za3, okI, ltI, zak, zbj, zbu, zb8, zde, zcu, gA]; done) | (intro o ho; simp at ho; done)) (fun t => zbv (by first | rfl | (simp [AV.allIs, AV.allI, zaz, za5, za3, okI, ltI, zak, zbj, zbu, zb8, zde, zcu, gA]; done) | (intro o ho; simp at ho; done)) t) (by first | rfl | (simp [AV.allIs, AV.allI, zaz, za5, za3, okI, ltI, zak, zbj, zbu, zb8, zde, zcu, gA]; done) | (intro o ho; simp at ho; done)) (by first | rfl | (simp [AV.allIs, AV.allI, zaz, ltI, zak, zbj, zbu, zb8]; done) | (intro o ho; simp at ho; done)) (by first | rfl | (simp [AV.allIs, AV.allI, zaz, okI, zak, zbu, zb8, zcu, gA]; done) | (intro o ho; simp at ho; done)) ?_
    rintro _ _ ⟨ts1, μu1, μm1, t1, rfl, rfl, hS1, hp1, hl1, hm1, hi1⟩
    refine ⟨rfl, ?_⟩
    simp -dsimp -implicitDefEqProofs (disch := first | omega | decide) only [q_r, ↓reduceIte, iD, zbu, zb8, zcu, shD, gA]
    refine hK10 _ _ ?_
    refine zbx hp (τ' := frL [(4, .d (iD (num ts1 t1)))]) (H' := zde ts1 μu1 μm1 base sh fs) ?_ ?_
    ·refine Rt.trans (Rt.gc (keep := [0,1,2,3,4,5,6]) (by decide) (by decide) (by simp [])) ?_
     refine Rt.end (zaa (zae _) rfl) ?_
     simp only [gcH, zbb, zcq, zap, zcb, gcV, Nat.reduceAdd, zcp, List.map_cons, List.map_nil, List.getD_cons_zero, List.getD_cons_succ, ↓reduceIte, Nat.reduceEqDiff, Option.map_some, List.cons_append, List.nil_append, zcq, zbu, zb8, zde, zcu, shD]; rw [ze0 hp1 hfs]
    refine zao ?_
    refine zb3 (t := 4) rfl ?_
    show ∃ _, _
    refine ⟨ts1, μu1, μm1, t1, rfl, rfl, hS1, hp1, by omega, hm1, fun a => ?_⟩
    rw [hi1 a]
    simp only [zjs, o3, if_true]
    cases (nth fs g.a.toNat).eval a <;> simp [T.eval]
   ·have o3 : ¬ g.op = 3 := by simp at ht; omega
    refine zab hp zad hc rfl fun K11 hK11 => ?_
    simp -dsimp -implicitDefEqProofs (disch := first | omega | decide) only [q_r, ↓reduceIte, Nat.reduceEqDiff]
    refine hK11 _ _ ?_
    refine zag rfl (fun ht => ?_) (fun ht => ?_)
    ·have o4 : g.op = 4 := by simp at ht; omega
     refine ze9 zad hp hc mixed rfl [(0, []), (1, []), (2, []), (3, []), (4, []), (5, []), (6, []), (7, []), (8, []), (9, []), (11, []), (10, [3]), (12, []), (13, [])] [[], [0], [0, 1], [0, 1, 2], [], [], [5], [5, 6], [5, 6, 7], [], [5, 6, 7, 8, 9], [], [0, 1, 2, 3, 4, 5, 6, 7, 8, 9, 10, 11], [0, 1, 2, 3, 4, 5, 6, 7, 8, 9, 10, 11, 12]] 0 (by kernel_rfl) fun K12 hK12 => ?_
     simp -dsimp -implicitDefEqProofs (disch := first | omega | decide) only [q_r, zam, zac, zdy, ↓reduceIte, List.append_nil, List.replicate_zero, Nat.reduceEqDiff, Nat.reduceAdd, List.getD_cons_zero, List.getD_cons_succ, zfn, zg1, zg2]
     refine zma (S := zbu ts μu μm) (T := zcu ts base sh fs ++ [.cells (gA g)]) (zq2 hS hy (zk1 _) (ztr _) (by unfold zed; omega) rfl zzk jh1) rfl (Nat.le_of_ble_eq_true rfl) (by first | rfl | (simp [AV.allIs, AV.allI, zaz, za5, za3, okI, ltI, zak, zbj, zbu, zb8, zde, zcu, gA]; done) | (intro o ho; simp at ho; done)) (fun t => zbv (by first | rfl | (simp [AV.allIs, AV.allI, zaz, za5, za3, okI, ltI, zak, zbj, zbu, zb8, zde, zcu, gA]; done) | (intro o ho; simp at ho; done)) t) (fun t => zbv (by first | rfl | (simp [AV.allIs, AV.allI, zaz, za5, za3, okI, ltI, zak, zbj, zbu, zb8, zde, zcu, gA]; done) | (intro o ho; simp at ho; done)) t) (by first | rfl | (simp [AV.allIs, AV.allI, zaz, za5, za3, okI, ltI, zak, zbj, zbu, zb8, zde, zcu, gA]; done) | (intro o ho; simp at ho; done)) (by first | rfl | (simp [AV.allIs, AV.allI, zaz, ltI, zak, zbj, zbu, zb8]; done) | (intro o ho; simp at ho; done)) (by first | rfl | (simp [AV.allIs, AV.allI, zaz, okI, zak, zbu, zb8, zcu, gA]; done) | (intro o ho; simp at ho; done)) ?_
     rintro _ _ ⟨ts1, μu1, μm1, t1, rfl, rfl, hS1, hp1, hl1, hm1, hi1⟩
     refine ⟨rfl, ?_⟩
     simp -dsimp -implicitDefEqProofs (disch := first | omega | decide) only [q_r, zam, ↓reduceIte, Nat.reduceEqDiff, iD, zbu, zb8, zcu, shD, gA, zg1, zg2]
     refine zma (S := zbu ts1 μu1 μm1) (T := zcu ts base sh fs ++ [.cells (gA g)]) (zq2 hS1 (zcs hp1 hx) hm1 (zcs hp1 hy) (by unfold zed; omega) (jcb hp1 hx) rfl (jcb hp1 hy)) rfl (Nat.le_of_ble_eq_true rfl) (by first | rfl | (simp [AV.allIs, AV.allI, zaz, za5, za3, okI, ltI, zak, zbj, zbu, zb8, zde, zcu, gA]; done) | (intro o ho; simp at ho; done)) (fun t => zbv (by first | rfl | (simp [AV.allIs, AV.allI, zaz, za5, za3, okI, ltI, zak, zbj, zbu, zb8, zde, zcu, gA]; done) | (intro o ho; simp at ho; done)) t) (fun t => zbv (by first | rfl | (simp [AV.allIs, AV.allI, zaz, za5, za3, okI, ltI, zak, zbj, zbu, zb8, zde, zcu, gA]; done) | (intro o ho; simp at ho; done)) t) (by first | rfl | (simp [AV.allIs, AV.allI, zaz, za5, za3, okI, ltI, zak, zbj, zbu, zb8, zde, zcu, gA]; done) | (intro o ho; simp at ho; done)) (by first | rfl | (simp [AV.allIs, AV.allI, zaz, ltI, zak, zbj, zbu, zb8]; done) | (intro o ho; simp at ho; done)) (by first | rfl | (simp [AV.allIs, AV.allI, zaz, okI, zak, zbu, zb8, zcu, gA]; done) | (intro o ho; simp at ho; done)) ?_
     rintro _ _ ⟨ts2, μu2, μm2, t2, rfl, rfl, hS2, hp2, hl2, hm2, hi2⟩
     refine ⟨rfl, ?_⟩
     have hpp := hp1.trans hp2
     simp -dsimp -implicitDefEqProofs (disch := first | omega | decide) only [q_r, ↓reduceIte, iD, zbu, zb8, zcu, shD, gA]
     refine hK12 _ _ ?_
     refine zbx hp (τ' := frL [(4, .d (iD (num ts2 t2)))]) (H' := zde ts2 μu2 μm2 base sh fs) ?_ ?_
     ·refine Rt.trans (Rt.gc (keep := [0,1,2,3,4,5,6]) (by decide) (by decide) (by simp [])) ?_
      refine Rt.end (zaa (zae _) rfl) ?_
      simp only [gcH, zbb, zcq, zap, zcb, gcV, Nat.reduceAdd, zcp, List.map_cons, List.map_nil, List.getD_cons_zero, List.getD_cons_succ, ↓reduceIte, Nat.reduceEqDiff, Option.map_some, List.cons_append, List.nil_append, zcq, zbu, zb8, zde, zcu, shD]; rw [ze0 hpp hfs]
     refine zao ?_
     refine zb3 (t := 4) rfl ?_
     show ∃ _, _
     refine ⟨ts2, μu2, μm2, t2, rfl, rfl, hS2, hpp, by omega, hm2, fun a => ?_⟩
     rw [hi2 a, hi1 a]
     simp only [zjs, o4, if_true]
     cases (nth fs g.a.toNat).eval a <;> cases (nth fs g.b.toNat).eval a <;> rfl
    ·have o4 : ¬ g.op = 4 := by simp at ht; omega
     refine zab hp zad hc rfl fun K13 hK13 => ?_
     simp -dsimp -implicitDefEqProofs (disch := first | omega | decide) only [q_r, ↓reduceIte, Nat.reduceEqDiff]
     refine hK13 _ _ ?_
     refine zag rfl (fun ht => ?_) (fun ht => ?_)
     ·have o5 : g.op = 5 := by simp at ht; omega
      refine zab hp zad hc rfl fun K14 hK14 => ?_
      simp -dsimp -implicitDefEqProofs (disch := first | omega | decide) only [q_r, zam, zac, zdy, ↓reduceIte, Nat.reduceEqDiff, Nat.reduceAdd, zfn, zg1, zg2]
      refine zw4 (S := zbu ts μu μm) (T := zcu ts base sh fs ++ [.cells (gA g)]) (zq2 hS hx hy hz (by unfold zed; omega) rfl rfl rfl) rfl (by first | rfl | (simp [AV.allIs, AV.allI, zaz, za5, za3, okI, ltI, zak, zbj, zbu, zb8, zde, zcu, gA]; done) | (intro o ho; simp at ho; done)) (fun t => zbv (by first | rfl | (simp [AV.allIs, AV.allI, zaz, za5, za3, okI, ltI, zak, zbj, zbu, zb8, zde, zcu, gA]; done) | (intro o ho; simp at ho; done)) t) (by first | rfl | (simp [AV.allIs, AV.allI, zaz, za5, za3, okI, ltI, zak, zbj, zbu, zb8, zde, zcu, gA]; done) | (intro o ho; simp at ho; done)) (by first | rfl | (simp [AV.allIs, AV.allI, zaz, ltI, zak, zbj, zbu, zb8]; done) | (intro o ho; simp at ho; done)) (by first | rfl | (simp [AV.allIs, AV.allI, zaz, okI, zak, zbu, zb8, zcu, gA]; done) | (intro o ho; simp at ho; done)) ?_
      rintro _ _ ⟨ts1, μu1, μm1, t1, rfl, rfl, hS1, hp1, hl1, hm1, hi1⟩
      refine ⟨rfl, ?_⟩
      simp -dsimp -implicitDefEqProofs (disch := first | omega | decide) only [q_r, ↓reduceIte, iD, zbu, zb8, zcu, shD, gA]
      refine hK14 _ _ ?_
      refine zbx hp (τ' := frL [(4, .d (iD (num ts1 t1)))]) (H' := zde ts1 μu1 μm1 base sh fs) ?_ ?_
      ·refine Rt.trans (Rt.gc (keep := [0,1,2,3,4,5,6]) (by decide) (by decide) (by simp [])) ?_
       refine Rt.end (zaa (zae _) rfl) ?_
       simp only [gcH, zbb, zcq, zap, zcb, gcV, Nat.reduceAdd, zcp, List.map_cons, List.map_nil, List.getD_cons_zero, List.getD_cons_succ, ↓reduceIte, Nat.reduceEqDiff, Option.map_some, List.cons_append, List.nil_append, zcq, zbu, zb8, zde, zcu, shD]; rw [ze0 hp1 hfs]
      refine zao ?_
      refine zb3 (t := 4) rfl ?_
      show ∃ _, _
      refine ⟨ts1, μu1, μm1, t1, rfl, rfl, hS1, hp1, by omega, hm1, fun a => ?_⟩
      rw [hi1 a]
      simp [zjs, o5]
     ·have o5 : ¬ g.op = 5 := by simp at ht; omega
      refine zab hp zad hc rfl fun K15 hK15 => ?_
      simp -dsimp -implicitDefEqProofs (disch := first | omega | decide) only [q_r, ↓reduceIte, Nat.reduceEqDiff]
      refine hK15 _ _ ?_
      refine zag rfl (fun ht => ?_) (fun ht => ?_)
      ·have o6 : g.op = 6 := by simp at ht; omega
       refine ze9 zad hp hc mixed rfl [(0, []), (1, []), (2, []), (3, []), (4, []), (5, []), (6, []), (7, []), (8, []), (9, []), (10, []), (12, []), (13, []), (14, []), (15, []), (16, []), (17, []), (11, [3, 15]), (18, [3]), (19, []), (20, [])] [[], [0], [0, 1], [0, 1, 2], [], [], [5], [5, 6], [5, 6, 7], [], [], [5, 6, 7, 8, 9, 10], [], [12], [12, 13], [12, 13, 14], [], [], [5, 6, 7, 8, 9, 10, 11, 12, 13, 14, 15, 16, 17], [0, 1, 2, 3, 4, 5, 6, 7, 8, 9, 10, 11, 12, 13, 14, 15, 16, 17, 18], [0, 1, 2, 3, 4, 5, 6, 7, 8, 9, 10, 11, 12, 13, 14, 15, 16, 17, 18, 19]] 0 (by kernel_rfl) fun K16 hK16 => ?_
       simp -dsimp -implicitDefEqProofs (disch := first | omega | decide) only [q_r, zam, zac, zdy, ↓reduceIte, List.append_nil, List.replicate_zero, Nat.reduceEqDiff, Nat.reduceAdd, List.getD_cons_zero, List.getD_cons_succ, zfn, zg1, zg2]
       refine zma (S := zbu ts μu μm) (T := zcu ts base sh fs ++ [.cells (gA g)]) (zq2 hS hy (ztr _) hz (by unfold zed; omega) rfl jh1 rfl) rfl (Nat.le_of_ble_eq_true rfl) (by first | rfl | (simp [AV.allIs, AV.allI, zaz, za5, za3, okI, ltI, zak, zbj, zbu, zb8, zde, zcu, gA]; done) | (intro o ho; simp at ho; done)) (fun t => zbv (by first | rfl | (simp [AV.allIs, AV.allI, zaz, za5, za3, okI, ltI, zak, zbj, zbu, zb8, zde, zcu, gA]; done) | (intro o ho; simp at ho; done)) t) (fun t => zbv (by first | rfl | (simp [AV.allIs, AV.allI, zaz, za5, za3, okI, ltI, zak, zbj, zbu, zb8, zde, zcu, gA]; done) | (intro o ho; simp at ho; done)) t) (by first | rfl | (simp [AV.allIs, AV.allI, zaz, za5, za3, okI, ltI, zak, zbj, zbu, zb8, zde, zcu, gA]; done) | (intro o ho; simp at ho; done)) (by first | rfl | (simp [AV.allIs, AV.allI, zaz, ltI, zak, zbj, zbu, zb8]; done) | (intro o ho; simp at ho; done)) (by first | rfl | (simp [AV.allIs, AV.allI, zaz, okI, zak, zbu, zb8, zcu, gA]; done) | (intro o ho; simp at ho; done)) ?_
       rintro _ _ ⟨ts1, μu1, μm1, t1, rfl, rfl, hS1, hp1, hl1, hm1, hi1⟩
       refine ⟨rfl, ?_⟩
       simp -dsimp -implicitDefEqProofs (disch := first | omega | decide) only [q_r, zam, ↓reduceIte, Nat.reduceEqDiff, iD, zbu, zb8, zcu, shD, gA, zg1, zg2]
       refine zma (S := zbu ts1 μu1 μm1) (T := zcu ts base sh fs ++ [.cells (gA g)]) (zq2 hS1 (zcs hp1 hy) (zcs hp1 hz) (zk1 _) (by unfold zed; omega) (jcb hp1 hy) (jcb hp1 hz) zzk) rfl (Nat.le_of_ble_eq_true rfl) (by first | rfl | (simp [AV.allIs, AV.allI, zaz, za5, za3, okI, ltI, zak, zbj, zbu, zb8, zde, zcu, gA]; done) | (intro o ho; simp at ho; done)) (fun t => zbv (by first | rfl | (simp [AV.allIs, AV.allI, zaz, za5, za3, okI, ltI, zak, zbj, zbu, zb8, zde, zcu, gA]; done) | (intro o ho; simp at ho; done)) t) (fun t => zbv (by first | rfl | (simp [AV.allIs, AV.allI, zaz, za5, za3, okI, ltI, zak, zbj, zbu, zb8, zde, zcu, gA]; done) | (intro o ho; simp at ho; done)) t) (by first | rfl | (simp [AV.allIs, AV.allI, zaz, za5, za3, okI, ltI, zak, zbj, zbu, zb8, zde, zcu, gA]; done) | (intro o ho; simp at ho; done)) (by first | rfl | (simp [AV.allIs, AV.allI, zaz, ltI, zak, zbj, zbu, zb8]; done) | (intro o ho; simp at ho; done)) (by first | rfl | (simp [AV.allIs, AV.allI, zaz, okI, zak, zbu, zb8, zcu, gA]; done) | (intro o ho; simp at ho; done)) ?_
       rintro _ _ ⟨ts2, μu2, μm2, t2, rfl, rfl, hS2, hp2, hl2, hm2, hi2⟩
       refine ⟨rfl, ?_⟩
       have hpp := hp1.trans hp2
       simp -dsimp -implicitDefEqProofs (disch := first | omega | decide) only [q_r, zam, ↓reduceIte, Nat.reduceEqDiff, iD, zbu, zb8, zcu, shD, gA, zg1, zg2]
       refine zma (S := zbu ts2 μu2 μm2) (T := zcu ts base sh fs ++ [.cells (gA g)]) (zq2 hS2 (zcs hpp hx) (zcs hp2 hm1) hm2 (by unfold zed; omega) (jcb hpp hx) (jcb hp2 hm1) rfl) rfl (Nat.le_of_ble_eq_true rfl) (by first | rfl | (simp [AV.allIs, AV.allI, zaz, za5, za3, okI, ltI, zak, zbj, zbu, zb8, zde, zcu, gA]; done) | (intro o ho; simp at ho; done)) (fun t => zbv (by first | rfl | (simp [AV.allIs, AV.allI, zaz, za5, za3, okI, ltI, zak, zbj, zbu, zb8, zde, zcu, gA]; done) | (intro o ho; simp at ho; done)) t) (fun t => zbv (by first | rfl | (simp [AV.allIs, AV.allI, zaz, za5, za3, okI, ltI, zak, zbj, zbu, zb8, zde, zcu, gA]; done) | (intro o ho; simp at ho; done)) t) (by first | rfl | (simp [AV.allIs, AV.allI, zaz, za5, za3, okI, ltI, zak, zbj, zbu, zb8, zde, zcu, gA]; done) | (intro o ho; simp at ho; done)) (by first | rfl | (simp [AV.allIs, AV.allI, zaz, ltI, zak, zbj, zbu, zb8]; done) | (intro o ho; simp at ho; done)) (by first | rfl | (simp [AV.allIs, AV.allI, zaz, okI, zak, zbu, zb8, zcu, gA]; done) | (intro o ho; simp at ho; done)) ?_
       rintro _ _ ⟨ts3, μu3, μm3, t3, rfl, rfl, hS3, hp3, hl3, hm3, hi3⟩
       refine ⟨rfl, ?_⟩
       have hpq := hpp.trans hp3
       simp -dsimp -implicitDefEqProofs (disch := first | omega | decide) only [q_r, ↓reduceIte, iD, zbu, zb8, zcu, shD, gA]
       refine hK16 _ _ ?_
       refine zbx hp (τ' := frL [(4, .d (iD (num ts3 t3)))]) (H' := zde ts3 μu3 μm3 base sh fs) ?_ ?_
       ·refine Rt.trans (Rt.gc (keep := [0,1,2,3,4,5,6]) (by decide) (by decide) (by simp [])) ?_
        refine Rt.end (zaa (zae _) rfl) ?_
        simp only [gcH, zbb, zcq, zap, zcb, gcV, Nat.reduceAdd, zcp, List.map_cons, List.map_nil, List.getD_cons_zero, List.getD_cons_succ, ↓reduceIte, Nat.reduceEqDiff, Option.map_some, List.cons_append, List.nil_append, zcq, zbu, zb8, zde, zcu, shD]; rw [ze0 hpq hfs]
       refine zao ?_
       refine zb3 (t := 4) rfl ?_
       show ∃ _, _
       refine ⟨ts3, μu3, μm3, t3, rfl, rfl, hS3, hpq, by omega, hm3, fun a => ?_⟩
       rw [hi3 a, hi2 a, hi1 a]
       simp only [zjs, o6, if_true]
       cases (nth fs g.a.toNat).eval a <;> cases (nth fs g.b.toNat).eval a <;> cases (nth fs g.c.toNat).eval a <;> rfl
      ·have o6 : ¬ g.op = 6 := by simp at ht; omega
       refine zan (hK3 _ _ ?_)
       refine zab hp zad hc rfl fun K17 hK17 => ?_
       simp -dsimp -implicitDefEqProofs (disch := first | omega | decide) only [q_r, zam, ↓reduceIte, Nat.reduceEqDiff, Nat.reduceAdd, ztw, zv5]
       refine zw4 (S := zde ts μu μm base sh fs) (T := [.cells (gA g)]) (jlj V base sh fs ts μu μm g hS hsh hV hfs hfl hg' hlen') rfl (by first | rfl | (simp [AV.allIs, AV.allI, zaz, za5, za3, okI, ltI, zak, zbj, zbu, zb8, zde, zcu, gA]; done) | (intro o ho; simp at ho; done)) (fun t => zbv (by first | rfl | (simp [AV.allIs, AV.allI, zaz, za5, za3, okI, ltI, zak, zbj, zbu, zb8, zde, zcu, gA]; done) | (intro o ho; simp at ho; done)) t) (by first | rfl | (simp [AV.allIs, AV.allI, zaz, za5, za3, okI, ltI, zak, zbj, zbu, zb8, zde, zcu, gA]; done) | (intro o ho; simp at ho; done)) (by first | rfl | (simp [AV.allIs, AV.allI, zaz, ltI, zak, zbj, zbu, zb8, zde, zcu]; done) | (intro o ho; simp at ho; done)) (by first | rfl | (simp [AV.allIs, AV.allI, zaz, zbu, zb8, zde, zcu, gA]; done) | (intro o ho; simp at ho; done)) ?_
       rintro _ _ ⟨ts1, μu1, μm1, t1, rfl, rfl, hS1, hp1, hl1, hm1, hi1⟩
       refine ⟨rfl, ?_⟩
       simp -dsimp -implicitDefEqProofs (disch := first | omega | decide) only [q_r, ↓reduceIte, iD, zbu, zb8, zde, zcu, shD, gA]
       refine hK17 _ _ ?_
       refine zbx hp (τ' := frL [(4, .d (iD (num ts1 t1)))]) (H' := zde ts1 μu1 μm1 base sh fs) ?_ ?_
       ·refine Rt.trans (Rt.gc (keep := [0,1,2,3,4,5,6]) (by decide) (by decide) (by simp [])) ?_
        refine Rt.end (zaa (zae _) rfl) ?_
        first | rfl | (simp only [gcH, zbb, zcq, zap, zcb, gcV, Nat.reduceAdd, zcp, List.map_cons, List.map_nil, List.getD_cons_zero, List.getD_cons_succ, ↓reduceIte, Nat.reduceEqDiff, Option.map_some, List.cons_append, List.nil_append, zcq, zbu, zb8, zde, zcu, shD]; first | done | rfl)
       refine zao ?_
       refine zb3 (t := 4) rfl ?_
       show ∃ _, _
       refine ⟨ts1, μu1, μm1, t1, rfl, rfl, hS1, hp1, by omega, hm1, fun a => ?_⟩
       rw [hi1 a]
       simp only [zjs, o1, o2, o3, o4, o5, o6, if_false]
end Go.Proofs.Ytgfnpfchdlcoeaa
