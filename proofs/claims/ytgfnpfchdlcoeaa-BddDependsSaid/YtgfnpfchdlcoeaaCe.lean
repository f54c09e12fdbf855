/- The builder's gate. -/
import Derived.Test.YtgfnpfchdlcoeaaQ
import Derived.Test.YtgfnpfchdlcoeaaCd
set_option linter.unusedVariables false
set_option linter.unusedSimpArgs false
namespace Go.Proofs.Ytgfnpfchdlcoeaa
open Go Go.RowKit
/-- The value of a gate in an assignment. -/
def znu (base : Nat) (sh : Sh) (fs : List T) (g : Gate) (a : Nat → Bool) : Bool :=
  if g.op = 1 then !(nth fs g.a.toNat).eval a
  else if g.op = 2 then (nth fs g.a.toNat).eval a && (nth fs g.b.toNat).eval a
  else if g.op = 3 then (nth fs g.a.toNat).eval a || (nth fs g.b.toNat).eval a
  else if g.op = 4 then (nth fs g.a.toNat).eval a != (nth fs g.b.toNat).eval a
  else if g.op = 5 then if (nth fs g.a.toNat).eval a then (nth fs g.b.toNat).eval a else (nth fs g.c.toNat).eval a
  else if g.op = 6 then (nth fs g.a.toNat).eval a && ((nth fs g.b.toNat).eval a || (nth fs g.c.toNat).eval a) || (nth fs g.b.toNat).eval a && (nth fs g.c.toNat).eval a
  else ztv base sh g.n.toNat (low fs [g.a, g.b, g.c] a 3) a
theorem zero_n {ts : List T} : (0 : Int) = (num ts (.leaf false) : Nat) := by rw [zjt]; rfl
theorem one_n {ts : List T} : (1 : Int) = (num ts (.leaf true) : Nat) := by rw [zph]; rfl
theorem pre_n {ts us : List T} (hp : ts <+: us) {t : T} (h : t ∈ full ts) : ((num ts t : Nat) : Int) = (num us t : Nat) := by rw [zfa hp h]
set_option maxRecDepth 100000 in
set_option linter.unusedVariables false in
set_option maxHeartbeats 4000000 in
theorem gate_c (V base : Nat) (sh : Sh) (fs : List T) (ts : List T) (μu μm : Mp) (g : Gate) (hS : MS V ts μu μm) (hsh : ShOk sh) (hV : zcr base sh ≤ V) (hfs : ∀ t ∈ fs, t ∈ full ts) (hfl : fs.length ≤ 1000000) (hg : GOp fs.length g) (hlen : ts.length + 32 * 2 ^ V ≤ bigB) : ScS Try.prog [0, 1, 2, 4, 5, 6] 62 [.op 4 0, .agg (gA g)] (bldH ts μu μm base sh fs) (BldK V (8 + 7 * 2 ^ V) ts base sh fs (znu base sh fs g)) := by
  refine zmr (fn := Try.f62) (by kernel_rfl) Try.func62 rfl (Nat.le_of_ble_eq_true rfl) fun c hc hp => ?_
  refine awp_sv2 ?_
  have hpos : 0 < 2 ^ V := Nat.two_pow_pos V
  have hlen' := hlen
  unfold bigB at hlen
  have hV9 := hS.V0
  have hg' := hg
  obtain ⟨a0, a1, b0, b1, c0, c1, n0, n1⟩ := hg
  have hx : nth fs g.a.toNat ∈ full ts := hfs _ (zdi (by omega))
  have hy : nth fs g.b.toNat ∈ full ts := hfs _ (zdi (by omega))
  have hz : nth fs g.c.toNat ∈ full ts := hfs _ (zdi (by omega))
  refine zac hp zao hc rfl fun K1 hK1 => ?_
  simp -dsimp -implicitDefEqProofs (disch := first | assumption | omega | (simp [maxLen, zab, zaw, zah, zan, za5] <;> omega) | decide) only [zag, zdy, zbd, zaj, zae, q_o, layF, ↓reduceIte, q_b, q_f, q_l, q_s, q_a, AV.one, D.one, Value.oneCell', q_n, Nat.reduceEqDiff, iD, Nat.reduceAdd, zbd, mgrH, mgrC, bldH, bldT, shD, gA]
  refine hK1 _ _ ?_
  refine zcs zao hc mixed rfl (q := 0) (by kernel_rfl) (by kernel_rfl) fun K2 hK2 => ?_
  simp -dsimp -implicitDefEqProofs (disch := first | assumption | omega | (simp [maxLen, zab, zaw, zah, zan, za5] <;> omega) | decide) only [zco, zdh, zcq, zem, ze2, zhc, zc4, zae, q_o, za8, zam, ixO, za2, zev, ↓reduceIte, q_b, ifp, q_f, q_l, List.append_nil, List.replicate_zero, and_true, q_n, Nat.reduceEqDiff, killAll, ze4, zcg, iD, Nat.reduceAdd, numD, zih, zfg, zfh, zea, zu1, sz_3, ag_3, zr5, zr6]
  refine hK2 _ _ ?_
  refine zas fun K3 hK3 => ?_
  refine zcx hp (τ' := frL [(0, .op 4 0), (3, .op 7 0), (5, .d (iD (num ts (nth fs g.a.toNat)))), (6, .d (iD (num ts (nth fs g.b.toNat)))), (7, .d (iD (num ts (nth fs g.c.toNat))))]) (H' := bldH ts μu μm base sh fs ++ [.cells (gA g)]) ?_ ?_
  · refine Rt.trans (Rt.gc (keep := [0,1,2,3,4,5,6,7]) (by decide) (by decide) (by simp [])) ?_
    refine Rt.end (zaa (zaa (zaa (zaa (zaa (zaq _) rfl) rfl) rfl) rfl) rfl) ?_
    first | rfl | (simp only [gcH, zb1, gc_m, zaz, gcVs, gcV, Nat.reduceAdd, posN, List.map_cons, List.map_nil, List.getD_cons_zero, List.getD_cons_succ, ↓reduceIte, Nat.reduceEqDiff, Option.map_some, List.cons_append, List.nil_append, gc_m, mgrH, mgrC, bldH, bldT, shD, gA]; first | done | rfl)
  refine zac hp zao hc rfl fun K4 hK4 => ?_
  simp -dsimp -implicitDefEqProofs (disch := first | assumption | omega | (simp [maxLen, zab, zaw, zah, zan, za5] <;> omega) | decide) only [zat, zb6, zaj, zae, za8, zam, ↓reduceIte, q_b, ifp, q_f, q_l, q_s, q_n, Nat.reduceEqDiff, iD, Nat.reduceAdd, mgrH, mgrC, bldH, bldT, shD, gA, zke, sz_3, ag_3]
  refine hK4 _ _ ?_
  refine zbg ?_
  refine zac hp zao hc rfl fun K5 hK5 => ?_
  simp -dsimp -implicitDefEqProofs (disch := first | assumption | omega | (simp [maxLen, zab, zaw, zah, zan, za5] <;> omega) | decide) only [zag, za1, zaj, zae, q_o, zay, zd9, ↓reduceIte, q_b, q_f]
  refine hK5 _ _ ?_
  refine zau rfl (fun ht => ?_) (fun ht => ?_)
  · have o1 : g.op = 1 := by simp at ht; omega
    refine zac hp zao hc rfl fun K6 hK6 => ?_
    simp -dsimp -implicitDefEqProofs (disch := first | assumption | omega | (simp [maxLen, zab, zaw, zah, zan, za5] <;> omega) | decide) only [zal, zat, zb6, ze9, zbh, zae, za8, zam, zev, ↓reduceIte, q_b, ifp, q_f, q_s, q_l, q_n, Nat.reduceEqDiff, Nat.reduceAdd, zgs, zhz, zh0]
    refine zun (S := mgrH ts μu μm) (T := bldT ts base sh fs ++ [.cells (gA g)]) (zp9 hS hx (zju _) (zr1 _) (by unfold bigB; omega) rfl zero_n one_n) rfl (by first | rfl | (simp [AV.allIs, AV.allI, zbs, zb3, zbz, okI, ltI, za6, zcp, mgrH, mgrC, bldH, bldT, gA]; done) | (intro o ho; simp at ho; done)) (fun t => zdb (by first | rfl | (simp [AV.allIs, AV.allI, zbs, zb3, zbz, okI, ltI, za6, zcp, mgrH, mgrC, bldH, bldT, gA]; done) | (intro o ho; simp at ho; done)) t) (by first | rfl | (simp [AV.allIs, AV.allI, zbs, zb3, zbz, okI, ltI, za6, zcp, mgrH, mgrC, bldH, bldT, gA]; done) | (intro o ho; simp at ho; done)) (by first | rfl | (simp [AV.allIs, AV.allI, zbs, ltI, za6, zcp, mgrH, mgrC]; done) | (intro o ho; simp at ho; done)) (by first | rfl | (simp [AV.allIs, AV.allI, zbs, okI, za6, mgrH, mgrC, bldT, gA]; done) | (intro o ho; simp at ho; done)) ?_
    rintro _ _ ⟨ts1, μu1, μm1, t1, rfl, rfl, hS1, hp1, hl1, hm1, hi1⟩
    refine ⟨rfl, ?_⟩
    simp -dsimp -implicitDefEqProofs (disch := first | assumption | omega | (simp [maxLen, zab, zaw, zah, zan, za5] <;> omega) | decide) only [zag, zaj, ↓reduceIte, q_b, q_f, q_s, iD, mgrH, mgrC, bldT, shD, gA]
    refine hK6 _ _ ?_
    refine zcx hp (τ' := frL [(4, .d (iD (num ts1 t1)))]) (H' := bldH ts1 μu1 μm1 base sh fs) ?_ ?_
    · refine Rt.trans (Rt.gc (keep := [0,1,2,3,4,5,6]) (by decide) (by decide) (by simp [])) ?_
      refine Rt.end (zaa (zaq _) rfl) ?_
      simp only [gcH, zb1, gc_m, zaz, gcVs, gcV, Nat.reduceAdd, posN, List.map_cons, List.map_nil, List.getD_cons_zero, List.getD_cons_succ, ↓reduceIte, Nat.reduceEqDiff, Option.map_some, List.cons_append, List.nil_append, gc_m, mgrH, mgrC, bldH, bldT, shD]; rw [zfy hp1 hfs]
    refine zbc ?_
    refine zc5 (t := 4) rfl ?_
    show ∃ _, _
    refine ⟨ts1, μu1, μm1, t1, rfl, rfl, hS1, hp1, by omega, hm1, fun a => ?_⟩
    rw [hi1 a]
    simp only [znu, o1, if_true]
    cases (nth fs g.a.toNat).eval a <;> rfl
  · have o1 : ¬ g.op = 1 := by simp at ht; omega
    refine zac hp zao hc rfl fun K7 hK7 => ?_
    simp -dsimp -implicitDefEqProofs (disch := first | assumption | omega | (simp [maxLen, zab, zaw, zah, zan, za5] <;> omega) | decide) only [zag, za1, zaj, zae, q_o, zay, zd9, ↓reduceIte, q_b, q_f, Nat.reduceEqDiff]
    refine hK7 _ _ ?_
    refine zau rfl (fun ht => ?_) (fun ht => ?_)
    · have o2 : g.op = 2 := by simp at ht; omega
      refine zac hp zao hc rfl fun K8 hK8 => ?_
      simp -dsimp -implicitDefEqProofs (disch := first | assumption | omega | (simp [maxLen, zab, zaw, zah, zan, za5] <;> omega) | decide) only [zal, zat, zb6, ze9, zbh, zae, za8, zam, zev, ↓reduceIte, q_b, ifp, q_f, q_s, q_l, q_n, Nat.reduceEqDiff, Nat.reduceAdd, zgs, zhz, zh0]
      refine zun (S := mgrH ts μu μm) (T := bldT ts base sh fs ++ [.cells (gA g)]) (zp9 hS hx hy (zju _) (by unfold bigB; omega) rfl rfl zero_n) rfl (by first | rfl | (simp [AV.allIs, AV.allI, zbs, zb3, zbz, okI, ltI, za6, zcp, mgrH, mgrC, bldH, bldT, gA]; done) | (intro o ho; simp at ho; done)) (fun t => zdb (by first | rfl | (simp [AV.allIs, AV.allI, zbs, zb3, zbz, okI, ltI, za6, zcp, mgrH, mgrC, bldH, bldT, gA]; done) | (intro o ho; simp at ho; done)) t) (by first | rfl | (simp [AV.allIs, AV.allI, zbs, zb3, zbz, okI, ltI, za6, zcp, mgrH, mgrC, bldH, bldT, gA]; done) | (intro o ho; simp at ho; done)) (by first | rfl | (simp [AV.allIs, AV.allI, zbs, ltI, za6, zcp, mgrH, mgrC]; done) | (intro o ho; simp at ho; done)) (by first | rfl | (simp [AV.allIs, AV.allI, zbs, okI, za6, mgrH, mgrC, bldT, gA]; done) | (intro o ho; simp at ho; done)) ?_
      rintro _ _ ⟨ts1, μu1, μm1, t1, rfl, rfl, hS1, hp1, hl1, hm1, hi1⟩
      refine ⟨rfl, ?_⟩
      simp -dsimp -implicitDefEqProofs (disch := first | assumption | omega | (simp [maxLen, zab, zaw, zah, zan, za5] <;> omega) | decide) only [zag, zaj, ↓reduceIte, q_b, q_f, q_s, iD, mgrH, mgrC, bldT, shD, gA]
      refine hK8 _ _ ?_
      refine zcx hp (τ' := frL [(4, .d (iD (num ts1 t1)))]) (H' := bldH ts1 μu1 μm1 base sh fs) ?_ ?_
      · refine Rt.trans (Rt.gc (keep := [0,1,2,3,4,5,6]) (by decide) (by decide) (by simp [])) ?_
        refine Rt.end (zaa (zaq _) rfl) ?_
        simp only [gcH, zb1, gc_m, zaz, gcVs, gcV, Nat.reduceAdd, posN, List.map_cons, List.map_nil, List.getD_cons_zero, List.getD_cons_succ, ↓reduceIte, Nat.reduceEqDiff, Option.map_some, List.cons_append, List.nil_append, gc_m, mgrH, mgrC, bldH, bldT, shD]; rw [zfy hp1 hfs]
      refine zbc ?_
      refine zc5 (t := 4) rfl ?_
      show ∃ _, _
      refine ⟨ts1, μu1, μm1, t1, rfl, rfl, hS1, hp1, by omega, hm1, fun a => ?_⟩
      rw [hi1 a]
      simp only [znu, o2, if_true]
      cases (nth fs g.a.toNat).eval a <;> simp [T.eval]
    · have o2 : ¬ g.op = 2 := by simp at ht; omega
      refine zac hp zao hc rfl fun K9 hK9 => ?_
      simp -dsimp -implicitDefEqProofs (disch := first | assumption | omega | (simp [maxLen, zab, zaw, zah, zan, za5] <;> omega) | decide) only [zag, za1, zaj, zae, q_o, zay, zd9, ↓reduceIte, q_b, q_f, Nat.reduceEqDiff]
      refine hK9 _ _ ?_
      refine zau rfl (fun ht => ?_) (fun ht => ?_)
      · have o3 : g.op = 3 := by simp at ht; omega
        refine zac hp zao hc rfl fun K10 hK10 => ?_
        simp -dsimp -implicitDefEqProofs (disch := first | assumption | omega | (simp [maxLen, zab, zaw, zah, zan, za5] <;> omega) | decide) only [zal, zat, zb6, ze9, zbh, zae, za8, zam, zev, ↓reduceIte, q_b, ifp, q_f, q_s, q_l, q_n, Nat.reduceEqDiff, Nat.reduceAdd, zgs, zhz, zh0]
        refine zun (S := mgrH ts μu μm) (T := bldT ts base sh fs ++ [.cells (gA g)]) (zp9 hS hx (zr1 _) hy (by unfold bigB; omega) rfl one_n rfl) rfl (by first | rfl | (simp [AV.allIs, AV.allI, zbs, zb3, zbz, okI, ltI, za6, zcp, mgrH, mgrC, bldH, bldT, gA]; done) | (intro o ho; simp at ho; done)) (fun t => zdb (by first | rfl | (simp [AV.allIs, AV.allI, zbs, zb3, zbz, okI, ltI, za6, zcp, mgrH, mgrC, bldH, bldT, gA]; done) | (intro o ho; simp at ho; done)) t) (by first | rfl | (simp [AV.allIs, AV.allI, zbs, zb3, zbz, okI, ltI, za6, zcp, mgrH, mgrC, bldH, bldT, gA]; done) | (intro o ho; simp at ho; done)) (by first | rfl | (simp [AV.allIs, AV.allI, zbs, ltI, za6, zcp, mgrH, mgrC]; done) | (intro o ho; simp at ho; done)) (by first | rfl | (simp [AV.allIs, AV.allI, zbs, okI, za6, mgrH, mgrC, bldT, gA]; done) | (intro o ho; simp at ho; done)) ?_
        rintro _ _ ⟨ts1, μu1, μm1, t1, rfl, rfl, hS1, hp1, hl1, hm1, hi1⟩
        refine ⟨rfl, ?_⟩
        simp -dsimp -implicitDefEqProofs (disch := first | assumption | omega | (simp [maxLen, zab, zaw, zah, zan, za5] <;> omega) | decide) only [zag, zaj, ↓reduceIte, q_b, q_f, q_s, iD, mgrH, mgrC, bldT, shD, gA]
        refine hK10 _ _ ?_
        refine zcx hp (τ' := frL [(4, .d (iD (num ts1 t1)))]) (H' := bldH ts1 μu1 μm1 base sh fs) ?_ ?_
        · refine Rt.trans (Rt.gc (keep := [0,1,2,3,4,5,6]) (by decide) (by decide) (by simp [])) ?_
          refine Rt.end (zaa (zaq _) rfl) ?_
          simp only [gcH, zb1, gc_m, zaz, gcVs, gcV, Nat.reduceAdd, posN, List.map_cons, List.map_nil, List.getD_cons_zero, List.getD_cons_succ, ↓reduceIte, Nat.reduceEqDiff, Option.map_some, List.cons_append, List.nil_append, gc_m, mgrH, mgrC, bldH, bldT, shD]; rw [zfy hp1 hfs]
        refine zbc ?_
        refine zc5 (t := 4) rfl ?_
        show ∃ _, _
        refine ⟨ts1, μu1, μm1, t1, rfl, rfl, hS1, hp1, by omega, hm1, fun a => ?_⟩
        rw [hi1 a]
        simp only [znu, o3, if_true]
        cases (nth fs g.a.toNat).eval a <;> simp [T.eval]
      · have o3 : ¬ g.op = 3 := by simp at ht; omega
        refine zac hp zao hc rfl fun K11 hK11 => ?_
        simp -dsimp -implicitDefEqProofs (disch := first | assumption | omega | (simp [maxLen, zab, zaw, zah, zan, za5] <;> omega) | decide) only [zag, za1, zaj, zae, q_o, zay, zd9, ↓reduceIte, q_b, q_f, Nat.reduceEqDiff]
        refine hK11 _ _ ?_
        refine zau rfl (fun ht => ?_) (fun ht => ?_)
        · have o4 : g.op = 4 := by simp at ht; omega
          refine zg1 zao hp hc mixed rfl [(0, []), (1, []), (2, []), (3, []), (4, []), (5, []), (6, []), (7, []), (8, []), (9, []), (11, []), (10, [3]), (12, []), (13, [])] [[], [0], [0, 1], [0, 1, 2], [], [], [5], [5, 6], [5, 6, 7], [], [5, 6, 7, 8, 9], [], [0, 1, 2, 3, 4, 5, 6, 7, 8, 9, 10, 11], [0, 1, 2, 3, 4, 5, 6, 7, 8, 9, 10, 11, 12]] 0 (by kernel_rfl) fun K12 hK12 => ?_
          simp -dsimp -implicitDefEqProofs (disch := first | assumption | omega | (simp [maxLen, zab, zaw, zah, zan, za5] <;> omega) | decide) only [zae, za8, zam, zev, ↓reduceIte, q_b, ifp, q_f, q_s, q_l, List.append_nil, List.replicate_zero, q_n, Nat.reduceEqDiff, Nat.reduceAdd, zgm, zfc, List.getD_cons_zero, List.getD_cons_succ, zg2, zgn, zll, zir, zfd, zgs, zhz, zh0]
          refine zp6 (S := mgrH ts μu μm) (T := bldT ts base sh fs ++ [.cells (gA g)]) (zp9 hS hy (zju _) (zr1 _) (by unfold bigB; omega) rfl zero_n one_n) rfl (Nat.le_of_ble_eq_true rfl) (by first | rfl | (simp [AV.allIs, AV.allI, zbs, zb3, zbz, okI, ltI, za6, zcp, mgrH, mgrC, bldH, bldT, gA]; done) | (intro o ho; simp at ho; done)) (fun t => zdb (by first | rfl | (simp [AV.allIs, AV.allI, zbs, zb3, zbz, okI, ltI, za6, zcp, mgrH, mgrC, bldH, bldT, gA]; done) | (intro o ho; simp at ho; done)) t) (fun t => zdb (by first | rfl | (simp [AV.allIs, AV.allI, zbs, zb3, zbz, okI, ltI, za6, zcp, mgrH, mgrC, bldH, bldT, gA]; done) | (intro o ho; simp at ho; done)) t) (by first | rfl | (simp [AV.allIs, AV.allI, zbs, zb3, zbz, okI, ltI, za6, zcp, mgrH, mgrC, bldH, bldT, gA]; done) | (intro o ho; simp at ho; done)) (by first | rfl | (simp [AV.allIs, AV.allI, zbs, ltI, za6, zcp, mgrH, mgrC]; done) | (intro o ho; simp at ho; done)) (by first | rfl | (simp [AV.allIs, AV.allI, zbs, okI, za6, mgrH, mgrC, bldT, gA]; done) | (intro o ho; simp at ho; done)) ?_
          rintro _ _ ⟨ts1, μu1, μm1, t1, rfl, rfl, hS1, hp1, hl1, hm1, hi1⟩
          refine ⟨rfl, ?_⟩
          simp -dsimp -implicitDefEqProofs (disch := first | assumption | omega | (simp [maxLen, zab, zaw, zah, zan, za5] <;> omega) | decide) only [zae, za8, ↓reduceIte, q_b, ifp, q_f, q_s, q_l, Nat.reduceEqDiff, iD, zfv, zf2, zfd, mgrH, mgrC, bldT, shD, gA, zhz, zh0]
          refine zp6 (S := mgrH ts1 μu1 μm1) (T := bldT ts base sh fs ++ [.cells (gA g)]) (zp9 hS1 (zdn hp1 hx) hm1 (zdn hp1 hy) (by unfold bigB; omega) (pre_n hp1 hx) rfl (pre_n hp1 hy)) rfl (Nat.le_of_ble_eq_true rfl) (by first | rfl | (simp [AV.allIs, AV.allI, zbs, zb3, zbz, okI, ltI, za6, zcp, mgrH, mgrC, bldH, bldT, gA]; done) | (intro o ho; simp at ho; done)) (fun t => zdb (by first | rfl | (simp [AV.allIs, AV.allI, zbs, zb3, zbz, okI, ltI, za6, zcp, mgrH, mgrC, bldH, bldT, gA]; done) | (intro o ho; simp at ho; done)) t) (fun t => zdb (by first | rfl | (simp [AV.allIs, AV.allI, zbs, zb3, zbz, okI, ltI, za6, zcp, mgrH, mgrC, bldH, bldT, gA]; done) | (intro o ho; simp at ho; done)) t) (by first | rfl | (simp [AV.allIs, AV.allI, zbs, zb3, zbz, okI, ltI, za6, zcp, mgrH, mgrC, bldH, bldT, gA]; done) | (intro o ho; simp at ho; done)) (by first | rfl | (simp [AV.allIs, AV.allI, zbs, ltI, za6, zcp, mgrH, mgrC]; done) | (intro o ho; simp at ho; done)) (by first | rfl | (simp [AV.allIs, AV.allI, zbs, okI, za6, mgrH, mgrC, bldT, gA]; done) | (intro o ho; simp at ho; done)) ?_
          rintro _ _ ⟨ts2, μu2, μm2, t2, rfl, rfl, hS2, hp2, hl2, hm2, hi2⟩
          refine ⟨rfl, ?_⟩
          have hpp := hp1.trans hp2
          simp -dsimp -implicitDefEqProofs (disch := first | assumption | omega | (simp [maxLen, zab, zaw, zah, zan, za5] <;> omega) | decide) only [↓reduceIte, q_b, q_f, q_s, iD, zfv, zid, ztc, mgrH, mgrC, bldT, shD, gA]
          refine hK12 _ _ ?_
          refine zcx hp (τ' := frL [(4, .d (iD (num ts2 t2)))]) (H' := bldH ts2 μu2 μm2 base sh fs) ?_ ?_
          · refine Rt.trans (Rt.gc (keep := [0,1,2,3,4,5,6]) (by decide) (by decide) (by simp [])) ?_
            refine Rt.end (zaa (zaq _) rfl) ?_
            simp only [gcH, zb1, gc_m, zaz, gcVs, gcV, Nat.reduceAdd, posN, List.map_cons, List.map_nil, List.getD_cons_zero, List.getD_cons_succ, ↓reduceIte, Nat.reduceEqDiff, Option.map_some, List.cons_append, List.nil_append, gc_m, mgrH, mgrC, bldH, bldT, shD]; rw [zfy hpp hfs]
          refine zbc ?_
          refine zc5 (t := 4) rfl ?_
          show ∃ _, _
          refine ⟨ts2, μu2, μm2, t2, rfl, rfl, hS2, hpp, by omega, hm2, fun a => ?_⟩
          rw [hi2 a, hi1 a]
          simp only [znu, o4, if_true]
          cases (nth fs g.a.toNat).eval a <;> cases (nth fs g.b.toNat).eval a <;> rfl
        · have o4 : ¬ g.op = 4 := by simp at ht; omega
          refine zac hp zao hc rfl fun K13 hK13 => ?_
          simp -dsimp -implicitDefEqProofs (disch := first | assumption | omega | (simp [maxLen, zab, zaw, zah, zan, za5] <;> omega) | decide) only [zag, za1, zaj, zae, q_o, zay, zd9, ↓reduceIte, q_b, q_f, Nat.reduceEqDiff]
          refine hK13 _ _ ?_
          refine zau rfl (fun ht => ?_) (fun ht => ?_)
          · have o5 : g.op = 5 := by simp at ht; omega
            refine zac hp zao hc rfl fun K14 hK14 => ?_
            simp -dsimp -implicitDefEqProofs (disch := first | assumption | omega | (simp [maxLen, zab, zaw, zah, zan, za5] <;> omega) | decide) only [zal, zat, zb6, ze9, zbh, zae, za8, zam, zev, ↓reduceIte, q_b, ifp, q_f, q_s, q_l, q_n, Nat.reduceEqDiff, Nat.reduceAdd, zgs, zhz, zh0]
            refine zun (S := mgrH ts μu μm) (T := bldT ts base sh fs ++ [.cells (gA g)]) (zp9 hS hx hy hz (by unfold bigB; omega) rfl rfl rfl) rfl (by first | rfl | (simp [AV.allIs, AV.allI, zbs, zb3, zbz, okI, ltI, za6, zcp, mgrH, mgrC, bldH, bldT, gA]; done) | (intro o ho; simp at ho; done)) (fun t => zdb (by first | rfl | (simp [AV.allIs, AV.allI, zbs, zb3, zbz, okI, ltI, za6, zcp, mgrH, mgrC, bldH, bldT, gA]; done) | (intro o ho; simp at ho; done)) t) (by first | rfl | (simp [AV.allIs, AV.allI, zbs, zb3, zbz, okI, ltI, za6, zcp, mgrH, mgrC, bldH, bldT, gA]; done) | (intro o ho; simp at ho; done)) (by first | rfl | (simp [AV.allIs, AV.allI, zbs, ltI, za6, zcp, mgrH, mgrC]; done) | (intro o ho; simp at ho; done)) (by first | rfl | (simp [AV.allIs, AV.allI, zbs, okI, za6, mgrH, mgrC, bldT, gA]; done) | (intro o ho; simp at ho; done)) ?_
            rintro _ _ ⟨ts1, μu1, μm1, t1, rfl, rfl, hS1, hp1, hl1, hm1, hi1⟩
            refine ⟨rfl, ?_⟩
            simp -dsimp -implicitDefEqProofs (disch := first | assumption | omega | (simp [maxLen, zab, zaw, zah, zan, za5] <;> omega) | decide) only [zag, zaj, ↓reduceIte, q_b, q_f, q_s, iD, mgrH, mgrC, bldT, shD, gA]
            refine hK14 _ _ ?_
            refine zcx hp (τ' := frL [(4, .d (iD (num ts1 t1)))]) (H' := bldH ts1 μu1 μm1 base sh fs) ?_ ?_
            · refine Rt.trans (Rt.gc (keep := [0,1,2,3,4,5,6]) (by decide) (by decide) (by simp [])) ?_
              refine Rt.end (zaa (zaq _) rfl) ?_
              simp only [gcH, zb1, gc_m, zaz, gcVs, gcV, Nat.reduceAdd, posN, List.map_cons, List.map_nil, List.getD_cons_zero, List.getD_cons_succ, ↓reduceIte, Nat.reduceEqDiff, Option.map_some, List.cons_append, List.nil_append, gc_m, mgrH, mgrC, bldH, bldT, shD]; rw [zfy hp1 hfs]
            refine zbc ?_
            refine zc5 (t := 4) rfl ?_
            show ∃ _, _
            refine ⟨ts1, μu1, μm1, t1, rfl, rfl, hS1, hp1, by omega, hm1, fun a => ?_⟩
            rw [hi1 a]
            simp [znu, o5]
          · have o5 : ¬ g.op = 5 := by simp at ht; omega
            refine zac hp zao hc rfl fun K15 hK15 => ?_
            simp -dsimp -implicitDefEqProofs (disch := first | assumption | omega | (simp [maxLen, zab, zaw, zah, zan, za5] <;> omega) | decide) only [zag, za1, zaj, zae, q_o, zay, zd9, ↓reduceIte, q_b, q_f, Nat.reduceEqDiff]
            refine hK15 _ _ ?_
            refine zau rfl (fun ht => ?_) (fun ht => ?_)
            · have o6 : g.op = 6 := by simp at ht; omega
              refine zg1 zao hp hc mixed rfl [(0, []), (1, []), (2, []), (3, []), (4, []), (5, []), (6, []), (7, []), (8, []), (9, []), (10, []), (12, []), (13, []), (14, []), (15, []), (16, []), (17, []), (11, [3, 15]), (18, [3]), (19, []), (20, [])] [[], [0], [0, 1], [0, 1, 2], [], [], [5], [5, 6], [5, 6, 7], [], [], [5, 6, 7, 8, 9, 10], [], [12], [12, 13], [12, 13, 14], [], [], [5, 6, 7, 8, 9, 10, 11, 12, 13, 14, 15, 16, 17], [0, 1, 2, 3, 4, 5, 6, 7, 8, 9, 10, 11, 12, 13, 14, 15, 16, 17, 18], [0, 1, 2, 3, 4, 5, 6, 7, 8, 9, 10, 11, 12, 13, 14, 15, 16, 17, 18, 19]] 0 (by kernel_rfl) fun K16 hK16 => ?_
              simp -dsimp -implicitDefEqProofs (disch := first | assumption | omega | (simp [maxLen, zab, zaw, zah, zan, za5] <;> omega) | decide) only [zae, za8, zam, zev, ↓reduceIte, q_b, ifp, q_f, q_s, q_l, List.append_nil, List.replicate_zero, q_n, Nat.reduceEqDiff, Nat.reduceAdd, zgm, zfc, List.getD_cons_zero, List.getD_cons_succ, zg2, zgn, zll, zir, zfd, zgs, zhz, zh0]
              refine zp6 (S := mgrH ts μu μm) (T := bldT ts base sh fs ++ [.cells (gA g)]) (zp9 hS hy (zr1 _) hz (by unfold bigB; omega) rfl one_n rfl) rfl (Nat.le_of_ble_eq_true rfl) (by first | rfl | (simp [AV.allIs, AV.allI, zbs, zb3, zbz, okI, ltI, za6, zcp, mgrH, mgrC, bldH, bldT, gA]; done) | (intro o ho; simp at ho; done)) (fun t => zdb (by first | rfl | (simp [AV.allIs, AV.allI, zbs, zb3, zbz, okI, ltI, za6, zcp, mgrH, mgrC, bldH, bldT, gA]; done) | (intro o ho; simp at ho; done)) t) (fun t => zdb (by first | rfl | (simp [AV.allIs, AV.allI, zbs, zb3, zbz, okI, ltI, za6, zcp, mgrH, mgrC, bldH, bldT, gA]; done) | (intro o ho; simp at ho; done)) t) (by first | rfl | (simp [AV.allIs, AV.allI, zbs, zb3, zbz, okI, ltI, za6, zcp, mgrH, mgrC, bldH, bldT, gA]; done) | (intro o ho; simp at ho; done)) (by first | rfl | (simp [AV.allIs, AV.allI, zbs, ltI, za6, zcp, mgrH, mgrC]; done) | (intro o ho; simp at ho; done)) (by first | rfl | (simp [AV.allIs, AV.allI, zbs, okI, za6, mgrH, mgrC, bldT, gA]; done) | (intro o ho; simp at ho; done)) ?_
              rintro _ _ ⟨ts1, μu1, μm1, t1, rfl, rfl, hS1, hp1, hl1, hm1, hi1⟩
              refine ⟨rfl, ?_⟩
              simp -dsimp -implicitDefEqProofs (disch := first | assumption | omega | (simp [maxLen, zab, zaw, zah, zan, za5] <;> omega) | decide) only [zae, za8, ↓reduceIte, q_b, ifp, q_f, q_s, q_l, Nat.reduceEqDiff, iD, zfv, zf2, zfd, mgrH, mgrC, bldT, shD, gA, zhz, zh0]
              refine zp6 (S := mgrH ts1 μu1 μm1) (T := bldT ts base sh fs ++ [.cells (gA g)]) (zp9 hS1 (zdn hp1 hy) (zdn hp1 hz) (zju _) (by unfold bigB; omega) (pre_n hp1 hy) (pre_n hp1 hz) zero_n) rfl (Nat.le_of_ble_eq_true rfl) (by first | rfl | (simp [AV.allIs, AV.allI, zbs, zb3, zbz, okI, ltI, za6, zcp, mgrH, mgrC, bldH, bldT, gA]; done) | (intro o ho; simp at ho; done)) (fun t => zdb (by first | rfl | (simp [AV.allIs, AV.allI, zbs, zb3, zbz, okI, ltI, za6, zcp, mgrH, mgrC, bldH, bldT, gA]; done) | (intro o ho; simp at ho; done)) t) (fun t => zdb (by first | rfl | (simp [AV.allIs, AV.allI, zbs, zb3, zbz, okI, ltI, za6, zcp, mgrH, mgrC, bldH, bldT, gA]; done) | (intro o ho; simp at ho; done)) t) (by first | rfl | (simp [AV.allIs, AV.allI, zbs, zb3, zbz, okI, ltI, za6, zcp, mgrH, mgrC, bldH, bldT, gA]; done) | (intro o ho; simp at ho; done)) (by first | rfl | (simp [AV.allIs, AV.allI, zbs, ltI, za6, zcp, mgrH, mgrC]; done) | (intro o ho; simp at ho; done)) (by first | rfl | (simp [AV.allIs, AV.allI, zbs, okI, za6, mgrH, mgrC, bldT, gA]; done) | (intro o ho; simp at ho; done)) ?_
              rintro _ _ ⟨ts2, μu2, μm2, t2, rfl, rfl, hS2, hp2, hl2, hm2, hi2⟩
              refine ⟨rfl, ?_⟩
              have hpp := hp1.trans hp2
              simp -dsimp -implicitDefEqProofs (disch := first | assumption | omega | (simp [maxLen, zab, zaw, zah, zan, za5] <;> omega) | decide) only [zae, za8, ↓reduceIte, q_b, ifp, q_f, q_s, q_l, Nat.reduceEqDiff, iD, zfv, zf2, zfd, mgrH, mgrC, bldT, shD, gA, zhz, zh0]
              refine zp6 (S := mgrH ts2 μu2 μm2) (T := bldT ts base sh fs ++ [.cells (gA g)]) (zp9 hS2 (zdn hpp hx) (zdn hp2 hm1) hm2 (by unfold bigB; omega) (pre_n hpp hx) (pre_n hp2 hm1) rfl) rfl (Nat.le_of_ble_eq_true rfl) (by first | rfl | (simp [AV.allIs, AV.allI, zbs, zb3, zbz, okI, ltI, za6, zcp, mgrH, mgrC, bldH, bldT, gA]; done) | (intro o ho; simp at ho; done)) (fun t => zdb (by first | rfl | (simp [AV.allIs, AV.allI, zbs, zb3, zbz, okI, ltI, za6, zcp, mgrH, mgrC, bldH, bldT, gA]; done) | (intro o ho; simp at ho; done)) t) (fun t => zdb (by first | rfl | (simp [AV.allIs, AV.allI, zbs, zb3, zbz, okI, ltI, za6, zcp, mgrH, mgrC, bldH, bldT, gA]; done) | (intro o ho; simp at ho; done)) t) (by first | rfl | (simp [AV.allIs, AV.allI, zbs, zb3, zbz, okI, ltI, za6, zcp, mgrH, mgrC, bldH, bldT, gA]; done) | (intro o ho; simp at ho; done)) (by first | rfl | (simp [AV.allIs, AV.allI, zbs, ltI, za6, zcp, mgrH, mgrC]; done) | (intro o ho; simp at ho; done)) (by first | rfl | (simp [AV.allIs, AV.allI, zbs, okI, za6, mgrH, mgrC, bldT, gA]; done) | (intro o ho; simp at ho; done)) ?_
              rintro _ _ ⟨ts3, μu3, μm3, t3, rfl, rfl, hS3, hp3, hl3, hm3, hi3⟩
              refine ⟨rfl, ?_⟩
              have hpq := hpp.trans hp3
              simp -dsimp -implicitDefEqProofs (disch := first | assumption | omega | (simp [maxLen, zab, zaw, zah, zan, za5] <;> omega) | decide) only [↓reduceIte, q_b, q_f, q_s, iD, zfv, zid, ztc, mgrH, mgrC, bldT, shD, gA]
              refine hK16 _ _ ?_
              refine zcx hp (τ' := frL [(4, .d (iD (num ts3 t3)))]) (H' := bldH ts3 μu3 μm3 base sh fs) ?_ ?_
              · refine Rt.trans (Rt.gc (keep := [0,1,2,3,4,5,6]) (by decide) (by decide) (by simp [])) ?_
                refine Rt.end (zaa (zaq _) rfl) ?_
                simp only [gcH, zb1, gc_m, zaz, gcVs, gcV, Nat.reduceAdd, posN, List.map_cons, List.map_nil, List.getD_cons_zero, List.getD_cons_succ, ↓reduceIte, Nat.reduceEqDiff, Option.map_some, List.cons_append, List.nil_append, gc_m, mgrH, mgrC, bldH, bldT, shD]; rw [zfy hpq hfs]
              refine zbc ?_
              refine zc5 (t := 4) rfl ?_
              show ∃ _, _
              refine ⟨ts3, μu3, μm3, t3, rfl, rfl, hS3, hpq, by omega, hm3, fun a => ?_⟩
              rw [hi3 a, hi2 a, hi1 a]
              simp only [znu, o6, if_true]
              cases (nth fs g.a.toNat).eval a <;> cases (nth fs g.b.toNat).eval a <;> cases (nth fs g.c.toNat).eval a <;> rfl
            · have o6 : ¬ g.op = 6 := by simp at ht; omega
              refine zbb (hK3 _ _ ?_)
              refine zac hp zao hc rfl fun K17 hK17 => ?_
              simp -dsimp -implicitDefEqProofs (disch := first | assumption | omega | (simp [maxLen, zab, zaw, zah, zan, za5] <;> omega) | decide) only [zal, zat, zbh, zae, q_o, za8, ↓reduceIte, q_b, ifp, q_f, q_s, q_l, q_n, Nat.reduceEqDiff, zak, Nat.reduceAdd, zr4, ztr]
              refine zun (S := bldH ts μu μm base sh fs) (T := [.cells (gA g)]) (read_c2 V base sh fs ts μu μm g hS hsh hV hfs hfl hg' hlen') rfl (by first | rfl | (simp [AV.allIs, AV.allI, zbs, zb3, zbz, okI, ltI, za6, zcp, mgrH, mgrC, bldH, bldT, gA]; done) | (intro o ho; simp at ho; done)) (fun t => zdb (by first | rfl | (simp [AV.allIs, AV.allI, zbs, zb3, zbz, okI, ltI, za6, zcp, mgrH, mgrC, bldH, bldT, gA]; done) | (intro o ho; simp at ho; done)) t) (by first | rfl | (simp [AV.allIs, AV.allI, zbs, zb3, zbz, okI, ltI, za6, zcp, mgrH, mgrC, bldH, bldT, gA]; done) | (intro o ho; simp at ho; done)) (by first | rfl | (simp [AV.allIs, AV.allI, zbs, ltI, za6, zcp, mgrH, mgrC, bldH, bldT]; done) | (intro o ho; simp at ho; done)) (by first | rfl | (simp [AV.allIs, AV.allI, zbs, mgrH, mgrC, bldH, bldT, gA]; done) | (intro o ho; simp at ho; done)) ?_
              rintro _ _ ⟨ts1, μu1, μm1, t1, rfl, rfl, hS1, hp1, hl1, hm1, hi1⟩
              refine ⟨rfl, ?_⟩
              simp -dsimp -implicitDefEqProofs (disch := first | assumption | omega | (simp [maxLen, zab, zaw, zah, zan, za5] <;> omega) | decide) only [zag, zaj, ↓reduceIte, q_b, q_f, q_s, iD, mgrH, mgrC, bldH, bldT, shD, gA]
              refine hK17 _ _ ?_
              refine zcx hp (τ' := frL [(4, .d (iD (num ts1 t1)))]) (H' := bldH ts1 μu1 μm1 base sh fs) ?_ ?_
              · refine Rt.trans (Rt.gc (keep := [0,1,2,3,4,5,6]) (by decide) (by decide) (by simp [])) ?_
                refine Rt.end (zaa (zaq _) rfl) ?_
                first | rfl | (simp only [gcH, zb1, gc_m, zaz, gcVs, gcV, Nat.reduceAdd, posN, List.map_cons, List.map_nil, List.getD_cons_zero, List.getD_cons_succ, ↓reduceIte, Nat.reduceEqDiff, Option.map_some, List.cons_append, List.nil_append, gc_m, mgrH, mgrC, bldH, bldT, shD]; first | done | rfl)
              refine zbc ?_
              refine zc5 (t := 4) rfl ?_
              show ∃ _, _
              refine ⟨ts1, μu1, μm1, t1, rfl, rfl, hS1, hp1, by omega, hm1, fun a => ?_⟩
              rw [hi1 a]
              simp only [znu, o1, o2, o3, o4, o5, o6, if_false]
end Go.Proofs.Ytgfnpfchdlcoeaa
