/- The count. -/
import Derived.Test.YtgfnpfchdlcoeaaQ
import Derived.Test.YtgfnpfchdlcoeaaCl
set_option linter.unusedVariables false
set_option linter.unusedSimpArgs false
namespace Go.Proofs.Ytgfnpfchdlcoeaa
open Go Go.RowKit
/-- How many assignments of the variables from k on make it true. -/
def cntT (n : Nat) : T → Nat → Nat
  | .leaf b, k => if b then 2 ^ (n - k) else 0
  | .node v l h, k => (cntT n l (v + 1) + cntT n h (v + 1)) * 2 ^ (v - k)
def cntS (n : Nat) (t : T) : Nat := cntT n t.l (t.v + 1) + cntT n t.h (t.v + 1)
theorem zt1 {n : Nat} : ∀ {t : T} {k j : Nat}, t.Ok n j → k ≤ j → k ≤ n → cntT n t k ≤ 2 ^ (n - k)
  | .leaf b, k, j, _, _, _ => by cases b <;> simp [cntT]
  | .node v l h, k, j, ht, hj, hk => by
    have h1 := ht.1
    have h2 := ht.2.1
    have hl := zt1 (k := v + 1) ht.2.2.2.1 (Nat.le_refl _) (by omega)
    have hh := zt1 (k := v + 1) ht.2.2.2.2 (Nat.le_refl _) (by omega)
    unfold cntT
    have e : 2 ^ (n - k) = (2 ^ (n - (v + 1)) + 2 ^ (n - (v + 1))) * 2 ^ (v - k) := by
      rw [← Nat.two_mul, ← Nat.pow_succ', ← Nat.pow_add]; congr 1; omega
    rw [e]
    exact Nat.mul_le_mul_right _ (by omega)
theorem pow_60 {m : Nat} (h : m ≤ 60) : 2 ^ m ≤ 1152921504606846976 := by
  have : (2 : Nat) ^ m ≤ 2 ^ 60 := Nat.pow_le_pow_right (by decide) h
  omega
theorem zku {a b m : Nat} (h : a * 2 ^ m = b) (hb : b ≤ 1152921504606846976) (hm : m ≤ 60) : IntKind.i64.wrap ((a : Int) * 2 ^ min m 64) = (b : Int) := by
  rw [Nat.min_eq_left (by omega)]
  have e : ((a : Int) * 2 ^ m) = ((b : Nat) : Int) := by rw [← h]; push_cast; rfl
  rw [e]
  exact zh2 (by omega) (by omega)
structure COk (us : List T) (n : Nat) (μ : Mp) : Prop where
  ok : OkM Try.prog tI μ
  inv : ∀ t ∈ full us, ∀ u, getM (vi (num us t)) μ = some u → u = vi (cntS n t)
theorem COk.nil (us : List T) (n : Nat) : COk us n ([], 0) := ⟨OkM.nil tI 0, fun t ht u hu => by cases hu⟩
theorem COk.add {us : List T} {n : Nat} {μ : Mp} (h : COk us n μ) (hl : us.length ≤ bigB) {t : T} (ht : t ∈ full us) : COk us n (putM (vi (num us t)) (vi (cntS n t)) μ) := by
  have hk : KeyP Try.prog tI (vi (num us t)) := keyI (zk5 hl ht)
  classical
  refine ⟨h.ok.put hk, fun s hs u hu => ?_⟩
  rw [zie hk.1 (keyI (zk5 hl hs)).1] at hu
  split at hu
  · rename_i e
    rw [zey hs ht (zqx e)]
    exact (Option.some.inj hu).symm
  · exact h.inv s hs u hu
def cntH (us : List T) (rs : List Nat) (n : Nat) (μ : Mp) : za0 := [.cells (avs (bddC (erow us) rs)), .cells [.d (iD n)], mO μ, .cells [.om 2], .cells [.clo (.func 70) [] [.op 1 0, .op 0 0, .op 3 0, .op 4 0]]]
def CntK (us : List T) (rs : List Nat) (n : Nat) (f : T) (k : Nat) (x : AV) (S' : za0) : Prop := ∃ μ', S' = cntH us rs n μ' ∧ x = .d (iD (cntT n f k)) ∧ COk us n μ'
def CntC (us : List T) (rs : List Nat) (n : Nat) (f : T) : Prop := ∀ (k : Nat) (ki : Int) (μ : Mp), ki = k → f ∈ full us → f.Ok n k → k ≤ n → COk us n μ →
  ScS Try.prog [0, 1, 2, 3, 4] 70 [.d (iD (num us f)), .d (iD ki), .op 1 0, .op 0 0, .op 3 0, .op 4 0] (cntH us rs n μ) (CntK us rs n f k)
theorem awp_sv6 {P : Program} {c : Cx} {H : za0} {code : Code} {QQ : Exit → Fr → za0 → Prop} {x y z u v t : AV} (h : AWp P c code QQ (frL [(0, x), (1, y), (2, z), (3, u), (4, v), (5, t)]) H) : AWp P c code QQ (zh5 [x, y, z, u, v, t]) H := zch (zaa (zaa (zaa (zaa (zaa (zaa (zaq _) rfl) rfl) rfl) rfl) rfl) rfl) h
set_option maxRecDepth 100000 in
set_option linter.unusedVariables false in
set_option maxHeartbeats 4000000 in
theorem cnt_s (V : Nat) (us : List T) (rs : List Nat) (hr : RowOk V us) (hul : us.length ≤ bigB) (n : Nat) (hn : n ≤ 60) (f : T) (ih : ∀ s : T, s.sz < f.sz → CntC us rs n s) (k : Nat) (ki : Int) (μ : Mp) (hki : ki = k) (hf : f ∈ full us) (hok : f.Ok n k) (hkn : k ≤ n) (hC : COk us n μ) : ScS Try.prog [0, 1, 2, 3, 4] 70 [.d (iD (num us f)), .d (iD ki), .op 1 0, .op 0 0, .op 3 0, .op 4 0] (cntH us rs n μ) (CntK us rs n f k) := by
  refine zmr (fn := Try.f70) (by kernel_rfl) Try.func70 rfl (Nat.le_of_ble_eq_true rfl) fun c hc hp => ?_
  refine awp_sv6 ?_
  subst hki
  have hul0 := hul
  unfold bigB at hul
  have hel := zai us
  have nf := zer hf
  have hk : KeyP Try.prog tI (.int .i64 (num us f)) := keyI (zk5 hul0 hf)
  have hcb := zt1 hok (Nat.le_refl _) hkn
  have hpw := pow_60 (m := n - k) (by omega)
  refine zac hp zao hc rfl fun K1 hK1 => ?_
  simp -dsimp -implicitDefEqProofs (disch := first | assumption | omega | (simp [maxLen, zab, zah, zai] <;> omega) | decide) only [zag, zaj, q_f, zav, zap, iD, cntH, bddC]
  refine hK1 _ _ ?_
  refine zas fun K2 hK2 => ?_
  refine zac hp zao hc rfl fun K3 hK3 => ?_
  rcases zji f with hlf | hlf
  · have hnl := zt0 (us := us) hlf
    have t0 : ((n : Int) - k).toNat = n - k := by omega
    have hw : IntKind.i64.wrap ((num us f : Int) * 2 ^ min (n - k) 64) = (cntT n f k : Nat) := zku (by
      cases f with
      | leaf b => cases b <;> simp [zjt, zph, cntT]
      | node v l h => cases hlf) (by omega) (by omega)
    simp -dsimp -implicitDefEqProofs (disch := first | assumption | omega | (simp [maxLen, zab, zah, zai] <;> omega) | decide) only [zal, za1, zaj, zae, q_o, zay, zcz, ↓reduceIte, q_b, q_f, Nat.reduceEqDiff]
    refine hK3 _ _ ?_
    refine zau rfl (fun ht => ?_) (fun ht => ?_)
    · refine zac hp zao hc rfl fun K4 hK4 => ?_
      simp -dsimp -implicitDefEqProofs (disch := first | assumption | omega | (simp [maxLen, zab, zah, zai] <;> omega) | decide) only [zal, zag, zat, za1, zaj, zae, q_o, za8, zay, zg7, zp5, ↓reduceIte, q_b, ifp, q_f, q_l, q_n, Nat.reduceEqDiff, Nat.reduceAdd, t0, hw, sz_3, ag_3]
      refine hK4 _ _ ?_
      refine zcx hp (τ' := frL [(8, .d (iD (cntT n f k)))]) (H' := cntH us rs n μ) ?_ ?_
      · refine Rt.trans (Rt.gc (keep := [0,1,2,3,4]) (by decide) (by decide) (by simp [])) ?_
        refine Rt.end (zaa (zaq _) rfl) ?_
        simp only [gcH, zb1, gc_m, gcVs, gcV, Nat.reduceAdd, posN, zav, zap, List.map_cons, List.map_nil, List.getD_cons_zero, List.getD_cons_succ, ↓reduceIte, Nat.reduceEqDiff, Option.map_some, gc_m, cntH, bddC]; rfl
      refine zbc ?_
      refine zc5 (t := 8) rfl ?_
      show ∃ _, _
      exact ⟨μ, rfl, rfl, hC⟩
    · simp at ht; omega
  · have hn2 := zjq hr hf hlf
    simp -dsimp -implicitDefEqProofs (disch := first | assumption | omega | (simp [maxLen, zab, zah, zai] <;> omega) | decide) only [zal, za1, zaj, zae, q_o, zay, zcz, ↓reduceIte, q_b, q_f, Nat.reduceEqDiff]
    refine hK3 _ _ ?_
    refine zau rfl (fun ht => ?_) (fun ht => ?_)
    · simp at ht; omega
    · refine zbb (hK2 _ _ ?_)
      obtain ⟨v, lo, hi, rfl⟩ := zln hlf
      have hx1 : ((num us (.node v lo hi) : Int) - 2).toNat = num us (.node v lo hi) - 2 := by omega
      have hg := zmm hr hf hlf
      have hcl : lo ∈ full us := (hr.chf hf).1
      have hch : hi ∈ full us := (hr.chf hf).2
      have hkv : k ≤ v := hok.1
      have hvn : v < n := hok.2.1
      have hol : lo.Ok n (v + 1) := hok.2.2.2.1
      have hoh : hi.Ok n (v + 1) := hok.2.2.2.2
      have hcl1 := zt1 hol (Nat.le_refl _) (by omega)
      have hch1 := zt1 hoh (Nat.le_refl _) (by omega)
      have hp1 := pow_60 (m := n - (v + 1)) (by omega)
      refine zac hp zao hc rfl fun K5 hK5 => ?_
      simp -dsimp -implicitDefEqProofs (disch := first | assumption | omega | (simp [maxLen, zab, zah, zai] <;> omega) | decide) only [zal, zat, zb6, zdo, za1, zcm, zbu, zbd, zaj, zae, q_o, za8, zam, ixO, za2, zay, layF, zb4, zg7, ↓reduceIte, q_b, ifp, q_f, q_s, q_l, zca, q_a, D.one, Value.oneCell', q_n, Nat.reduceEqDiff, zdk, zav, zap, iD, Nat.reduceAdd, zbd, hx1, zqw, hg, ndC, ndOf, T.v, T.l, T.h, zdc, zen, zeo, zep, zis, zje, zp7]
      refine hK5 _ _ ?_
      refine zas fun K6 hK6 => ?_
      have hJ6 : ∀ τ' H', (∃ τ1 H1, ∃ (μ' : Mp), (COk us n μ' ∧ getM (.int .i64 (num us (.node v lo hi))) μ' = some (vi (cntS n (.node v lo hi)))) ∧ H1 = cntH us rs n μ' ++ [.cells [.d (iD v), .d (iD (num us lo)), .d (iD (num us hi))]] ∧ τ1 = frL [(0, .d (iD (num us (.node v lo hi)))), (1, .d (iD k)), (4, .op 3 0), (9, .op 5 0)] ∧ Rt [0, 1, 2, 3, 4] τ' H' τ1 H1) → K6 τ' H' := by
        rintro τ' H' ⟨_, _, μ', ⟨hC', hgm'⟩, rfl, rfl, hrt⟩
        refine hK6 _ _ (zcx hp hrt ?_)
        clear hrt
        have t1 : ((v : Int) - k).toNat = v - k := by omega
        have hw : IntKind.i64.wrap ((cntS n (.node v lo hi) : Int) * 2 ^ min (v - k) 64) = (cntT n (.node v lo hi) k : Nat) := zku rfl (by omega) (by omega)
        refine zac hp zao hc rfl fun K7 hK7 => ?_
        simp -dsimp -implicitDefEqProofs (disch := first | assumption | omega | (simp [maxLen, zab, zah, zai] <;> omega) | decide) only [zal, zag, zat, zb6, za1, zew, zaj, zae, q_o, za8, zam, zay, zg7, zp5, ↓reduceIte, q_b, ifp, q_f, q_l, q_s, q_n, Nat.reduceEqDiff, zav, zap, iD, Nat.reduceAdd, zg8, zi0, cntH, bddC, ziz, lkK_f mtI hk hC'.ok, hgm', Option.getD_some, vi, t1, hw, zjp, zk4, zdf, sz_3, ag_3]
        refine hK7 _ _ ?_
        refine zcx hp (τ' := frL [(8, .d (iD (cntT n (.node v lo hi) k)))]) (H' := cntH us rs n μ') ?_ ?_
        · refine Rt.trans (Rt.gc (keep := [0,1,2,3,4]) (by decide) (by decide) (by simp [])) ?_
          refine Rt.end (zaa (zaq _) rfl) ?_
          first | rfl | (simp only [gcH, zb1, gc_m, gcVs, gcV, Nat.reduceAdd, posN, zav, zap, List.map_cons, List.map_nil, List.getD_cons_zero, List.getD_cons_succ, ↓reduceIte, Nat.reduceEqDiff, Option.map_some, gc_m, cntH, bddC]; first | done | rfl)
        refine zbc ?_
        refine zc5 (t := 8) rfl ?_
        show ∃ _, _
        exact ⟨μ', rfl, rfl, hC'⟩
      refine zac hp zao hc rfl fun K8 hK8 => ?_
      rcases hgm : getM (.int .i64 (num us (.node v lo hi))) μ with _ | u
      · skip
        simp -dsimp -implicitDefEqProofs (disch := first | assumption | omega | (simp [maxLen, zab, zah, zai] <;> omega) | decide) only [zal, zag, zat, zei, zew, zaj, zae, za8, ↓reduceIte, q_b, ifp, q_f, q_l, q_n, Nat.reduceEqDiff, Nat.reduceAdd, zg8, zi0, ziz, zti mtI hk hC.ok, hgm, Option.getD_none, Option.isSome_none, zjp, zk4]
        refine hK8 _ _ ?_
        refine zac hp zao hc rfl fun K9 hK9 => ?_
        simp -dsimp -implicitDefEqProofs (disch := first | assumption | omega | (simp [maxLen, zab, zah, zai] <;> omega) | decide) only [zal, zfn, zaj, zae, zfo, ↓reduceIte, q_b, q_f]
        refine hK9 _ _ ?_
        refine zau rfl (fun ht => ?_) (fun ht => ?_)
        · refine zcx hp (τ' := frL [(0, .d (iD (num us (.node v lo hi)))), (1, .d (iD k)), (4, .op 3 0), (5, .op 4 0), (9, .op 5 0)]) (H' := cntH us rs n μ ++ [.cells [.d (iD v), .d (iD (num us lo)), .d (iD (num us hi))]]) ?_ ?_
          · refine Rt.trans (Rt.gc (keep := [0,1,2,3,4,5]) (by decide) (by decide) (by simp [])) ?_
            refine Rt.end (zaa (zaa (zaa (zaa (zaa (zaq _) rfl) rfl) rfl) rfl) rfl) ?_
            first | rfl | (simp only [gcH, zb1, gc_m, gcVs, gcV, Nat.reduceAdd, posN, zav, zap, List.map_cons, List.map_nil, List.getD_cons_zero, List.getD_cons_succ, ↓reduceIte, Nat.reduceEqDiff, Option.map_some, List.cons_append, List.nil_append, gc_m, cntH, bddC]; first | done | rfl)
          refine zni zao hp hc mixed rfl [(0, []), (1, []), (2, []), (3, []), (4, []), (5, []), (6, []), (7, []), (9, []), (10, []), (11, []), (12, []), (13, []), (14, []), (8, [0, 9, 11, 13]), (15, [0]), (16, []), (17, [])] [[], [], [], [], [3], [], [5], [5, 6], [2, 3, 4, 5, 6, 7], [], [], [10], [], [12], [12, 13], [2, 3, 4, 5, 6, 7, 8, 9, 10, 11, 12, 13, 14], [2, 3, 4, 5, 6, 7, 8, 9, 10, 11, 12, 13, 14, 15], [0, 1, 2, 3, 4, 5, 6, 7, 8, 9, 10, 11, 12, 13, 14, 15, 16]] 0 (by kernel_rfl) fun K10 hK10 => ?_
          simp -dsimp -implicitDefEqProofs (disch := first | assumption | omega | (simp [maxLen, zab, zah, zai] <;> omega) | decide) only [zae, q_o, za8, zam, zay, zcu, ↓reduceIte, q_b, ifp, q_f, q_s, q_l, List.append_nil, List.replicate_zero, q_n, Nat.reduceEqDiff, zav, zap, iD, Nat.reduceAdd, zgm, zfc, List.getD_cons_zero, List.getD_cons_succ, zg2, zgn, zll, sS_bin, zma, cntH, bddC, zjp, zk4, sz_133, ag_133, zd3, sz_3, ag_3, zdf, ze0]
          refine ztj (S := cntH us rs n μ) (T := [.cells [.d (iD v), .d (iD (num us lo)), .d (iD (num us hi))]]) (ih lo (by simp only [T.sz]; omega) (v + 1) _ μ rfl hcl hol (by omega) hC) rfl (Nat.le_of_ble_eq_true rfl) (by first | rfl | (simp [AV.allIs, AV.allI, zbs, zb3, zbz, okI, ltI, za6, zcp, cntH]; done) | (intro o ho; simp at ho; done)) (fun t => zdb (by first | rfl | (simp [AV.allIs, AV.allI, zbs, zb3, zbz, okI, ltI, za6, zcp, cntH]; done) | (intro o ho; simp at ho; done)) t) (fun t => zdb (by first | rfl | (simp [AV.allIs, AV.allI, zbs, zb3, zbz, okI, ltI, za6, zcp, cntH]; done) | (intro o ho; simp at ho; done)) t) (by first | rfl | (simp [AV.allIs, AV.allI, zbs, zb3, zbz, okI, ltI, za6, zcp, cntH]; done) | (intro o ho; simp at ho; done)) (by first | rfl | (simp [AV.allIs, AV.allI, zbs, ltI, za6, zcp, cntH]; done) | (intro o ho; simp at ho; done)) (by first | rfl | (simp [AV.allIs, AV.allI, zbs, cntH]; done) | (intro o ho; simp at ho; done)) ?_
          rintro _ _ ⟨μ1, rfl, rfl, hC1⟩
          refine ⟨rfl, ?_⟩
          simp -dsimp -implicitDefEqProofs (disch := first | assumption | omega | (simp [maxLen, zab, zah, zai] <;> omega) | decide) only [zae, za8, ↓reduceIte, q_b, ifp, q_f, q_s, q_l, Nat.reduceEqDiff, zav, zap, iD, zfv, zf2, zma, cntH, bddC, zjp, zk4, sz_133, ag_133, sz_3, ag_3]
          refine ztj (S := cntH us rs n μ1) (T := [.cells [.d (iD v), .d (iD (num us lo)), .d (iD (num us hi))]]) (ih hi (by simp only [T.sz]; omega) (v + 1) _ μ1 rfl hch hoh (by omega) hC1) rfl (Nat.le_of_ble_eq_true rfl) (by first | rfl | (simp [AV.allIs, AV.allI, zbs, zb3, zbz, okI, ltI, za6, zcp, cntH]; done) | (intro o ho; simp at ho; done)) (fun t => zdb (by first | rfl | (simp [AV.allIs, AV.allI, zbs, zb3, zbz, okI, ltI, za6, zcp, cntH]; done) | (intro o ho; simp at ho; done)) t) (fun t => zdb (by first | rfl | (simp [AV.allIs, AV.allI, zbs, zb3, zbz, okI, ltI, za6, zcp, cntH]; done) | (intro o ho; simp at ho; done)) t) (by first | rfl | (simp [AV.allIs, AV.allI, zbs, zb3, zbz, okI, ltI, za6, zcp, cntH]; done) | (intro o ho; simp at ho; done)) (by first | rfl | (simp [AV.allIs, AV.allI, zbs, ltI, za6, zcp, cntH]; done) | (intro o ho; simp at ho; done)) (by first | rfl | (simp [AV.allIs, AV.allI, zbs, cntH]; done) | (intro o ho; simp at ho; done)) ?_
          rintro _ _ ⟨μ2, rfl, rfl, hC2⟩
          refine ⟨rfl, ?_⟩
          simp -dsimp -implicitDefEqProofs (disch := first | assumption | omega | (simp [maxLen, zab, zah, zai] <;> omega) | decide) only [zae, q_o, za8, zay, zcu, ↓reduceIte, q_b, ifp, q_f, q_l, q_s, Nat.reduceEqDiff, zav, zap, iD, zfv, zf2, zid, sS_bin, sS_mu, zif, zmd, zi0, cntH, bddC, muO_m mtI hk hC2.ok, zjp, zk4]
          refine hK10 _ _ (hJ6 _ _ ⟨_, _, putM (vi (num us (.node v lo hi))) (vi (cntS n (.node v lo hi))) μ2, ⟨hC2.add hul0 hf, zpj rfl⟩, rfl, rfl, ?_⟩)
          refine Rt.trans (Rt.gc (keep := [0,1,2,3,4,5]) (by decide) (by decide) (by simp [])) ?_
          refine Rt.end (zaa (zaa (zaa (zaa (zaq _) rfl) rfl) rfl) rfl) ?_
          first | rfl | (simp only [gcH, zb1, gc_m, gcVs, gcV, Nat.reduceAdd, posN, zav, zap, List.map_cons, List.map_nil, List.getD_cons_zero, List.getD_cons_succ, ↓reduceIte, Nat.reduceEqDiff, Option.map_some, List.cons_append, List.nil_append, gc_m, cntH, bddC]; first | done | rfl)
        · cases ht
      · have hu := hC.inv _ hf u hgm
        subst hu
        simp -dsimp -implicitDefEqProofs (disch := first | assumption | omega | (simp [maxLen, zab, zah, zai] <;> omega) | decide) only [zal, zag, zat, zei, zew, zaj, zae, za8, ↓reduceIte, q_b, ifp, q_f, q_l, q_n, Nat.reduceEqDiff, Nat.reduceAdd, zg8, zi0, ziz, zti mtI hk hC.ok, hgm, Option.getD_some, Option.isSome_some, zjp, zk4]
        refine hK8 _ _ ?_
        refine zac hp zao hc rfl fun K11 hK11 => ?_
        simp -dsimp -implicitDefEqProofs (disch := first | assumption | omega | (simp [maxLen, zab, zah, zai] <;> omega) | decide) only [zal, zfn, zaj, zae, zfo, ↓reduceIte, q_b, q_f]
        refine hK11 _ _ ?_
        refine zau rfl (fun ht => ?_) (fun ht => ?_)
        · cases ht
        · refine zbb (hJ6 _ _ ⟨_, _, μ, ⟨hC, hgm⟩, rfl, rfl, ?_⟩)
          refine Rt.trans (Rt.gc (keep := [0,1,2,3,4,5]) (by decide) (by decide) (by simp [])) ?_
          refine Rt.end (zaa (zaa (zaa (zaa (zaq _) rfl) rfl) rfl) rfl) ?_
          first | rfl | (simp only [gcH, zb1, gc_m, gcVs, gcV, Nat.reduceAdd, posN, zav, zap, List.map_cons, List.map_nil, List.getD_cons_zero, List.getD_cons_succ, ↓reduceIte, Nat.reduceEqDiff, Option.map_some, List.cons_append, List.nil_append, gc_m, cntH, bddC]; first | done | rfl)
theorem cnt_c (V : Nat) (us : List T) (rs : List Nat) (hr : RowOk V us) (hul : us.length ≤ bigB) (n : Nat) (hn : n ≤ 60) : ∀ (m : Nat) (f : T), f.sz ≤ m → CntC us rs n f
  | 0, f, h => by cases f <;> simp [T.sz] at h
  | m + 1, f, h => fun k ki μ hki hf hok hkn hC => cnt_s V us rs hr hul n hn f (fun s hs => cnt_c V us rs hr hul n hn m s (by omega)) k ki μ hki hf hok hkn hC
def cntA (us : List T) (node n : Int) : Int := if askB us node n then (cntT n.toNat (zdz us node) 0 : Nat) else 0
set_option maxRecDepth 100000 in
set_option linter.unusedVariables false in
set_option maxHeartbeats 4000000 in
theorem count_c (V : Nat) (us : List T) (rs : List Nat) (hr : RowOk V us) (hV : V ≤ 1000) (hul : us.length ≤ bigB) (node n : Int) : zce Try.prog 50 [bddD (erow us) rs, iD node, iD n] (.tup [.d (iD (cntA us node n)), .d (iD (askE us node n))]) := by
  have hul0 := hul
  unfold bigB at hul
  have hel := zai us
  refine zb7 (fn := Try.f50) (by kernel_rfl) Try.func50 rfl (Nat.le_of_ble_eq_true rfl) fun c hc hp => ?_
  refine zch (τ' := frL [(0, .d (bddD (erow us) rs)), (1, .d (iD node)), (2, .d (iD n))]) (zaa (zaa (zaa (zaq _) rfl) rfl) rfl) ?_
  refine zac hp zao hc rfl fun K1 hK1 => ?_
  simp -dsimp -implicitDefEqProofs (disch := first | assumption | omega | (simp [maxLen, zab, zah, zai] <;> omega) | decide) only [zag, zdy, zbd, zaj, zae, q_o, layF, ↓reduceIte, q_b, q_f, q_s, q_l, q_a, zca, D.one, q_n, Nat.reduceEqDiff, iD, zbd, bddD, bddC]
  refine hK1 _ _ ?_
  refine zas fun K2 hK2 => ?_
  refine zac hp zao hc rfl fun K3 hK3 => ?_
  simp -dsimp -implicitDefEqProofs (disch := first | assumption | omega | (simp [maxLen, zab, zah, zai] <;> omega) | decide) only [zal, zat, zbh, zae, q_o, za8, ↓reduceIte, q_b, ifp, q_f, q_s, q_l, q_n, Nat.reduceEqDiff, zak, Nat.reduceAdd, zez, zft, sz_3, ag_3]
  refine zda (asked_c V us rs hr hV hul0 node n) rfl ?_
  simp -dsimp -implicitDefEqProofs (disch := first | assumption | omega | (simp [maxLen, zab, zah, zai] <;> omega) | decide) only [zag, zaj, ↓reduceIte, q_b, q_f, iD]
  refine hK3 _ _ ?_
  refine zac hp zao hc rfl fun K4 hK4 => ?_
  rcases (show askB us node n = true ∨ askB us node n = false by cases askB us node n <;> simp) with q | q
  · have hae := ask_0 q
    obtain ⟨b1, b2, b3, b4, hti, hok0⟩ := ask_ok hr hV q
    have hnt : (num us (zdz us node) : Int) = node := by unfold zdz; rw [zmn hr (k := node.toNat) (by omega)]; omega
    have hnn : (n.toNat : Int) = n := by omega
    rw [hae]
    simp -dsimp -implicitDefEqProofs (disch := first | assumption | omega | (simp [maxLen, zab, zah, zai] <;> omega) | decide) only [zal, za1, zaj, zae, q_o, zay, zff, ↓reduceIte, q_b, q_f]
    refine hK4 _ _ ?_
    refine zau rfl (fun ht => ?_) (fun ht => ?_)
    · cases ht
    · refine zbb (hK2 _ _ ?_)
      refine zac hp zao hc rfl fun K5 hK5 => ?_
      simp -dsimp -implicitDefEqProofs (disch := first | assumption | omega | (simp [maxLen, zab, zah, zai] <;> omega) | decide) only [zcm, zp3, zbu, zbd, zaj, zae, q_o, layF, zb4, ↓reduceIte, q_b, ifp, q_f, q_l, q_s, zum, q_a, q_n, Nat.reduceEqDiff, zdk, zav, zap, Nat.reduceAdd, zbd, mm_m, zjp, za_132]
      refine hK5 _ _ ?_
      refine zac hp zao hc rfl fun K6 hK6 => ?_
      simp -dsimp -implicitDefEqProofs (disch := first | assumption | omega | (simp [maxLen, zab, zah, zai] <;> omega) | decide) only [zcm, zbd, zaj, zae, q_o, layF, q_f, q_l, q_s, q_n, zdk, zav, zap, Nat.reduceAdd, zbd, za_133]
      refine hK6 _ _ ?_
      refine zac hp zao hc rfl fun K7 hK7 => ?_
      simp -dsimp -implicitDefEqProofs (disch := first | assumption | omega | (simp [maxLen, zab, zah, zai] <;> omega) | decide) only [zlj, zbu, zaj, zae, zb4, ↓reduceIte, q_b, ifp, q_f, q_s, q_l, q_a, q_n, Nat.reduceEqDiff, as_clo, sz_133]
      refine hK7 _ _ ?_
      refine zcx hp (τ' := frL [(1, .d (iD (num us (zdz us node)))), (10, .op 4 0)]) (H' := cntH us rs n.toNat ([], 0)) ?_ ?_
      · refine Rt.trans (Rt.gc (keep := [0,1,2,3,4]) (by decide) (by decide) (by simp [])) ?_
        refine Rt.end (zaa (zaa (zaq _) rfl) (by first | rfl | (simp [frL, gcV, iD, hnt]; done) | simp [Fr.put, frL, gcV, fzV, posN, iD, bD, uD, oD, zbj, za9, zbp, zbt, zbm, zah, zai, hnt, hnn, *])) ?_
        simp only [gcH, zb1, gc_m, gcVs, gcV, Nat.reduceAdd, posN, zav, zap, List.map_cons, List.map_nil, List.getD_cons_zero, List.getD_cons_succ, ↓reduceIte, Nat.reduceEqDiff, Option.map_some, gc_m, bddC, cntH]; simp [hnn]; rfl
      refine zac hp zao hc rfl fun K8 hK8 => ?_
      simp -dsimp -implicitDefEqProofs (disch := first | assumption | omega | (simp [maxLen, zab, zah, zai] <;> omega) | decide) only [zal, zat, zfb, zae, za8, ↓reduceIte, q_b, ifp, q_f, q_s, q_l, q_n, Nat.reduceEqDiff, zav, zap, iD, Nat.reduceAdd, bddC, cntH, sz_133, ag_133]
      refine kc_stc (S := cntH us rs n.toNat ([], 0)) (T := []) (cnt_c V us rs hr hul0 n.toNat (by omega) _ (zdz us node) (Nat.le_refl _) 0 _ ([], 0) rfl hti hok0 (by omega) (COk.nil us _)) rfl (by first | rfl | (simp [AV.allIs, AV.allI, zbs, zb3, zbz, okI, ltI, za6, zcp, cntH]; done) | (intro o ho; simp at ho; done)) (fun t => zdb (by first | rfl | (simp [AV.allIs, AV.allI, zbs, zb3, zbz, okI, ltI, za6, zcp, cntH]; done) | (intro o ho; simp at ho; done)) t) (by first | rfl | (simp [AV.allIs, AV.allI, zbs, zb3, zbz, okI, ltI, za6, zcp, cntH]; done) | (intro o ho; simp at ho; done)) (by first | rfl | (simp [AV.allIs, AV.allI, zbs, ltI, za6, zcp, cntH]; done) | (intro o ho; simp at ho; done)) (by first | rfl | (simp [cntH]; done) | (intro o ho; simp at ho; done)) ?_
      rintro _ _ ⟨μ1, rfl, rfl, hC1⟩
      refine ⟨rfl, ?_⟩
      simp -dsimp -implicitDefEqProofs (disch := first | assumption | omega | (simp [maxLen, zab, zah, zai] <;> omega) | decide) only [zag, zaj, ↓reduceIte, q_b, q_f, List.append_nil, zav, zap, iD, bddC, cntH]
      refine hK8 _ _ ?_
      refine zbc ?_
      show za7 _ _ = _
      simp (disch := first | assumption | omega | (simp [maxLen, zab, zah, zai] <;> omega) | decide) only [List.map_cons, List.map_nil, za7, retV, zbr, zb5, zb0, Nat.reduceAdd, Nat.zero_add, D.fix, zbi, ↓reduceIte, Nat.reduceEqDiff, Option.map_some, Option.bind_some, List.length_cons, List.length_nil, iD]
      simp [cntA, q, askE]
  · have hae := zvd q
    rw [hae]
    simp -dsimp -implicitDefEqProofs (disch := first | assumption | omega | (simp [maxLen, zab, zah, zai] <;> omega) | decide) only [zal, za1, zaj, zae, q_o, zay, zff, ↓reduceIte, q_b, q_f]
    refine hK4 _ _ ?_
    refine zau rfl (fun ht => ?_) (fun ht => ?_)
    · refine zac hp zao hc rfl fun K9 hK9 => ?_
      simp -dsimp -implicitDefEqProofs (disch := first | assumption | omega | (simp [maxLen, zab, zah, zai] <;> omega) | decide) only [zal, zag, zaj, ↓reduceIte, q_b, q_f, Nat.reduceEqDiff]
      refine hK9 _ _ ?_
      refine zbc ?_
      show za7 _ _ = _
      simp (disch := first | assumption | omega | (simp [maxLen, zab, zah, zai] <;> omega) | decide) only [List.map_cons, List.map_nil, za7, retV, zbr, zb5, zb0, Nat.reduceAdd, Nat.zero_add, D.fix, zbi, ↓reduceIte, Nat.reduceEqDiff, Option.map_some, Option.bind_some, List.length_cons, List.length_nil, iD]
      simp [cntA, q, askE]
    · cases ht
end Go.Proofs.Ytgfnpfchdlcoeaa
