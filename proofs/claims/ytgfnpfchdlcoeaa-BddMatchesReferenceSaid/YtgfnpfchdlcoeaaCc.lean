/- The manager's ite. -/
import Derived.Test.YtgfnpfchdlcoeaaQr
import Derived.Test.YtgfnpfchdlcoeaaQ
import Derived.Test.YtgfnpfchdlcoeaaCb
set_option linter.unusedVariables false
set_option linter.unusedSimpArgs false
set_option maxRecDepth 100000
set_option maxHeartbeats 4000000
namespace Go.Proofs.Ytgfnpfchdlcoeaa
open Go Go.RowKit
theorem zp0 {k v : Value} {μ : Mp} (hk : zjz k = true) : zig k (zpm k v μ) = some v := by
 classical
 rw [zha hk hk, if_pos rfl]
theorem joz {ts : List T} {t : T} : (zhz ts t).v = t.v := rfl
def jrm (V b : Nat) (ts : List T) (f g h : T) (x : AV) (S' : zal) : Prop := ∃ ts' μu' μm' t, S' = zbu ts' μu' μm' ∧ x = .d (iD (num ts' t)) ∧ MS V ts' μu' μm' ∧ ts <+: ts' ∧ ts'.length + 1 ≤ ts.length + b ∧ t ∈ zbn ts' ∧ Ite f g h t
def js7 (V n : Nat) : Prop := ∀ (ts : List T) (μu μm : Mp) (f g h : T), MS V ts μu μm → f ∈ zbn ts → g ∈ zbn ts → h ∈ zbn ts → f.Ok V (V - n) → g.Ok V (V - n) → h.Ok V (V - n) → ts.length + 2 ^ n ≤ zed →
 ScS Try.prog [0, 1, 2] 79 [.op 0 0, .d (iD (num ts f)), .d (iD (num ts g)), .d (iD (num ts h))] (zbu ts μu μm) (jrm V (2 ^ n) ts f g h)
theorem jo0 {ts : List T} {f : T} (hf : f ∈ zbn ts) (h : num ts f = 1) : f = .leaf true := zd8 hf (ztr ts) (h.trans (znq ts).symm)
theorem jo1 {ts : List T} {f : T} (hf : f ∈ zbn ts) (h : num ts f = 0) : f = .leaf false := zd8 hf (zk1 ts) (h.trans (zk0 ts).symm)
theorem jlg {ts : List T} {f : T} (h1 : num ts f ≠ 1) (h0 : num ts f ≠ 0) : ∃ v l r, f = .node v l r := by
 cases f with
 | leaf b =>
   cases b
   ·exact absurd (zk0 ts) h0
   ·exact absurd (znq ts) h1
 | node v l r => exact ⟨v, l, r, rfl⟩
theorem zeo : (type_of% @zah) ∧ (type_of% @zca) ∧ (type_of% @zbq) := ⟨@zah, @zca, @zbq⟩
theorem jrn (V n : Nat) (ih : ∀ m, m < n → js7 V m) (ts : List T) (μu μm : Mp) (f g h : T) (hS : MS V ts μu μm) (hf : f ∈ zbn ts) (hg : g ∈ zbn ts) (hh : h ∈ zbn ts) (kf : f.Ok V (V - n)) (kg : g.Ok V (V - n)) (kh : h.Ok V (V - n)) (hlen : ts.length + 2 ^ n ≤ zed) : ScS Try.prog [0, 1, 2] 79 [.op 0 0, .d (iD (num ts f)), .d (iD (num ts g)), .d (iD (num ts h))] (zbu ts μu μm) (jrm V (2 ^ n) ts f g h) := by
 refine zlj (fn := Try.f79) (by kernel_rfl) Try.func79 rfl (Nat.le_of_ble_eq_true rfl) fun c hc hp => ?_
 refine jd1 ?_
 unfold zbu zb8
 have hl := hS.len
 have hV := hS.V0
 have hpos : 0 < 2 ^ n := Nat.two_pow_pos n
 have nf := zdn hf
 have ng := zdn hg
 have nh := zdn hh
 unfold zed at hl hlen
 refine zab hp zad hc rfl fun K1 hK1 => ?_
 simp -dsimp -implicitDefEqProofs (disch := first | assumption | omega | (simp [maxLen, zeo] <;> omega) | decide) only [q_r, iD]
 refine hK1 _ _ ?_
 refine zaf fun K2 hK2 => ?_
 refine zaq ?_
 refine zab hp zad hc rfl fun K3 hK3 => ?_
 rcases (show num ts f = 1 ∨ (num ts f ≠ 1 ∧ num ts g = num ts h) ∨ (num ts f ≠ 1 ∧ num ts g ≠ num ts h) by omega) with hd1 | ⟨hd1, hd2⟩ | ⟨hd1, hd2⟩
 ·have q1 : ((num ts f : Int) == 1) = true := by simp; omega
  have q2 := q1
  simp -dsimp -implicitDefEqProofs (disch := first | assumption | omega | (simp [maxLen, zeo] <;> omega) | decide) only [q_r, ↓reduceIte, Nat.reduceEqDiff, q1]
  refine hK3 _ _ ?_
  refine zag rfl (fun ht => ?_) (fun ht => ?_)
  ·refine zab hp zad hc rfl fun K4 hK4 => ?_
   simp -dsimp -implicitDefEqProofs (disch := first | assumption | omega | (simp [maxLen, zeo] <;> omega) | decide) only [q_r, ↓reduceIte, Nat.reduceEqDiff]
   refine hK4 _ _ ?_
   refine zbx hp (τ' := frL [(8, .d (iD (num ts g)))]) (H' := zbu ts μu μm) ?_ ?_
   ·refine Rt.trans (Rt.gc (keep := [0,1,2,3]) (by decide) (by decide) (by simp [])) ?_
    refine Rt.end (zaa (zae _) rfl) ?_
    first | rfl | (simp only [gcH, zbb, zcq, zap, zcb, gcV, Nat.reduceAdd, zcp, List.map_cons, List.map_nil, List.getD_cons_zero, List.getD_cons_succ, ↓reduceIte, Nat.reduceEqDiff, Option.map_some, zcq, zbu, zb8]; first | done | rfl)
   refine zao ?_
   refine zb3 (t := 8) rfl ?_
   show ∃ _, _
   obtain rfl := jo0 hf hd1
   exact ⟨ts, μu, μm, g, rfl, rfl, hS, List.prefix_refl _, by omega, hg, fun a => rfl⟩
  ·cases ht
 ·have q1 : ((num ts f : Int) == 1) = false := by simp; omega
  have q2 : ((num ts g : Int) == (num ts h : Int)) = true := by simp; omega
  simp -dsimp -implicitDefEqProofs (disch := first | assumption | omega | (simp [maxLen, zeo] <;> omega) | decide) only [q_r, ↓reduceIte, Nat.reduceEqDiff, q1, q2]
  refine hK3 _ _ ?_
  refine zag rfl (fun ht => ?_) (fun ht => ?_)
  ·refine zab hp zad hc rfl fun K5 hK5 => ?_
   simp -dsimp -implicitDefEqProofs (disch := first | assumption | omega | (simp [maxLen, zeo] <;> omega) | decide) only [q_r, ↓reduceIte, Nat.reduceEqDiff]
   refine hK5 _ _ ?_
   refine zbx hp (τ' := frL [(8, .d (iD (num ts g)))]) (H' := zbu ts μu μm) ?_ ?_
   ·refine Rt.trans (Rt.gc (keep := [0,1,2,3]) (by decide) (by decide) (by simp [])) ?_
    refine Rt.end (zaa (zae _) rfl) ?_
    first | rfl | (simp only [gcH, zbb, zcq, zap, zcb, gcV, Nat.reduceAdd, zcp, List.map_cons, List.map_nil, List.getD_cons_zero, List.getD_cons_succ, ↓reduceIte, Nat.reduceEqDiff, Option.map_some, zcq, zbu, zb8]; first | done | rfl)
   refine zao ?_
   refine zb3 (t := 8) rfl ?_
   show ∃ _, _
   obtain rfl := zd8 hg hh hd2
   exact ⟨ts, μu, μm, g, rfl, rfl, hS, List.prefix_refl _, by omega, hg, fun a => by simp⟩
  ·cases ht
 ·have q1 : ((num ts f : Int) == 1) = false := by simp; omega
  have q2 : ((num ts g : Int) == (num ts h : Int)) = false := by simp; omega
  simp -dsimp -implicitDefEqProofs (disch := first | assumption | omega | (simp [maxLen, zeo] <;> omega) | decide) only [q_r, ↓reduceIte, Nat.reduceEqDiff, q1, q2]
  refine hK3 _ _ ?_
  refine zag rfl (fun ht => ?_) (fun ht => ?_)
  ·cases ht
  ·refine zab hp zad hc rfl fun K6 hK6 => ?_
   simp -dsimp -implicitDefEqProofs (disch := first | assumption | omega | (simp [maxLen, zeo] <;> omega) | decide) only [q_r, ↓reduceIte, Nat.reduceEqDiff]
   refine hK6 _ _ ?_
   refine zag rfl (fun ht => ?_) (fun ht => ?_)
   ·have hd3 : num ts f = 0 := by simp at ht; omega
    refine zab hp zad hc rfl fun K7 hK7 => ?_
    simp -dsimp -implicitDefEqProofs (disch := first | assumption | omega | (simp [maxLen, zeo] <;> omega) | decide) only [q_r, ↓reduceIte, Nat.reduceEqDiff]
    refine hK7 _ _ ?_
    refine zbx hp (τ' := frL [(8, .d (iD (num ts h)))]) (H' := zbu ts μu μm) ?_ ?_
    ·refine Rt.trans (Rt.gc (keep := [0,1,2,3]) (by decide) (by decide) (by simp [])) ?_
     refine Rt.end (zaa (zae _) rfl) ?_
     first | rfl | (simp only [gcH, zbb, zcq, zap, zcb, gcV, Nat.reduceAdd, zcp, List.map_cons, List.map_nil, List.getD_cons_zero, List.getD_cons_succ, ↓reduceIte, Nat.reduceEqDiff, Option.map_some, zcq, zbu, zb8]; first | done | rfl)
    refine zao ?_
    refine zb3 (t := 8) rfl ?_
    show ∃ _, _
    obtain rfl := jo1 hf hd3
    exact ⟨ts, μu, μm, h, rfl, rfl, hS, List.prefix_refl _, by omega, hh, fun a => rfl⟩
   ·have hd3 : num ts f ≠ 0 := by simp at ht; omega
    have hk := hS.keyM hf hg hh
    refine zan (hK2 _ _ ?_)
    refine zab hp zad hc rfl fun K8 hK8 => ?_
    simp -dsimp -implicitDefEqProofs (disch := first | assumption | omega | (simp [maxLen, zeo] <;> omega) | decide) only [q_r, zau, zb7, zb0, za6, ↓reduceIte, AV.one, D.one, Value.oneCell', Nat.reduceEqDiff, Nat.reduceAdd, zau, jos, jhx, jhy, jhz, zsl, jor, joq]
    refine hK8 _ _ ?_
    refine zaf fun K9 hK9 => ?_
    refine zbo zad hc mixed rfl (q := 0) (by kernel_rfl) (by kernel_rfl) fun K10 hK10 => ?_
    cases hgm : zig (k3V (num ts f) (num ts g) (num ts h)) μm
    rotate_left
    ·rename_i u
     obtain ⟨f', g', h', t, a1, a2, a3, a4, ek, rfl, hite⟩ := hS.m.inv _ _ hgm
     obtain ⟨e1, e2, e3⟩ := jjm ek
     obtain rfl := zd8 hf a1 e1
     obtain rfl := zd8 hg a2 e2
     obtain rfl := zd8 hh a3 e3
     simp -dsimp -implicitDefEqProofs (disch := first | assumption | omega | (simp [maxLen, zeo] <;> omega) | decide) only [q_r, zam, zac, zdy, ↓reduceIte, List.append_nil, List.replicate_zero, Nat.reduceEqDiff, killAll, Nat.reduceAdd, zgf, zhw, zdv, zcy, zlq, zhv, zvr mtM hk hS.m.ok, hgm, Option.getD_some, Option.isSome_some, zoy, zv6, zv7, zsl, zv8]
     refine hK10 _ _ ?_
     refine zab hp zad hc rfl fun K11 hK11 => ?_
     simp -dsimp -implicitDefEqProofs (disch := first | assumption | omega | (simp [maxLen, zeo] <;> omega) | decide) only [q_r, ↓reduceIte]
     refine hK11 _ _ ?_
     refine zag rfl (fun ht => ?_) (fun ht => ?_)
     ·refine zab hp zad hc rfl fun K12 hK12 => ?_
      simp -dsimp -implicitDefEqProofs (disch := first | assumption | omega | (simp [maxLen, zeo] <;> omega) | decide) only [q_r, ↓reduceIte, Nat.reduceEqDiff]
      refine hK12 _ _ ?_
      refine zbx hp (τ' := frL [(8, .d (iD (num ts t)))]) (H' := zbu ts μu μm) ?_ ?_
      ·refine Rt.trans (Rt.gc (keep := [0,1,2,3]) (by decide) (by decide) (by simp [])) ?_
       refine Rt.end (zaa (zae _) rfl) ?_
       first | rfl | (simp only [gcH, zbb, zcq, zap, zcb, gcV, Nat.reduceAdd, zcp, List.map_cons, List.map_nil, List.getD_cons_zero, List.getD_cons_succ, ↓reduceIte, Nat.reduceEqDiff, Option.map_some, zcq, zbu, zb8]; first | done | rfl)
      refine zao ?_
      refine zb3 (t := 8) rfl ?_
      show ∃ _, _
      exact ⟨ts, μu, μm, t, rfl, rfl, hS, List.prefix_refl _, by omega, a4, hite⟩
     ·cases ht
    ·simp -dsimp -implicitDefEqProofs (disch := first | assumption | omega | (simp [maxLen, zeo] <;> omega) | decide) only [q_r, zam, zac, zdy, ↓reduceIte, List.append_nil, List.replicate_zero, Nat.reduceEqDiff, killAll, Nat.reduceAdd, zgf, zhw, zdv, zcy, zlq, zhv, zvr mtM hk hS.m.ok, hgm, Option.getD_none, Option.isSome_none, zoy, zv6, zv7, zsl, zv8]
     refine hK10 _ _ ?_
     refine zab hp zad hc rfl fun K13 hK13 => ?_
     simp -dsimp -implicitDefEqProofs (disch := first | assumption | omega | (simp [maxLen, zeo] <;> omega) | decide) only [q_r, ↓reduceIte]
     refine hK13 _ _ ?_
     refine zag rfl (fun ht => ?_) (fun ht => ?_)
     ·cases ht
     ·refine zan (hK9 _ _ ?_)
      refine zbo zad hc mixed rfl (q := 0) (by kernel_rfl) (by kernel_rfl) fun K14 hK14 => ?_
      simp -dsimp -implicitDefEqProofs (disch := first | assumption | omega | (simp [maxLen, zeo] <;> omega) | decide) only [q_r, zam, zac, ixO, zai, zar, zdy, ↓reduceIte, List.append_nil, List.replicate_zero, and_true, Int.toNat_natCast, Nat.reduceEqDiff, killAll, iD, Nat.reduceAdd, jow, zky hf, zky hg, zky hh, joz, zmd, zcj, zck, zcm, zb4, zci, zcn]
      obtain ⟨v, hmin, vf, vg, vh, hvV, hvn⟩ : ∃ v : Nat, min (f.v : Int) (min (g.v : Int) (h.v : Int)) = (v : Int) ∧ v ≤ f.v ∧ v ≤ g.v ∧ v ≤ h.v ∧ v < V ∧ V - n ≤ v := by
       obtain ⟨u, l, r, rfl⟩ := jlg hd1 hd3
       have := kf.2.1
       have k1 := kf.1
       have k2 := kg.v_ge (by omega)
       have k3 := kh.v_ge (by omega)
       refine ⟨min (min (T.node u l r).v g.v) h.v, by omega, by omega, by omega, by omega, ?_, ?_⟩
       ·rw [show (T.node u l r).v = u from rfl]; omega
       ·rw [show (T.node u l r).v = u from rfl]; omega
      have hn1 : n - 1 < n := by omega
      have e2 : 2 ^ n = 2 ^ (n - 1) + 2 ^ (n - 1) := by
       obtain ⟨m, rfl⟩ : ∃ m, n = m + 1 := ⟨n - 1, by omega⟩
       rw [Nat.add_sub_cancel, Nat.pow_succ]; omega
      have hpos1 : 0 < 2 ^ (n - 1) := Nat.two_pow_pos _
      have lev : ∀ {q : T} {b : Bool}, q.Ok V (V - n) → v ≤ q.v → (zil q v b).Ok V (V - (n - 1)) := fun hq hv => (zim (by omega) hq hv _).mono (by omega)
      have prt : ∀ {us : List T} {q : T} (b : Bool), RowOk V us → q ∈ zbn us → zil q v b ∈ zbn us := fun {us q} b hr hq => by
       unfold zil
       have := hr.chf hq
       split
       ·split
        ·exact this.2
        ·exact this.1
       ·exact hq
      refine hK14 _ _ ?_
      refine zbx hp (τ' := frL [(0, .op 0 0), (1, .d (iD (num ts f))), (2, .d (iD (num ts g))), (3, .d (iD (num ts h))), (9, .op 4 0), (12, .d (iD v))]) (H' := zbu ts μu μm ++ [.cells [.d (iD (num ts f)), .d (iD (num ts g)), .d (iD (num ts h))]]) ?_ ?_
      ·refine Rt.trans (Rt.gc (keep := [0,1,2,3,4]) (by decide) (by decide) (by simp [])) ?_
       refine Rt.end (zaa (zaa (zaa (zaa (zaa (zaa (zae _) (by first | rfl | (simp [frL, gcV, iD, hmin]; done) | simp [Fr.put, frL, gcV, fzV, zcp, iD, bD, uD, oD, zay, zas, zbm, zbr, zbp, zca, zbq, hmin, *])) rfl) rfl) rfl) rfl) rfl) ?_
       first | rfl | (simp only [gcH, zbb, zcq, zap, zcb, gcV, Nat.reduceAdd, zcp, List.map_cons, List.map_nil, List.getD_cons_zero, List.getD_cons_succ, ↓reduceIte, Nat.reduceEqDiff, Option.map_some, List.cons_append, List.nil_append, zcq, zbu, zb8]; first | done | rfl)
      refine zab hp zad hc rfl fun K15 hK15 => ?_
      simp -dsimp -implicitDefEqProofs (disch := first | assumption | omega | (simp only [maxLen, List.length_replicate, eq_self, true_and, and_true, and_self, zah, List.length_map, List.length_append, List.length_cons, List.length_nil, List.length_set, List.length_range, List.length_take, List.length_drop, zca, zbq] <;> omega) | decide | fail) only [q_r, ↓reduceIte, eq_self, zat, zcw, zb2, zc5, zdb, List.map_cons, List.map_nil, List.length_cons, List.length_nil, List.cons_append, List.nil_append, Nat.zero_add, Nat.reduceEqDiff, iD, Nat.reduceAdd, List.nil_append, zbu, zb8]
      refine zl4 (zsp ts μu μm f hf hS.len v false) ?_ ?_
      ·simp (disch := first | assumption | omega | (simp only [maxLen, List.length_replicate, eq_self, true_and, and_true, and_self, zah, List.length_map, List.length_append, List.length_cons, List.length_nil, List.length_set, List.length_range, List.length_take, List.length_drop, zca, zbq] <;> omega) | decide | fail) only [za1, zce, za9, za7, zbt, zbl, zcg, zfj, Nat.reduceAdd, zax, D.fix, Option.map_some, Option.bind_some, List.getElem?_cons_zero, List.getElem?_cons_succ, iD, oD, zfk, zpo, zi6, zjl, zgl, zfk, zmf]
      simp -dsimp -implicitDefEqProofs (disch := first | assumption | omega | (simp only [maxLen, List.length_replicate, eq_self, true_and, and_true, and_self, zah, List.length_map, List.length_append, List.length_cons, List.length_nil, List.length_set, List.length_range, List.length_take, List.length_drop, zca, zbq] <;> omega) | decide | fail) only [q_r, ↓reduceIte, eq_self, zat, zcw, zb2, zc5, zdb, List.map_cons, List.map_nil, List.length_cons, List.length_nil, Nat.zero_add, Nat.reduceEqDiff, Nat.reduceAdd]
      refine zl4 (zsp ts μu μm g hg hS.len v false) ?_ ?_
      ·simp (disch := first | assumption | omega | (simp only [maxLen, List.length_replicate, eq_self, true_and, and_true, and_self, zah, List.length_map, List.length_append, List.length_cons, List.length_nil, List.length_set, List.length_range, List.length_take, List.length_drop, zca, zbq] <;> omega) | decide | fail) only [za1, zce, za9, za7, zbt, zbl, zcg, zfj, Nat.reduceAdd, zax, D.fix, Option.map_some, Option.bind_some, List.getElem?_cons_zero, List.getElem?_cons_succ, iD, oD, zfk, zpo, zi6, zjl, zgl, zfk, zmf]
      simp -dsimp -implicitDefEqProofs (disch := first | assumption | omega | (simp only [maxLen, List.length_replicate, eq_self, true_and, and_true, and_self, zah, List.length_map, List.length_append, List.length_cons, List.length_nil, List.length_set, List.length_range, List.length_take, List.length_drop, zca, zbq] <;> omega) | decide | fail) only [q_r, ↓reduceIte, eq_self, zat, zcw, zb2, zc5, zdb, List.map_cons, List.map_nil, List.length_cons, List.length_nil, Nat.zero_add, Nat.reduceEqDiff, Nat.reduceAdd]
      refine zl4 (zsp ts μu μm h hh hS.len v false) ?_ ?_
      ·simp (disch := first | assumption | omega | (simp only [maxLen, List.length_replicate, eq_self, true_and, and_true, and_self, zah, List.length_map, List.length_append, List.length_cons, List.length_nil, List.length_set, List.length_range, List.length_take, List.length_drop, zca, zbq] <;> omega) | decide | fail) only [za1, zce, za9, za7, zbt, zbl, zcg, zfj, Nat.reduceAdd, zax, D.fix, Option.map_some, Option.bind_some, List.getElem?_cons_zero, List.getElem?_cons_succ, iD, oD, zfk, zpo, zi6, zjl, zgl, zfk, zmf]
      simp -dsimp -implicitDefEqProofs (disch := first | assumption | omega | (simp [maxLen, zeo] <;> omega) | decide) only [q_r, ↓reduceIte, Nat.reduceEqDiff, Nat.reduceAdd]
      refine zw4 (S := zbu ts μu μm) (T := [.cells [.d (iD (num ts f)), .d (iD (num ts g)), .d (iD (num ts h))]]) (ih (n - 1) hn1 ts μu μm _ _ _ hS (prt false hS.row hf) (prt false hS.row hg) (prt false hS.row hh) (lev kf vf) (lev kg vg) (lev kh vh) (by unfold zed; omega)) rfl (by first | rfl | (simp [AV.allIs, AV.allI, zaz, za5, za3, okI, ltI, zak, zbj, zbu, zb8]; done) | (intro o ho; simp at ho; done)) (fun t => zbv (by first | rfl | (simp [AV.allIs, AV.allI, zaz, za5, za3, okI, ltI, zak, zbj, zbu, zb8]; done) | (intro o ho; simp at ho; done)) t) (by first | rfl | (simp [AV.allIs, AV.allI, zaz, za5, za3, okI, ltI, zak, zbj, zbu, zb8]; done) | (intro o ho; simp at ho; done)) (by first | rfl | (simp [AV.allIs, AV.allI, zaz, ltI, zak, zbj, zbu, zb8]; done) | (intro o ho; simp at ho; done)) (by first | rfl | (simp [AV.allIs, AV.allI, zaz, zbu, zb8]; done) | (intro o ho; simp at ho; done)) ?_
      rintro _ _ ⟨ts1, μu1, μm1, t1, rfl, rfl, hS1, hp1, hl1, hm1, hi1⟩
      refine ⟨rfl, ?_⟩
      simp -dsimp -implicitDefEqProofs (disch := first | assumption | omega | (simp [maxLen, zeo] <;> omega) | decide) only [q_r, ↓reduceIte, iD, zbu, zb8]
      have hf1 := zcs hp1 hf
      have hg1 := zcs hp1 hg
      have hh1 := zcs hp1 hh
      have ef1 := zd9 hp1 hf
      have eg1 := zd9 hp1 hg
      have eh1 := zd9 hp1 hh
      have hlen1 := hS1.len
      unfold zed at hlen1
      refine hK15 _ _ ?_
      refine zbx hp (τ' := frL [(0, .op 0 0), (1, .d (iD (num ts1 f))), (2, .d (iD (num ts1 g))), (3, .d (iD (num ts1 h))), (9, .op 4 0), (12, .d (iD v)), (13, .d (iD (num ts1 t1)))]) (H' := zbu ts1 μu1 μm1 ++ [.cells [.d (iD (num ts f)), .d (iD (num ts g)), .d (iD (num ts h))]]) ?_ ?_
      ·refine Rt.trans (Rt.gc (keep := [0,1,2,3,4]) (by decide) (by decide) (by simp [])) ?_
       refine Rt.end (zaa (zaa (zaa (zaa (zaa (zaa (zaa (zae _) rfl) rfl) rfl) (by first | rfl | (simp [frL, gcV, iD]; done) | simp [frL, gcV, iD, *])) (by first | rfl | (simp [frL, gcV, iD]; done) | simp [frL, gcV, iD, *])) (by first | rfl | (simp [frL, gcV, iD]; done) | simp [frL, gcV, iD, *])) rfl) ?_
       first | rfl | (simp only [gcH, zbb, zcq, zap, zcb, gcV, Nat.reduceAdd, zcp, List.map_cons, List.map_nil, List.getD_cons_zero, List.getD_cons_succ, ↓reduceIte, Nat.reduceEqDiff, Option.map_some, List.cons_append, List.nil_append, zcq, zbu, zb8]; first | done | rfl)
      refine zab hp zad hc rfl fun K16 hK16 => ?_
      simp -dsimp -implicitDefEqProofs (disch := first | assumption | omega | (simp only [maxLen, List.length_replicate, eq_self, true_and, and_true, and_self, zah, List.length_map, List.length_append, List.length_cons, List.length_nil, List.length_set, List.length_range, List.length_take, List.length_drop, zca, zbq] <;> omega) | decide | fail) only [q_r, ↓reduceIte, eq_self, zat, zcw, zb2, zc5, zdb, List.map_cons, List.map_nil, List.length_cons, List.length_nil, List.cons_append, List.nil_append, Nat.zero_add, Nat.reduceEqDiff, iD, Nat.reduceAdd, List.nil_append, zbu, zb8]
      refine zl4 (zsp ts1 μu1 μm1 f hf1 hS1.len v true) ?_ ?_
      ·simp (disch := first | assumption | omega | (simp only [maxLen, List.length_replicate, eq_self, true_and, and_true, and_self, zah, List.length_map, List.length_append, List.length_cons, List.length_nil, List.length_set, List.length_range, List.length_take, List.length_drop, zca, zbq] <;> omega) | decide | fail) only [za1, zce, za9, za7, zbt, zbl, zcg, zfj, Nat.reduceAdd, zax, D.fix, Option.map_some, Option.bind_some, List.getElem?_cons_zero, List.getElem?_cons_succ, iD, oD, zfk, zpo, zi6, zjl, zgl, zfk, zmf]
      simp -dsimp -implicitDefEqProofs (disch := first | assumption | omega | (simp only [maxLen, List.length_replicate, eq_self, true_and, and_true, and_self, zah, List.length_map, List.length_append, List.length_cons, List.length_nil, List.length_set, List.length_range, List.length_take, List.length_drop, zca, zbq] <;> omega) | decide | fail) only [q_r, ↓reduceIte, eq_self, zat, zcw, zb2, zc5, zdb, List.map_cons, List.map_nil, List.length_cons, List.length_nil, Nat.zero_add, Nat.reduceEqDiff, Nat.reduceAdd]
      refine zl4 (zsp ts1 μu1 μm1 g hg1 hS1.len v true) ?_ ?_
      ·simp (disch := first | assumption | omega | (simp only [maxLen, List.length_replicate, eq_self, true_and, and_true, and_self, zah, List.length_map, List.length_append, List.length_cons, List.length_nil, List.length_set, List.length_range, List.length_take, List.length_drop, zca, zbq] <;> omega) | decide | fail) only [za1, zce, za9, za7, zbt, zbl, zcg, zfj, Nat.reduceAdd, zax, D.fix, Option.map_some, Option.bind_some, List.getElem?_cons_zero, List.getElem?_cons_succ, iD, oD, zfk, zpo, zi6, zjl, zgl, zfk, zmf]
      simp -dsimp -implicitDefEqProofs (disch := first | assumption | omega | (simp only [maxLen, List.length_replicate, eq_self, true_and, and_true, and_self, zah, List.length_map, List.length_append, List.length_cons, List.length_nil, List.length_set, List.length_range, List.length_take, List.length_drop, zca, zbq] <;> omega) | decide | fail) only [q_r, ↓reduceIte, eq_self, zat, zcw, zb2, zc5, zdb, List.map_cons, List.map_nil, List.length_cons, List.length_nil, Nat.zero_add, Nat.reduceEqDiff, Nat.reduceAdd]
      refine zl4 (zsp ts1 μu1 μm1 h hh1 hS1.len v true) ?_ ?_
      ·simp (disch := first | assumption | omega | (simp only [maxLen, List.length_replicate, eq_self, true_and, and_true, and_self, zah, List.length_map, List.length_append, List.length_cons, List.length_nil, List.length_set, List.length_range, List.length_take, List.length_drop, zca, zbq] <;> omega) | decide | fail) only [za1, zce, za9, za7, zbt, zbl, zcg, zfj, Nat.reduceAdd, zax, D.fix, Option.map_some, Option.bind_some, List.getElem?_cons_zero, List.getElem?_cons_succ, iD, oD, zfk, zpo, zi6, zjl, zgl, zfk, zmf]
      simp -dsimp -implicitDefEqProofs (disch := first | assumption | omega | (simp [maxLen, zeo] <;> omega) | decide) only [q_r, ↓reduceIte, Nat.reduceEqDiff, Nat.reduceAdd]
      refine zw4 (S := zbu ts1 μu1 μm1) (T := [.cells [.d (iD (num ts f)), .d (iD (num ts g)), .d (iD (num ts h))]]) (ih (n - 1) hn1 ts1 μu1 μm1 _ _ _ hS1 (prt true hS1.row hf1) (prt true hS1.row hg1) (prt true hS1.row hh1) (lev kf vf) (lev kg vg) (lev kh vh) (by unfold zed; omega)) rfl (by first | rfl | (simp [AV.allIs, AV.allI, zaz, za5, za3, okI, ltI, zak, zbj, zbu, zb8]; done) | (intro o ho; simp at ho; done)) (fun t => zbv (by first | rfl | (simp [AV.allIs, AV.allI, zaz, za5, za3, okI, ltI, zak, zbj, zbu, zb8]; done) | (intro o ho; simp at ho; done)) t) (by first | rfl | (simp [AV.allIs, AV.allI, zaz, za5, za3, okI, ltI, zak, zbj, zbu, zb8]; done) | (intro o ho; simp at ho; done)) (by first | rfl | (simp [AV.allIs, AV.allI, zaz, ltI, zak, zbj, zbu, zb8]; done) | (intro o ho; simp at ho; done)) (by first | rfl | (simp [AV.allIs, AV.allI, zaz, zbu, zb8]; done) | (intro o ho; simp at ho; done)) ?_
      rintro _ _ ⟨ts2, μu2, μm2, t2, rfl, rfl, hS2, hp2, hl2, hm2, hi2⟩
      refine ⟨rfl, ?_⟩
      simp -dsimp -implicitDefEqProofs (disch := first | assumption | omega | (simp [maxLen, zeo] <;> omega) | decide) only [q_r, ↓reduceIte, iD, zbu, zb8]
      have et1 := zd9 hp2 hm1
      have hlen2 := hS2.len
      unfold zed at hlen2
      have o1 : t1.Ok V (v + 1) := hi1.ok (hS1.row.okf hm1) (zim (by omega) kf vf _) (zim (by omega) kg vg _) (zim (by omega) kh vh _)
      have o2 : t2.Ok V (v + 1) := hi2.ok (hS2.row.okf hm2) (zim (by omega) kf vf _) (zim (by omega) kg vg _) (zim (by omega) kh vh _)
      refine hK16 _ _ ?_
      refine zbx hp (τ' := frL [(0, .op 0 0), (9, .op 4 0), (12, .d (iD v)), (13, .d (iD (num ts2 t1))), (14, .d (iD (num ts2 t2)))]) (H' := zbu ts2 μu2 μm2 ++ [.cells [.d (iD (num ts f)), .d (iD (num ts g)), .d (iD (num ts h))]]) ?_ ?_
      ·refine Rt.trans (Rt.gc (keep := [0,1,2,3,4]) (by decide) (by decide) (by simp [])) ?_
       refine Rt.end (zaa (zaa (zaa (zaa (zaa (zae _) rfl) (by first | rfl | (simp [frL, gcV, iD]; done) | simp [frL, gcV, iD, *])) rfl) rfl) rfl) ?_
       first | rfl | (simp only [gcH, zbb, zcq, zap, zcb, gcV, Nat.reduceAdd, zcp, List.map_cons, List.map_nil, List.getD_cons_zero, List.getD_cons_succ, ↓reduceIte, Nat.reduceEqDiff, Option.map_some, List.cons_append, List.nil_append, zcq, zbu, zb8]; first | done | rfl)
      refine ze9 zad hp hc mixed rfl [(0, []), (1, []), (2, []), (3, []), (4, []), (5, []), (6, []), (7, []), (8, []), (9, [3, 4]), (10, [])] [[], [0], [0, 1], [0, 1, 2], [], [], [], [], [], [5, 6, 7, 8], [0, 1, 2, 3, 4, 5, 6, 7, 8, 9]] 0 (by kernel_rfl) fun K17 hK17 => ?_
      simp -dsimp -implicitDefEqProofs (disch := first | assumption | omega | (simp [maxLen, zeo] <;> omega) | decide) only [q_r, zam, zac, zdy, ↓reduceIte, List.append_nil, List.replicate_zero, Nat.reduceEqDiff, iD, Nat.reduceAdd, List.getD_cons_zero, List.getD_cons_succ, zbu, zb8, zoy, zv6, zv7, zsl, zv8]
      refine zma (S := zbu ts2 μu2 μm2) (T := [.cells [.d (iD (num ts f)), .d (iD (num ts g)), .d (iD (num ts h))]]) (jjn V ts2 μu2 μm2 hS2 v t1 t2 hvV (zcs hp2 hm1) hm2 o1 o2 (by unfold zed; omega)) rfl (Nat.le_of_ble_eq_true rfl) (by first | rfl | (simp [AV.allIs, AV.allI, zaz, za5, za3, okI, ltI, zak, zbj, zbu, zb8]; done) | (intro o ho; simp at ho; done)) (fun t => zbv (by first | rfl | (simp [AV.allIs, AV.allI, zaz, za5, za3, okI, ltI, zak, zbj, zbu, zb8]; done) | (intro o ho; simp at ho; done)) t) (fun t => zbv (by first | rfl | (simp [AV.allIs, AV.allI, zaz, za5, za3, okI, ltI, zak, zbj, zbu, zb8]; done) | (intro o ho; simp at ho; done)) t) (by first | rfl | (simp [AV.allIs, AV.allI, zaz, za5, za3, okI, ltI, zak, zbj, zbu, zb8]; done) | (intro o ho; simp at ho; done)) (by first | rfl | (simp [AV.allIs, AV.allI, zaz, ltI, zak, zbj, zbu, zb8]; done) | (intro o ho; simp at ho; done)) (by first | rfl | (simp [AV.allIs, AV.allI, zaz, zbu, zb8]; done) | (intro o ho; simp at ho; done)) ?_
      rintro _ _ ⟨ts3, μu3, rfl, rfl, hS3, hp3, hl3, hm3⟩
      refine ⟨rfl, ?_⟩
      have hpp := hp1.trans (hp2.trans hp3)
      have ef := zd9 hpp hf
      have eg := zd9 hpp hg
      have eh := zd9 hpp hh
      simp -dsimp -implicitDefEqProofs (disch := first | assumption | omega | (simp [maxLen, zeo] <;> omega) | decide) only [q_r, zam, ↓reduceIte, Nat.reduceEqDiff, iD, zih, zn6, zhw, zdv, zcy, zbu, zb8, zlq, jbu mtM hk hS3.m.ok, zv6, zv7, zsl, zv8]
      have hi3 : Ite f g h (mkT v t1 t2) := Ite.mk (by omega) kf kg kh vf vg vh hi1 hi2
      have hS4 := hS3.memo (zcs hpp hf) (zcs hpp hg) (zcs hpp hh) hm3 hi3
      rw [ef, eg, eh] at hS4
      have hok4 : OkM Try.prog tM (zpm (k3V (num ts f) (num ts g) (num ts h)) (.int .i64 (num ts3 (mkT v t1 t2))) μm2) := hS4.m.ok
      have hgs : zig (k3V (num ts f) (num ts g) (num ts h)) (zpm (k3V (num ts f) (num ts g) (num ts h)) (.int .i64 (num ts3 (mkT v t1 t2))) μm2) = some (vi (num ts3 (mkT v t1 t2))) := zp0 jox
      refine hK17 _ _ ?_
      refine zbo zad hc mixed rfl (q := 0) (by kernel_rfl) (by kernel_rfl) fun K18 hK18 => ?_
      simp -dsimp -implicitDefEqProofs (disch := first | assumption | omega | (simp [maxLen, zeo] <;> omega) | decide) only [q_r, zam, zac, zdy, ↓reduceIte, List.append_nil, List.replicate_zero, Nat.reduceEqDiff, killAll, Nat.reduceAdd, zgf, zhw, zdv, zcy, zlq, zhv, jef mtM hk hok4, hgs, Option.getD_some, zoy, zv6, zv7, zsl, zv8]
      refine hK18 _ _ ?_
      refine zbx hp (τ' := frL [(8, .d (iD (num ts3 (mkT v t1 t2))))]) (H' := zbu ts3 μu3 (zpm (k3V (num ts f) (num ts g) (num ts h)) (vi (num ts3 (mkT v t1 t2))) μm2)) ?_ ?_
      ·refine Rt.trans (Rt.gc (keep := [0,1,2,3]) (by decide) (by decide) (by simp [])) ?_
       refine Rt.end (zaa (zae _) rfl) ?_
       first | rfl | (simp only [gcH, zbb, zcq, zap, zcb, gcV, Nat.reduceAdd, zcp, List.map_cons, List.map_nil, List.getD_cons_zero, List.getD_cons_succ, ↓reduceIte, Nat.reduceEqDiff, Option.map_some, zcq, zbu, zb8]; first | done | rfl)
      refine zao ?_
      refine zb3 (t := 8) rfl ?_
      show ∃ _, _
      exact ⟨ts3, μu3, _, mkT v t1 t2, rfl, rfl, hS4, hpp, by omega, hm3, hi3⟩
theorem jro (V n : Nat) : js7 V n := by
 induction n using Nat.strongRecOn with
 | _ n ih => exact fun ts μu μm f g h a b c d e1 e2 e3 e4 => jrn V n ih ts μu μm f g h a b c d e1 e2 e3 e4
end Go.Proofs.Ytgfnpfchdlcoeaa
