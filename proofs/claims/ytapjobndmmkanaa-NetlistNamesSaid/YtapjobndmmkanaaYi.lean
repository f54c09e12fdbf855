/- netlist's builder: equality, order, complements of words. -/
import Derived.Test.YtapjobndmmkanaaQr
import Derived.Test.YtapjobndmmkanaaYf
set_option linter.unusedVariables false
set_option linter.unusedSimpArgs false
set_option maxRecDepth 100000
set_option maxHeartbeats 4000000
namespace Go.Proofs.Ytapjobndmmkanaa
open Go Go.RowKit
theorem jxv : ((type_of% @zc2) ∧ ((type_of% @zew) ∧ (type_of% @zex))) := ⟨@zc2, ⟨@zew, @zex⟩⟩
def NdL (m : Nat) (gs : Gs) (x : List Int) (n : Nat) : Prop := ∀ k, k < n → NdB m gs (nth x k)
theorem NdL.pre {m : Nat} {gs gs' : Gs} {x : List Int} {n : Nat} (h : NdL m gs x n) (hp : gs <+: gs') : NdL m gs' x n := fun k hk => (h k hk).pre hp
theorem jgy {p q : Prop} (hq : q) (h : p = q := by
 conv => lhs; simp -dsimp -implicitDefEqProofs (disch := first | assumption | omega | (simp only [r_z, zab, zac] <;> omega) | decide) only [r_r, ↓reduceIte, Nat.reduceEqDiff, Nat.reduceAdd, D.fix, Int.reduceToNat, Nat.reduceMul, Nat.reduceBNe, Nat.reduceBEq, r_m, bH, bO, zar, zav]) : p := h.mpr hq
theorem zt8 {p q : Prop} (hq : q) (h : p = q := by
 conv => lhs; simp -dsimp -implicitDefEqProofs (disch := first | assumption | omega | (simp only [r_z, zab, zac] <;> omega) | decide) only [r_r, ↓reduceIte, Nat.reduceEqDiff, Nat.reduceAdd, D.fix, Int.reduceToNat, Nat.reduceMul, Nat.reduceBNe, Nat.reduceBEq, r_m, bH, bO, zar, zav, jxv]) : p := h.mpr hq
theorem jsz {m : List Nat} {τ τ' : Fr} {H H' : zae} (h2 : H = H') (h : zfq τ τ' := by
 repeat (first | exact zas _ | refine zao ?_ (by first | rfl | (simp [r_f, zab, zac]; done) | simp [r_f, zab, zac, *]))) : Rt m τ H τ' H' := Rt.end h h2
theorem zro {p q : Prop} (hq : q) (h : p = q := by
 conv => lhs; simp -dsimp -implicitDefEqProofs (disch := first | assumption | omega | (simp only [r_z, zab, zac] <;> omega) | decide) only [r_r, ↓reduceIte, Nat.reduceEqDiff, Nat.reduceAdd, D.fix, Int.reduceToNat, Nat.reduceMul, Nat.reduceBNe, Nat.reduceBEq, r_m, bH, bO, zar, zav, zbj, jxv]) : p := h.mpr hq
theorem js0 {P : Program} {sm : List Nat} {N : Nat} {τ : Fr} {H : zae} {f : FuncId} {args : List AV} {K0 KK : AV → zae → Prop} {ks : List Nat} (S T : zae) (h : ScS P ks f args S K0) (hK : ∀ x S', K0 x S' → S'.length = S.length ∧ KK x (S' ++ T)) (hH : H = S ++ T := by
 rfl) (hm : sm.all (okI ks S.length) = true := by
 first | rfl | (simp [AV.allIs, AV.allI, zaq, zah, zai, okI, ltI, zad, zax, bH, bO]; done) | (intro o ho; simp at ho; done)) (hτ : ∀ t, (τ t).allI (okI ks S.length) = true := by
 exact fun t => zbi (by first | rfl | (simp [AV.allIs, AV.allI, zaq, zah, zai, okI, ltI, zad, zax, bH, bO]; done) | (intro o ho; simp at ho; done)) t) (ha : AV.allIs (ltI S.length) args = true := by
 first | rfl | (simp [AV.allIs, AV.allI, zaq, zah, zai, okI, ltI, zad, zax, bH, bO]; done) | (intro o ho; simp at ho; done)) (hS : ∀ o ∈ S, o.allI (ltI S.length) = true := by
 first | rfl | (simp [AV.allIs, AV.allI, zaq, zah, zai, okI, ltI, zad, zax, bH, bO]; done) | (intro o ho; simp at ho; done)) (hT : ∀ o ∈ T, o.allI (okI ks S.length) = true := by
 first | rfl | (simp [AV.allIs, AV.allI, zaq, zah, zai, okI, ltI, zad, zax, bH, bO]; done) | (intro o ho; simp at ho; done)) : kC P sm N H τ (.d (.val (.func (.func f) #[] #[]))) args true (tg KK) := zjo h hH hm hτ ha hS hT hK
theorem ya1 (k : List Nat) {m : List Nat} {τ τ1 : Fr} {H H1 : zae} (h : Rt m (fun t => gcV k (τ t)) (gcH k H) τ1 H1) (a : ∀ i ∈ m, k[i]? = some i := by decide) (b : k.Nodup := by decide) (c : ∀ i ∈ k, i < H.length := by
 simp [fzH, gcH]) : Rt m τ H τ1 H1 := Rt.trans (Rt.gc a b c) h
theorem ya2 {p q : Prop} (hq : q) (h : p = q := by
 conv => lhs; simp only [r_g, Nat.reduceAdd, ↓reduceIte, Nat.reduceEqDiff, r_m, bH, bO, zar, zav]) : p := h.mpr hq
theorem yfs {p : Prop} (h : p := by
 first | rfl | (simp only [r_g, Nat.reduceAdd, ↓reduceIte, Nat.reduceEqDiff, r_m, bH, bO, zar, zav]; first | done | rfl)) : p := h
theorem jkm (e : BE) (gs : Gs) (μ : Mp) (x y : List Int) (h : BOk e gs μ) (hx : NdL (mE2 e) gs x x.length) (hy : NdL (mE2 e) gs y x.length) (hxy : y.length = x.length) (hl : gs.length + 3 * x.length ≤ 100000) : ScS Try.prog [0, 1, 3, 4, 5, 6, 7] 130 [.op 0 0, .d (intsD x), .d (intsD y)] (bH e gs μ) (jkg e (ztv (mE2 e) gs x y x.length)) := by
 refine zbh (fn := Try.f130) (by kernel_rfl) Try.func130 rfl (Nat.le_of_ble_eq_true rfl) fun c hc hp => ?_
 refine ze8 ?_
 refine szq hp (fun _ hZ => jgy hZ) ?_
 refine szq hp (fun _ hZ => jgy hZ) ?_
 refine zaa fun K3 hK3 => ?_
 refine szq hp (fun _ hZ => zt8 hZ) ?_
 refine zaf ?_
 refine zan hp (fun τ' H' mm => ∃ (k : Nat) (μ1 : Mp), (k ≤ x.length ∧ NdM (mE2 e) (ztv (mE2 e) gs x y k).1 μ1) ∧ mm = x.length - k ∧ H' = bH e (ztv (mE2 e) gs x y k).1 μ1 ∧ τ' = frL [(0, .op 0 0), (2, .d (intsD y)), (7, .d (iD (ztv (mE2 e) gs x y k).2)), (10, .d (intsD x)), (11, .d (iD x.length)), (12, .d (iD k))]) (x.length) ?_ ⟨0, μ, ⟨Nat.zero_le _, h.n⟩, rfl, rfl, rfl⟩ ?_
 ·refine jsz ?_
  refine ya2 ?_; rfl
 rintro τ' H' mm ⟨k, μ1, ⟨hk, hn1⟩, rfl, rfl, rfl⟩
 have hr := jp4 zf2 h.g hx hy k hk
 have hsu : ztv (mE2 e) gs x y (k + 1) = zda (mE2 e) (zdk (mE2 e) (zhj (mE2 e) (ztv (mE2 e) gs x y k).1 (nth x k) (nth y k)).1 (zhj (mE2 e) (ztv (mE2 e) gs x y k).1 (nth x k) (nth y k)).2).1 (ztv (mE2 e) gs x y k).2 (zdk (mE2 e) (zhj (mE2 e) (ztv (mE2 e) gs x y k).1 (nth x k) (nth y k)).1 (zhj (mE2 e) (ztv (mE2 e) gs x y k).1 (nth x k) (nth y k)).2).2 := rfl
 have hke : k = x.length → ztv (mE2 e) gs x y x.length = ztv (mE2 e) gs x y k := fun e => by rw [← e]
 generalize ztv (mE2 e) gs x y k = s at *
 refine szq hp (fun _ hZ => zt8 hZ) ?_
 refine zaa fun K6 hK6 => ?_
 refine zal rfl (fun ht => ?_) (fun ht => ?_)
 ·have hlt : k < x.length := by simp at ht; omega
  have hlt2 : k < y.length := by omega
  have h1 := h.next hr hn1 (by omega)
  have hrl := hr.len
  have ra := zj1 zf2 h1.g ((hx k hlt).pre hr.pre) ((hy k hlt).pre hr.pre)
  have ral := ra.len
  refine zaj (hK6 _ _ ?_)
  refine zaa fun K7 hK7 => ?_
  refine zaf ?_
  refine szq hp (fun _ hZ => zro hZ) ?_
  refine za1 hp zak hc rfl fun K9 hK9 => ?_
  refine zro ?_
  refine js0 (bH e s.1 μ1) ([]) (jae e s.1 μ1 (nth x k) (nth y k) h1 ((hx k hlt).pre hr.pre) ((hy k hlt).pre hr.pre)) ?_
  rintro _ _ ⟨μ2, hn2, rfl, rfl⟩
  refine ⟨rfl, ?_⟩
  have h2 := h1.next ra hn2 (by omega)
  have rb := zfu zf2 h2.g ra.nd
  have rbl := rb.len
  refine zro ?_
  refine js0 (bH e (zhj (mE2 e) s.1 (nth x k) (nth y k)).1 μ2) ([]) (zml e _ μ2 _ h2 ra.nd) ?_
  rintro _ _ ⟨μ3, hn3, rfl, rfl⟩
  refine ⟨rfl, ?_⟩
  have h3 := h2.next rb hn3 (by omega)
  refine zro ?_
  refine js0 (bH e (zdk (mE2 e) (zhj (mE2 e) s.1 (nth x k) (nth y k)).1 (zhj (mE2 e) s.1 (nth x k) (nth y k)).2).1 μ3) ([]) (ziy e _ μ3 s.2 _ h3 (hr.nd.pre (ra.pre.trans rb.pre)) rb.nd) ?_
  rintro _ _ ⟨μ4, hn4, rfl, rfl⟩
  refine ⟨rfl, ?_⟩
  refine zro ?_
  refine hK9 _ _ (hK7 _ _ ?_)
  refine za1 hp zak hc rfl fun K10 hK10 => ?_
  refine zt8 ?_
  refine hK10 _ _ ⟨_, _, _, ?_, ⟨k + 1, μ4, ⟨by omega, by rw [hsu]; exact hn4⟩, rfl, rfl, rfl⟩, ?_⟩
  ·first | omega | (simp only [List.length_cons]; omega) | (dsimp only; omega)
  ·refine ya1 [0,1,2,3,4,5,6,7] ?_
   refine jsz ?_
   refine ya2 ?_; rw [hsu]
 ·have hkk : k = x.length := by simp at ht; omega
  refine zau (hK3 _ _ ?_)
  refine szq hp (fun _ hZ => jgy hZ) ?_
  refine zat hp (τ' := frL [(6, .d (iD s.2))]) (H' := bH e s.1 μ1) ?_ ?_
  ·refine ya1 [0,1,2,3,4,5,6,7] ?_
   refine jsz ?_
   exact yfs
  refine zam ?_
  refine zap (t := 6) rfl ?_
  show ∃ _, _
  rw [hke hkk]; exact ⟨μ1, hn1, rfl, rfl⟩
theorem jqx (e : BE) (gs : Gs) (μ : Mp) (x y : List Int) (h : BOk e gs μ) (hx : NdL (mE2 e) gs x x.length) (hy : NdL (mE2 e) gs y x.length) (hxy : y.length = x.length) (hl : gs.length + 3 * x.length ≤ 99999) : ScS Try.prog [0, 1, 3, 4, 5, 6, 7] 131 [.op 0 0, .d (intsD x), .d (intsD y)] (bH e gs μ) (jkg e (zdk (mE2 e) (ltB (mE2 e) gs x y x.length).1 (ltB (mE2 e) gs x y x.length).2)) := by
 refine zbh (fn := Try.f131) (by kernel_rfl) Try.func131 rfl (Nat.le_of_ble_eq_true rfl) fun c hc hp => ?_
 refine ze8 ?_
 refine szq hp (fun _ hZ => jgy hZ) ?_
 refine szq hp (fun _ hZ => jgy hZ) ?_
 refine zaa fun K3 hK3 => ?_
 refine szq hp (fun _ hZ => zt8 hZ) ?_
 refine zaf ?_
 refine zan hp (fun τ' H' mm => ∃ (k : Nat) (μ1 : Mp), (k ≤ x.length ∧ NdM (mE2 e) (ltB (mE2 e) gs x y k).1 μ1) ∧ mm = x.length - k ∧ H' = bH e (ltB (mE2 e) gs x y k).1 μ1 ∧ τ' = frL [(0, .op 0 0), (2, .d (intsD y)), (7, .d (iD (ltB (mE2 e) gs x y k).2)), (10, .d (intsD x)), (11, .d (iD x.length)), (12, .d (iD k))]) (x.length) ?_ ⟨0, μ, ⟨Nat.zero_le _, h.n⟩, rfl, rfl, rfl⟩ ?_
 ·refine jsz ?_
  refine ya2 ?_; rfl
 rintro τ' H' mm ⟨k, μ1, ⟨hk, hn1⟩, rfl, rfl, rfl⟩
 have hr := jjz zf2 h.g hx hy k hk
 have hsu : ltB (mE2 e) gs x y (k + 1) = zz4 (mE2 e) (zdk (mE2 e) (ltB (mE2 e) gs x y k).1 (nth y k)).1 (nth x k) (zdk (mE2 e) (ltB (mE2 e) gs x y k).1 (nth y k)).2 (ltB (mE2 e) gs x y k).2 := rfl
 have hke : k = x.length → ltB (mE2 e) gs x y x.length = ltB (mE2 e) gs x y k := fun e => by rw [← e]
 generalize ltB (mE2 e) gs x y k = s at *
 have h1 := h.next hr hn1 (by omega)
 have hrl := hr.len
 refine szq hp (fun _ hZ => zt8 hZ) ?_
 refine zaa fun K6 hK6 => ?_
 refine zal rfl (fun ht => ?_) (fun ht => ?_)
 ·have hlt : k < x.length := by simp at ht; omega
  have hlt2 : k < y.length := by omega
  have rb := zfu zf2 h1.g ((hy k hlt).pre hr.pre)
  have rbl := rb.len
  refine zaj (hK6 _ _ ?_)
  refine zaa fun K7 hK7 => ?_
  refine zaf ?_
  refine szq hp (fun _ hZ => zro hZ) ?_
  refine za1 hp zak hc rfl fun K9 hK9 => ?_
  refine zro ?_
  refine js0 (bH e s.1 μ1) ([]) (zml e s.1 μ1 (nth y k) h1 ((hy k hlt).pre hr.pre)) ?_
  rintro _ _ ⟨μ3, hn3, rfl, rfl⟩
  refine ⟨rfl, ?_⟩
  have h3 := h1.next rb hn3 (by omega)
  refine zro ?_
  refine js0 (bH e (zdk (mE2 e) s.1 (nth y k)).1 μ3) ([]) (jos e _ μ3 (nth x k) _ s.2 h3 ((hx k hlt).pre (hr.pre.trans rb.pre)) rb.nd (hr.nd.pre rb.pre)) ?_
  rintro _ _ ⟨μ4, hn4, rfl, rfl⟩
  refine ⟨rfl, ?_⟩
  refine zro ?_
  refine hK9 _ _ (hK7 _ _ ?_)
  refine za1 hp zak hc rfl fun K10 hK10 => ?_
  refine zt8 ?_
  refine hK10 _ _ ⟨_, _, _, ?_, ⟨k + 1, μ4, ⟨by omega, by rw [hsu]; exact hn4⟩, rfl, rfl, rfl⟩, ?_⟩
  ·first | omega | (simp only [List.length_cons]; omega) | (dsimp only; omega)
  ·refine ya1 [0,1,2,3,4,5,6,7] ?_
   refine jsz ?_
   refine ya2 ?_; rw [hsu]
 ·have hkk : k = x.length := by simp at ht; omega
  refine zau (hK3 _ _ ?_)
  refine zag hp zak hc rfl fun K11 hK11 => ?_
  refine zt8 ?_
  refine js0 (bH e s.1 μ1) ([]) (zml e s.1 μ1 s.2 h1 hr.nd) ?_
  rintro _ _ ⟨μ3, hn3, rfl, rfl⟩
  refine ⟨rfl, ?_⟩
  refine zt8 ?_
  refine hK11 _ _ ?_
  refine zat hp (τ' := frL [(6, .d (iD (zdk (mE2 e) s.1 s.2).2))]) (H' := bH e (zdk (mE2 e) s.1 s.2).1 μ3) ?_ ?_
  ·refine ya1 [0,1,2,3,4,5,6,7] ?_
   refine jsz ?_
   exact yfs
  refine zam ?_
  refine zap (t := 6) rfl ?_
  show ∃ _, _
  rw [hke hkk]; exact ⟨μ3, hn3, rfl, rfl⟩
/- netlist's builder: a node for each bit; complements and sums of words. -/
theorem jqy : (((type_of% @zge) ∧ ((type_of% @zgf) ∧ (type_of% @zew))) ∧ ((type_of% @zex) ∧ ((type_of% @zc2) ∧ (type_of% @zee)))) := ⟨⟨@zge, ⟨@zgf, @zew⟩⟩, ⟨@zex, ⟨@zc2, @zee⟩⟩⟩
def jb7 (e : BE) (X : zae) (r : Re) (x : AV) (S' : zae) : Prop := ∃ μ, NdM (mE2 e) r.1 μ ∧ x = .d (iD r.2) ∧ S' = bH e r.1 μ ++ X
def bP : AObj := .cells [.op 0 0]
def zcr (l : List Int) (n : Nat) : AObj := .cells (avs ((l ++ List.replicate (n - l.length) 0).map iD))
theorem zg1 {l : List Int} {n k : Nat} (hk : l.length = k) (h : k < n) (v : Int) : ((l ++ List.replicate (n - l.length) 0).map iD).set k (iD v) = ((l ++ [v]) ++ List.replicate (n - (l ++ [v]).length) 0).map iD := by
 subst hk
 rw [List.map_append, List.set_append_right _ _ (by simp), List.length_map, Nat.sub_self, show n - l.length = (n - (l ++ [v]).length) + 1 by simp; omega, List.replicate_succ, List.map_cons, List.set_cons_zero]
 simp
theorem jgz {p q : Prop} (hq : q) (h : p = q := by
 conv => lhs; simp -dsimp -implicitDefEqProofs (disch := first | assumption | omega | (simp only [r_z, zab, zac] <;> omega) | decide) only [r_r, ↓reduceIte, Nat.reduceEqDiff, Nat.reduceAdd, D.fix, Int.reduceToNat, Nat.reduceMul, Nat.reduceBNe, Nat.reduceBEq, r_m, bH, bO, zar, zav, bP, List.cons_append, List.nil_append, jqy]) : p := h.mpr hq
theorem yft {P : Program} {sm : List Nat} {N : Nat} {τ : Fr} {H : zae} {f : FuncId} {args : List AV} {K0 KK : AV → zae → Prop} {ks : List Nat} (S T : zae) (h : ScS P ks f args S K0) (hK : ∀ x S', K0 x S' → S'.length = S.length ∧ KK x (S' ++ T)) (hH : H = S ++ T := by
 rfl) (hm : sm.all (okI ks S.length) = true := by
 first | rfl | (simp [AV.allIs, AV.allI, zaq, zah, zai, okI, ltI, zad, zax, bH, bO, bP]; done) | (intro o ho; simp at ho; done)) (hτ : ∀ t, (τ t).allI (okI ks S.length) = true := by
 exact fun t => zbi (by first | rfl | (simp [AV.allIs, AV.allI, zaq, zah, zai, okI, ltI, zad, zax, bH, bO, bP]; done) | (intro o ho; simp at ho; done)) t) (ha : AV.allIs (ltI S.length) args = true := by
 first | rfl | (simp [AV.allIs, AV.allI, zaq, zah, zai, okI, ltI, zad, zax, bH, bO, bP]; done) | (intro o ho; simp at ho; done)) (hS : ∀ o ∈ S, o.allI (ltI S.length) = true := by
 first | rfl | (simp [AV.allIs, AV.allI, zaq, zah, zai, okI, ltI, zad, zax, bH, bO, bP]; done) | (intro o ho; simp at ho; done)) (hT : ∀ o ∈ T, o.allI (okI ks S.length) = true := by
 first | rfl | (simp [AV.allIs, AV.allI, zaq, zah, zai, okI, ltI, zad, zax, bH, bO, bP]; done) | (intro o ho; simp at ho; done)) : kC P sm N H τ (.d (.val (.func (.func f) #[] #[]))) args true (tg KK) := zjo h hH hm hτ ha hS hT hK
theorem ya3 (k : List Nat) {m : List Nat} {τ τ1 : Fr} {H H1 : zae} (h : Rt m (fun t => gcV k (τ t)) (gcH k H) τ1 H1) (a : ∀ i ∈ m, k[i]? = some i := by decide) (b : k.Nodup := by decide) (c : ∀ i ∈ k, i < H.length := by
 simp [fzH, gcH]) : Rt m τ H τ1 H1 := Rt.trans (Rt.gc a b c) h
theorem jxw {m : List Nat} {τ τ' : Fr} {H H' : zae} (h2 : H = H') (h : zfq τ τ' := by
 repeat (first | exact zas _ | refine zao ?_ (by first | rfl | (simp [r_f, zab, zac]; done) | simp [r_f, zab, zac, *]))) : Rt m τ H τ' H' := Rt.end h h2
theorem yfu {p : Prop} (h : p := by
 first | rfl | (simp only [r_g, Nat.reduceAdd, ↓reduceIte, Nat.reduceEqDiff, r_m, bH, bO, zar, zav, bP, List.cons_append, List.nil_append]; first | done | rfl)) : p := h
theorem jkn (e : BE) (gs : Gs) (μ : Mp) (i x : Int) (h : BOk e gs μ) (hx : NdB (mE2 e) gs x) : ScS Try.prog [0, 1, 3, 4, 5, 6, 7, 8] 141 [.d (iD i), .d (iD x), .op 8 0] (bH e gs μ ++ [bP]) (jb7 e [bP] (zdk (mE2 e) gs x)) := by
 refine zbh (fn := Try.f141) (by kernel_rfl) Try.func141 rfl (Nat.le_of_ble_eq_true rfl) fun c hc hp => ?_
 refine ze8 ?_
 unfold bH bP
 refine zag hp zak hc rfl fun K1 hK1 => ?_
 simp -dsimp -implicitDefEqProofs (disch := first | assumption | omega | (simp only [r_z, zab, zac] <;> omega) | decide) only [r_r, ↓reduceIte, Nat.reduceEqDiff, Nat.reduceAdd, D.fix, Int.reduceToNat, Nat.reduceMul, Nat.reduceBNe, Nat.reduceBEq, r_m, bH, bO, zar, zav, bP, List.cons_append, List.nil_append]
 refine hK1 _ _ ?_
 refine zag hp zak hc rfl fun K2 hK2 => ?_
 refine jgz ?_
 refine yft (bH e gs μ) ([bP]) (zml e gs μ x h hx) ?_
 rintro _ _ ⟨μ1, hn1, rfl, rfl⟩
 refine ⟨rfl, ?_⟩
 refine jgz ?_
 refine hK2 _ _ ?_
 refine zat hp (τ' := frL [(5, .d (iD (zdk (mE2 e) gs x).2))]) (H' := bH e (zdk (mE2 e) gs x).1 μ1 ++ [bP]) ?_ ?_
 ·refine ya3 [0,1,2,3,4,5,6,7,8] ?_
  refine jxw ?_
  exact yfu
 refine zam ?_
 refine zap (t := 5) rfl ?_
 show ∃ _, _
 exact ⟨μ1, hn1, rfl, rfl⟩
def zg2 (m : Nat) (gs : Gs) (x : List Int) (k : Nat) : Gs × List Int := zbs (fun gs i => zdk m gs (nth x i)) gs k
theorem jg0 {m : Nat} {gs : Gs} {x : List Int} {k : Nat} : zg2 m gs x (k + 1) = ((zdk m (zg2 m gs x k).1 (nth x k)).1, (zg2 m gs x k).2 ++ [(zdk m (zg2 m gs x k).1 (nth x k)).2]) := rfl
theorem jg1 {m : Nat} {gs : Gs} {x : List Int} {n k : Nat} (h2 : 2 ≤ m) (h : GI m gs) (hx : NdL m gs x n) (hk : k ≤ n) : Bs m (1 * k) k gs (zg2 m gs x k) := zcv h fun j hj gs' hp hg => zfu h2 hg ((hx j (by omega)).pre hp)
def jko (e : BE) (X : zae) (r : Gs × List Int) (x : AV) (S' : zae) : Prop := ∃ μ, NdM (mE2 e) r.1 μ ∧ x = .d (intsD r.2) ∧ S' = bH e r.1 μ ++ X
theorem jxx {p q : Prop} (hq : q) (h : p = q := by
 conv => lhs; simp -dsimp -implicitDefEqProofs (disch := first | assumption | omega | (simp only [r_z, zab, zac] <;> omega) | decide) only [r_r, ↓reduceIte, Nat.reduceEqDiff, Nat.reduceAdd, D.fix, Int.reduceToNat, Nat.reduceMul, Nat.reduceBNe, Nat.reduceBEq, r_m, bH, bO, zar, zav, zcr, List.cons_append, List.nil_append, bP]) : p := h.mpr hq
theorem jb8 {p q : Prop} (hq : q) (h : p = q := by
 conv => lhs; simp -dsimp -implicitDefEqProofs (disch := first | assumption | omega | (simp only [r_z, zab, zac] <;> omega) | decide) only [r_r, ↓reduceIte, Nat.reduceEqDiff, Nat.reduceAdd, D.fix, Int.reduceToNat, Nat.reduceMul, Nat.reduceBNe, Nat.reduceBEq, r_m, bH, bO, zar, zav, zcr, List.cons_append, List.nil_append, bP, jqy]) : p := h.mpr hq
theorem yfv {p q : Prop} (hq : q) (h : p = q := by
 conv => lhs; simp only [r_g, Nat.reduceAdd, ↓reduceIte, Nat.reduceEqDiff, r_m, bH, bO, zar, zav, zcr, List.cons_append, List.nil_append, bP]) : p := h.mpr hq
theorem jg2 (e : BE) (gs : Gs) (μ : Mp) (x : List Int) (h : BOk e gs μ) (hx : NdL (mE2 e) gs x x.length) (hl : gs.length + x.length ≤ 100000) (hxl : x.length ≤ 1000) : ScS Try.prog [0, 1, 3, 4, 5, 6, 7, 8] 119 [.d (intsD x), .clo (.func 141) [] [.op 8 0]] (bH e gs μ ++ [bP]) (jko e [bP] (zg2 (mE2 e) gs x x.length)) := by
 refine zbh (fn := Try.f119) (by kernel_rfl) Try.func119 rfl (Nat.le_of_ble_eq_true rfl) fun c hc hp => ?_
 refine zc1 ?_
 unfold bH bP
 refine szq hp (fun _ hZ => jxx hZ) ?_
 refine szq hp (fun _ hZ => jb8 hZ) ?_
 refine zaa fun K3 hK3 => ?_
 refine szq hp (fun _ hZ => jb8 hZ) ?_
 refine zaf ?_
 refine zan hp (fun τ' H' mm => ∃ (k : Nat) (μ1 : Mp), (k ≤ x.length ∧ NdM (mE2 e) (zg2 (mE2 e) gs x k).1 μ1) ∧ mm = x.length - k ∧ H' = bH e (zg2 (mE2 e) gs x k).1 μ1 ++ [bP, zcr (zg2 (mE2 e) gs x k).2 x.length] ∧ τ' = frL [(1, .clo (.func 141) [] [.op 8 0]), (5, .os 1 9 0 x.length), (11, .d (intsD x)), (12, .d (iD x.length)), (13, .d (iD k))]) (x.length) ?_ ⟨0, μ, ⟨Nat.zero_le _, h.n⟩, rfl, rfl, rfl⟩ ?_
 ·refine jxw ?_
  refine yfv ?_; simp [zbs, zcr, bH, bO, zar, iD, avs, bP, zg2]
 rintro τ' H' mm ⟨k, μ1, ⟨hk, hn1⟩, rfl, rfl, rfl⟩
 have hb := jg1 zf2 h.g hx hk
 have hsu := @jg0 (mE2 e) gs x k
 have hke : k = x.length → zg2 (mE2 e) gs x x.length = zg2 (mE2 e) gs x k := fun e => by rw [← e]
 generalize zg2 (mE2 e) gs x k = s at *
 have hw := hb.wid
 have hbl := hb.len
 have h1 : BOk e s.1 μ1 := ⟨hn1, hb.gi, h.i, by have := h.l; omega⟩
 refine szq hp (fun _ hZ => jb8 hZ) ?_
 refine zaa fun K6 hK6 => ?_
 refine zal rfl (fun ht => ?_) (fun ht => ?_)
 ·have hlt : k < x.length := by simp at ht; omega
  have hst := zg1 hw hlt (zdk (mE2 e) s.1 (nth x k)).2
  refine zaj (hK6 _ _ ?_)
  refine zaa fun K7 hK7 => ?_
  refine zaf ?_
  refine zag hp zak hc rfl fun K8 hK8 => ?_
  simp -dsimp -implicitDefEqProofs (disch := first | assumption | omega | (simp only [r_z, zab, zac] <;> omega) | decide) only [r_r, ↓reduceIte, Nat.reduceEqDiff, Nat.reduceAdd, D.fix, Int.reduceToNat, Nat.reduceMul, Nat.reduceBNe, Nat.reduceBEq, r_m, bH, bO, zar, zav, zcr, List.cons_append, List.nil_append, bP, zbj, jqy]
  refine hK8 _ _ ?_
  refine za1 hp zak hc rfl fun K9 hK9 => ?_
  refine jb8 ?_
  refine zol (S := bH e s.1 μ1 ++ [bP]) (T := [zcr s.2 x.length]) (jkn e s.1 μ1 k (nth x k) h1 ((hx k hlt).pre hb.pre)) rfl (by first | rfl | (simp [AV.allIs, AV.allI, zaq, zah, zai, okI, ltI, zad, zax, bH, bO, zcr, bP]; done) | (intro o ho; simp at ho; done)) (fun t => zbi (by first | rfl | (simp [AV.allIs, AV.allI, zaq, zah, zai, okI, ltI, zad, zax, bH, bO, zcr, bP]; done) | (intro o ho; simp at ho; done)) t) (by first | rfl | (simp [AV.allIs, AV.allI, zaq, zah, zai, okI, ltI, zad, zax, bH, bO, zcr, bP]; done) | (intro o ho; simp at ho; done)) (by first | rfl | (simp [AV.allIs, AV.allI, zaq, zah, zai, okI, ltI, zad, zax, bH, bO, zcr, bP]; done) | (intro o ho; simp at ho; done)) (by first | rfl | (simp [AV.allIs, AV.allI, zaq, zah, zai, okI, ltI, zad, zax, bH, bO, zcr, bP]; done) | (intro o ho; simp at ho; done)) ?_
  rintro _ _ ⟨μ2, hn2, rfl, rfl⟩
  refine ⟨rfl, ?_⟩
  refine jb8 ?_
  refine hK9 _ _ (hK7 _ _ ?_)
  refine za1 hp zak hc rfl fun K10 hK10 => ?_
  refine jb8 ?_
  refine hK10 _ _ ⟨_, _, _, ?_, ⟨k + 1, μ2, ⟨by omega, by rw [hsu]; exact hn2⟩, rfl, rfl, rfl⟩, ?_⟩
  ·first | omega | (simp only [List.length_cons]; omega) | (dsimp only; omega)
  ·refine ya3 [0,1,2,3,4,5,6,7,8,9] ?_
   refine jxw ?_
   refine yfv ?_; rw [hsu]; dsimp only; rw [← hst]; simp [bH, bO, zar, avs, bP, zg2]
 ·have hkk : k = x.length := by simp at ht; omega
  have hz : s.2 ++ List.replicate (x.length - s.2.length) (0 : Int) = s.2 := by rw [hw, hkk, Nat.sub_self]; simp
  rw [hz]
  refine zau (hK3 _ _ ?_)
  refine szq hp (fun _ hZ => jxx hZ) ?_
  refine zat hp (τ' := frL [(4, .d (.fs (s.2.map iD) x.length))]) (H' := bH e s.1 μ1 ++ [bP]) ?_ ?_
  ·refine Rt.trans (Rt.fz (id := 9) (l := (s.2.map iD)) rfl) ?_
   refine Rt.trans (Rt.slot 4 (zf9 (zbf (by simp [hw, hkk])))) ?_
   refine ya3 [0,1,2,3,4,5,6,7,8] ?_
   refine jxw ?_
   first | rfl | (simp only [r_g, Nat.reduceAdd, ↓reduceIte, Nat.reduceEqDiff, r_m, bH, bO, zar, zav, zcr, List.cons_append, List.nil_append, bP]; first | done | rfl)
  refine zam ?_
  refine zap (t := 4) rfl ?_
  show ∃ _, _
  rw [hke hkk]; exact ⟨μ1, hn1, by show AV.d (.fs (s.2.map iD) x.length) = .d (.fs (s.2.map iD) s.2.length); rw [hw, hkk], rfl⟩
theorem jaf (e : BE) (gs : Gs) (μ : Mp) (x : List Int) (h : BOk e gs μ) (hx : NdL (mE2 e) gs x x.length) (hl : gs.length + x.length ≤ 100000) (hxl : x.length ≤ 1000) : ScS Try.prog [0, 1, 3, 4, 5, 6, 7] 128 [.op 0 0, .d (intsD x)] (bH e gs μ) (jxg e (zg2 (mE2 e) gs x x.length)) := by
 refine zbh (fn := Try.f128) (by kernel_rfl) Try.func128 rfl (Nat.le_of_ble_eq_true rfl) fun c hc hp => ?_
 refine zc1 ?_
 refine szq hp (fun _ hZ => jgz hZ) ?_
 refine zag hp zak hc rfl fun K2 hK2 => ?_
 refine jgz ?_
 refine yft (bH e gs μ ++ [bP]) ([]) (jg2 e gs μ x h hx hl hxl) ?_
 rintro _ _ ⟨μ1, hn1, rfl, rfl⟩
 refine ⟨rfl, ?_⟩
 refine jgz ?_
 refine hK2 _ _ ?_
 refine zat hp (τ' := frL [(4, .d (intsD (zg2 (mE2 e) gs x x.length).2))]) (H' := bH e (zg2 (mE2 e) gs x x.length).1 μ1) ?_ ?_
 ·refine ya3 [0,1,2,3,4,5,6,7] ?_
  refine jxw ?_
  exact yfu
 refine zam ?_
 refine zap (t := 4) rfl ?_
 show ∃ _, _
 exact ⟨μ1, hn1, rfl, rfl⟩
/- netlist's builder: sums. -/
theorem jkp : ((((type_of% @zge) ∧ (type_of% @zgf)) ∧ ((type_of% @zd1) ∧ (type_of% @zey))) ∧ (((type_of% @zc2) ∧ (type_of% @zew)) ∧ ((type_of% @zex) ∧ (type_of% @zee)))) := ⟨⟨⟨@zge, @zgf⟩, ⟨@zd1, @zey⟩⟩, ⟨⟨@zc2, @zew⟩, ⟨@zex, @zee⟩⟩⟩
def jxy (m : Nat) (x y : List Int) (k : Nat) (s : Sm) : Sm :=
 let a := zhj m s.gs (nth x k) (nth y k)
 let b := zhj m a.1 a.2 s.c
 if k + 1 < x.length then (let d := zz4 m b.1 (nth x k) (nth y k) s.c; ⟨d.1, d.2, s.l ++ [b.2]⟩) else ⟨b.1, s.c, s.l ++ [b.2]⟩
theorem jkq {m : Nat} {gs : Gs} {x y : List Int} {c : Int} {k : Nat} : zfk m gs x y c (k + 1) = jxy m x y k (zfk m gs x y c k) := rfl
def jxz (m : Nat) (x y : List Int) (k : Nat) (s : Sm) : Int := (zhj m (zhj m s.gs (nth x k) (nth y k)).1 (zhj m s.gs (nth x k) (nth y k)).2 s.c).2
theorem jx0 {m : Nat} {x y : List Int} {k : Nat} {s : Sm} : (jxy m x y k s).l = s.l ++ [jxz m x y k s] := by
 unfold jxy jxz; dsimp only; split <;> rfl
def smX (x y : List Int) (q : Int) : zae := [bP, .cells [.d (intsD x)], .cells [.d (intsD y)], .cells [.d (iD q)]]
def SmK (e : BE) (x y : List Int) (r : Sm) (v : Int) (z : AV) (S' : zae) : Prop := ∃ μ, NdM (mE2 e) r.gs μ ∧ z = .d (iD v) ∧ S' = bH e r.gs μ ++ smX x y r.c
theorem jqz {p q : Prop} (hq : q) (h : p = q := by
 conv => lhs; simp -dsimp -implicitDefEqProofs (disch := first | assumption | omega | (simp only [r_z, zab, zac] <;> omega) | decide) only [r_r, ↓reduceIte, Nat.reduceEqDiff, Nat.reduceAdd, D.fix, Int.reduceToNat, Nat.reduceMul, Nat.reduceBNe, Nat.reduceBEq, r_m, bH, bO, zar, zav, bP, smX, List.cons_append, List.nil_append]) : p := h.mpr hq
theorem jg3 {p q : Prop} (hq : q) (h : p = q := by
 conv => lhs; simp -dsimp -implicitDefEqProofs (disch := first | assumption | omega | (simp only [r_z, zab, zac] <;> omega) | decide) only [r_r, ↓reduceIte, Nat.reduceEqDiff, Nat.reduceAdd, D.fix, Int.reduceToNat, Nat.reduceMul, Nat.reduceBNe, Nat.reduceBEq, r_w, r_m, bH, bO, zar, zav, bP, smX, List.cons_append, List.nil_append, zbj, jkp]) : p := h.mpr hq
theorem yc2 {P : Program} {sm : List Nat} {N : Nat} {τ0 τ : Fr} {H : zae} {f : FuncId} {args : List AV} {K0 KK : AV → zae → Prop} {ks : List Nat} (S T : zae) (h : ScS P ks f args S K0) (hK : ∀ x S', K0 x S' → S'.length = S.length ∧ KK x (S' ++ T)) (hH : H = S ++ T := by
 rfl) (hN : S.length ≤ N := by
 exact Nat.le_of_ble_eq_true rfl) (hm : sm.all (okI ks S.length) = true := by
 first | rfl | (simp [AV.allIs, AV.allI, zaq, zah, zai, okI, ltI, zad, zax, bH, bO, bP, smX]; done) | (intro o ho; simp at ho; done)) (hτ : ∀ t, (τ t).allI (okI ks S.length) = true := by
 exact fun t => zbi (by first | rfl | (simp [AV.allIs, AV.allI, zaq, zah, zai, okI, ltI, zad, zax, bH, bO, bP, smX]; done) | (intro o ho; simp at ho; done)) t) (h0 : ∀ t, (τ0 t).allI (okI ks S.length) = true := by
 exact fun t => zbi (by first | rfl | (simp [AV.allIs, AV.allI, zaq, zah, zai, okI, ltI, zad, zax, bH, bO, bP, smX]; done) | (intro o ho; simp at ho; done)) t) (ha : AV.allIs (ltI S.length) args = true := by
 first | rfl | (simp [AV.allIs, AV.allI, zaq, zah, zai, okI, ltI, zad, zax, bH, bO, bP, smX]; done) | (intro o ho; simp at ho; done)) (hS : ∀ o ∈ S, o.allI (ltI S.length) = true := by
 first | rfl | (simp [AV.allIs, AV.allI, zaq, zah, zai, okI, ltI, zad, zax, bH, bO, bP, smX]; done) | (intro o ho; simp at ho; done)) (hT : ∀ o ∈ T, o.allI (okI ks S.length) = true := by
 first | rfl | (simp [AV.allIs, AV.allI, zaq, zah, zai, okI, ltI, zad, zax, bH, bO, bP, smX]; done) | (intro o ho; simp at ho; done)) : kE P sm N τ0 τ H (.d (.val (.func (.func f) #[] #[]))) args (tg KK) := zlu h hH hN hm hτ h0 ha hS hT hK
theorem jkr {p q : Prop} (hq : q) (h : p = q := by
 conv => lhs; simp -dsimp -implicitDefEqProofs (disch := first | assumption | omega | (simp only [r_z, zab, zac] <;> omega) | decide) only [r_r, ↓reduceIte, Nat.reduceEqDiff, Nat.reduceAdd, D.fix, Int.reduceToNat, Nat.reduceMul, Nat.reduceBNe, Nat.reduceBEq, r_m, bH, bO, zar, zav, bP, smX, List.cons_append, List.nil_append, jkp]) : p := h.mpr hq
theorem jx1 (k : List Nat) {m : List Nat} {τ τ1 : Fr} {H H1 : zae} (h : Rt m (fun t => gcV k (τ t)) (gcH k H) τ1 H1) (a : ∀ i ∈ m, k[i]? = some i := by decide) (b : k.Nodup := by decide) (c : ∀ i ∈ k, i < H.length := by
 simp [fzH, gcH]) : Rt m τ H τ1 H1 := Rt.trans (Rt.gc a b c) h
theorem js1 {m : List Nat} {τ τ' : Fr} {H H' : zae} (h2 : H = H') (h : zfq τ τ' := by
 repeat (first | exact zas _ | refine zao ?_ (by first | rfl | (simp [r_f, zab, zac]; done) | simp [r_f, zab, zac, *]))) : Rt m τ H τ' H' := Rt.end h h2
theorem yc3 {p : Prop} (h : p := by
 first | rfl | (simp only [r_g, Nat.reduceAdd, ↓reduceIte, Nat.reduceEqDiff, r_m, bH, bO, zar, zav, bP, smX, List.cons_append, List.nil_append]; first | done | rfl)) : p := h
theorem jq0 (e : BE) (μ : Mp) (x y : List Int) (k : Nat) (s : Sm) (h : BOk e s.gs μ) (hk : k < x.length) (hky : k < y.length) (hx : NdB (mE2 e) s.gs (nth x k)) (hy : NdB (mE2 e) s.gs (nth y k)) (hq : NdB (mE2 e) s.gs s.c) (hl : s.gs.length + 3 ≤ 100000) (hxl : x.length ≤ 1000) : ScS Try.prog [0, 1, 3, 4, 5, 6, 7, 8, 9, 10, 11] 142 [.d (iD k), .d (iD (nth x k)), .op 8 0, .op 10 0, .op 11 0, .op 9 0] (bH e s.gs μ ++ smX x y s.c) (SmK e x y (jxy (mE2 e) x y k s) (jxz (mE2 e) x y k s)) := by
 refine zbh (fn := Try.f142) (by kernel_rfl) Try.func142 rfl (Nat.le_of_ble_eq_true rfl) fun c hc hp => ?_
 refine jqq ?_
 unfold bH smX bP
 obtain ⟨A, eA⟩ : ∃ A, A = zhj (mE2 e) s.gs (nth x k) (nth y k) := ⟨_, rfl⟩
 obtain ⟨B, eB⟩ : ∃ B, B = zhj (mE2 e) A.1 A.2 s.c := ⟨_, rfl⟩
 obtain ⟨M, eM⟩ : ∃ M, M = zz4 (mE2 e) B.1 (nth x k) (nth y k) s.c := ⟨_, rfl⟩
 have hR : jxy (mE2 e) x y k s = if k + 1 < x.length then ⟨M.1, M.2, s.l ++ [B.2]⟩ else ⟨B.1, s.c, s.l ++ [B.2]⟩ := by rw [eM, eB, eA]; rfl
 have hV : jxz (mE2 e) x y k s = B.2 := by rw [eB, eA]; rfl
 have c1 := jae e s.gs μ (nth x k) (nth y k) h hx hy
 have r1 := zj1 zf2 h.g hx hy
 rw [← eA] at c1 r1
 have l1 := r1.len
 refine szq hp (fun _ hZ => jqz hZ) ?_
 refine za6 zak hp hc mixed rfl [(0, []), (1, []), (2, []), (3, []), (4, []), (5, []), (6, []), (8, []), (7, [0, 8]), (9, []), (10, [])] [[], [], [], [], [], [3, 4], [3, 4, 5], [1, 2, 3, 4, 5, 6], [], [0, 1, 2, 3, 4, 5, 6, 7, 8], [0, 1, 2, 3, 4, 5, 6, 7, 8, 9]] 0 (by kernel_rfl) fun K2 hK2 => ?_
 refine jg3 ?_
 refine yc2 (bH e s.gs μ) (smX x y s.c) (c1) ?_
 rintro _ _ ⟨μ1, hn1, rfl, rfl⟩
 refine ⟨rfl, ?_⟩
 have h1 := h.next r1 hn1 (by omega)
 have c2 := jae e A.1 μ1 A.2 s.c h1 r1.nd (hq.pre r1.pre)
 have r2 := zj1 zf2 h1.g r1.nd (hq.pre r1.pre)
 rw [← eB] at c2 r2
 have l2 := r2.len
 refine jg3 ?_
 refine yc2 (bH e A.1 μ1) (smX x y s.c) (c2) ?_
 rintro _ _ ⟨μ2, hn2, rfl, rfl⟩
 refine ⟨rfl, ?_⟩
 have h2 := h1.next r2 hn2 (by omega)
 have hpp := r1.pre.trans r2.pre
 refine jg3 ?_
 refine hK2 _ _ ?_
 refine zaa fun K3 hK3 => ?_
 refine szq hp (fun _ hZ => jkr hZ) ?_
 refine zal rfl (fun ht => ?_) (fun ht => ?_)
 ·have hlt : k + 1 < x.length := by simp at ht; omega
  have c3 := jos e B.1 μ2 (nth x k) (nth y k) s.c h2 (hx.pre hpp) (hy.pre hpp) (hq.pre hpp)
  rw [← eM] at c3
  refine zkz zak hp hc mixed rfl [(0, []), (1, []), (2, []), (3, []), (4, []), (5, []), (6, []), (7, []), (8, [])] [[], [], [], [], [2, 3], [2, 3, 4], [], [0, 1, 2, 3, 4, 5, 6], [0, 1, 2, 3, 4, 5, 6, 7]] 0 (by kernel_rfl) fun K5 hK5 => ?_
  refine jg3 ?_
  refine yc2 (bH e B.1 μ2) (smX x y s.c) (c3) ?_
  rintro _ _ ⟨μ3, hn3, rfl, rfl⟩
  refine ⟨rfl, ?_⟩
  refine jg3 ?_
  refine hK5 _ _ (hK3 _ _ ?_)
  refine szq hp (fun _ hZ => jqz hZ) ?_
  refine zat hp (τ' := frL [(8, .d (iD B.2))]) (H' := bH e M.1 μ3 ++ smX x y M.2) ?_ ?_
  ·refine jx1 [0,1,2,3,4,5,6,7,8,9,10,11] ?_
   refine js1 ?_
   exact yc3
  refine zam ?_
  refine zap (t := 8) rfl ?_
  show ∃ _, _
  rw [hR, hV, if_pos hlt]; exact ⟨μ3, hn3, rfl, rfl⟩
 ·have hlt : ¬ k + 1 < x.length := by simp at ht; omega
  refine zaj (hK3 _ _ ?_)
  refine szq hp (fun _ hZ => jqz hZ) ?_
  refine zat hp (τ' := frL [(8, .d (iD B.2))]) (H' := bH e B.1 μ2 ++ smX x y s.c) ?_ ?_
  ·refine jx1 [0,1,2,3,4,5,6,7,8,9,10,11] ?_
   refine js1 ?_
   exact yc3
  refine zam ?_
  refine zap (t := 8) rfl ?_
  show ∃ _, _
  rw [hR, hV, if_neg hlt]; exact ⟨μ2, hn2, rfl, rfl⟩
theorem yc4 {m : Nat} {gs : Gs} {x y : List Int} {c : Int} {n k : Nat} (h2 : 2 ≤ m) (h : GI m gs) (hn : n = x.length) (hx : NdL m gs x n) (hy : NdL m gs y n) (hc : NdB m gs c) (hk : k ≤ n) : Ss m (3 * k) k gs (zfk m gs x y c k) := by
 subst hn; exact zql h2 h hx hy hc k hk
def SmX (e : BE) (x y : List Int) (r : Sm) (z : AV) (S' : zae) : Prop := ∃ μ, NdM (mE2 e) r.gs μ ∧ z = .d (intsD r.l) ∧ S' = bH e r.gs μ ++ smX x y r.c
theorem jx2 {p q : Prop} (hq : q) (h : p = q := by
 conv => lhs; simp -dsimp -implicitDefEqProofs (disch := first | assumption | omega | (simp only [r_z, zab, zac] <;> omega) | decide) only [r_r, ↓reduceIte, Nat.reduceEqDiff, Nat.reduceAdd, D.fix, Int.reduceToNat, Nat.reduceMul, Nat.reduceBNe, Nat.reduceBEq, r_m, bH, bO, zar, zav, zcr, List.cons_append, List.nil_append, bP, smX]) : p := h.mpr hq
theorem jb9 {p q : Prop} (hq : q) (h : p = q := by
 conv => lhs; simp -dsimp -implicitDefEqProofs (disch := first | assumption | omega | (simp only [r_z, zab, zac] <;> omega) | decide) only [r_r, ↓reduceIte, Nat.reduceEqDiff, Nat.reduceAdd, D.fix, Int.reduceToNat, Nat.reduceMul, Nat.reduceBNe, Nat.reduceBEq, r_m, bH, bO, zar, zav, zcr, List.cons_append, List.nil_append, bP, smX, jkp]) : p := h.mpr hq
theorem yfw {p q : Prop} (hq : q) (h : p = q := by
 conv => lhs; simp only [r_g, Nat.reduceAdd, ↓reduceIte, Nat.reduceEqDiff, r_m, bH, bO, zar, zav, zcr, List.cons_append, List.nil_append, bP, smX]) : p := h.mpr hq
theorem jks (e : BE) (gs : Gs) (μ : Mp) (x y : List Int) (q : Int) (h : BOk e gs μ) (hx : NdL (mE2 e) gs x x.length) (hy : NdL (mE2 e) gs y x.length) (hxy : y.length = x.length) (hq : NdB (mE2 e) gs q) (hl : gs.length + 3 * x.length ≤ 99990) (hxl : x.length ≤ 1000) : ScS Try.prog [0, 1, 3, 4, 5, 6, 7, 8, 9, 10, 11] 119 [.d (intsD x), .clo (.func 142) [] [.op 8 0, .op 10 0, .op 11 0, .op 9 0]] (bH e gs μ ++ smX x y q) (SmX e x y (zfk (mE2 e) gs x y q x.length)) := by
 refine zbh (fn := Try.f119) (by kernel_rfl) Try.func119 rfl (Nat.le_of_ble_eq_true rfl) fun c hc hp => ?_
 refine zc1 ?_
 unfold bH smX bP
 refine szq hp (fun _ hZ => jx2 hZ) ?_
 refine szq hp (fun _ hZ => jb9 hZ) ?_
 refine zaa fun K3 hK3 => ?_
 refine szq hp (fun _ hZ => jb9 hZ) ?_
 refine zaf ?_
 refine zan hp (fun τ' H' mm => ∃ (k : Nat) (μ1 : Mp), (k ≤ x.length ∧ NdM (mE2 e) (zfk (mE2 e) gs x y q k).gs μ1) ∧ mm = x.length - k ∧ H' = bH e (zfk (mE2 e) gs x y q k).gs μ1 ++ [bP, .cells [.d (intsD x)], .cells [.d (intsD y)], .cells [.d (iD (zfk (mE2 e) gs x y q k).c)], zcr (zfk (mE2 e) gs x y q k).l x.length] ∧ τ' = frL [(1, .clo (.func 142) [] [.op 8 0, .op 10 0, .op 11 0, .op 9 0]), (5, .os 1 12 0 x.length), (11, .d (intsD x)), (12, .d (iD x.length)), (13, .d (iD k))]) (x.length) ?_ ⟨0, μ, ⟨Nat.zero_le _, h.n⟩, rfl, rfl, rfl⟩ ?_
 ·refine js1 ?_
  refine yfw ?_; simp [zfk, zcr, bH, bO, zar, iD, avs, smX, bP]
 rintro τ' H' mm ⟨k, μ1, ⟨hk, hn1⟩, rfl, rfl, rfl⟩
 have hb := yc4 zf2 h.g rfl hx hy hq hk
 have hsu := @jkq (mE2 e) gs x y q k
 have hke : k = x.length → zfk (mE2 e) gs x y q x.length = zfk (mE2 e) gs x y q k := fun e => by rw [← e]
 generalize zfk (mE2 e) gs x y q k = s at *
 have hw : s.l.length = k := hb.bs.wid
 have hbl : s.gs.length ≤ gs.length + 3 * k := hb.bs.len
 have h1 : BOk e s.gs μ1 := ⟨hn1, hb.bs.gi, h.i, by have := h.l; omega⟩
 refine szq hp (fun _ hZ => jb9 hZ) ?_
 refine zaa fun K6 hK6 => ?_
 refine zal rfl (fun ht => ?_) (fun ht => ?_)
 ·have hlt : k < x.length := by simp at ht; omega
  have hst := zg1 hw hlt (jxz (mE2 e) x y k s)
  have hR := @jx0 (mE2 e) x y k s
  refine zaj (hK6 _ _ ?_)
  refine zaa fun K7 hK7 => ?_
  refine zaf ?_
  refine zag hp zak hc rfl fun K8 hK8 => ?_
  simp -dsimp -implicitDefEqProofs (disch := first | assumption | omega | (simp only [r_z, zab, zac] <;> omega) | decide) only [r_r, ↓reduceIte, Nat.reduceEqDiff, Nat.reduceAdd, D.fix, Int.reduceToNat, Nat.reduceMul, Nat.reduceBNe, Nat.reduceBEq, r_m, bH, bO, zar, zav, zcr, List.cons_append, List.nil_append, bP, smX, zbj, jkp]
  refine hK8 _ _ ?_
  refine za1 hp zak hc rfl fun K9 hK9 => ?_
  refine jb9 ?_
  refine zol (S := bH e s.gs μ1 ++ smX x y s.c) (T := [zcr s.l x.length]) (jq0 e μ1 x y k s h1 hlt (by omega) ((hx k hlt).pre hb.bs.pre) ((hy k hlt).pre hb.bs.pre) hb.c (by omega) hxl) rfl (by first | rfl | (simp [AV.allIs, AV.allI, zaq, zah, zai, okI, ltI, zad, zax, bH, bO, zcr, bP, smX]; done) | (intro o ho; simp at ho; done)) (fun t => zbi (by first | rfl | (simp [AV.allIs, AV.allI, zaq, zah, zai, okI, ltI, zad, zax, bH, bO, zcr, bP, smX]; done) | (intro o ho; simp at ho; done)) t) (by first | rfl | (simp [AV.allIs, AV.allI, zaq, zah, zai, okI, ltI, zad, zax, bH, bO, zcr, bP, smX]; done) | (intro o ho; simp at ho; done)) (by first | rfl | (simp [AV.allIs, AV.allI, zaq, zah, zai, okI, ltI, zad, zax, bH, bO, zcr, bP, smX]; done) | (intro o ho; simp at ho; done)) (by first | rfl | (simp [AV.allIs, AV.allI, zaq, zah, zai, okI, ltI, zad, zax, bH, bO, zcr, bP, smX]; done) | (intro o ho; simp at ho; done)) ?_
  rintro _ _ ⟨μ2, hn2, rfl, rfl⟩
  refine ⟨rfl, ?_⟩
  refine jb9 ?_
  refine hK9 _ _ (hK7 _ _ ?_)
  refine za1 hp zak hc rfl fun K10 hK10 => ?_
  refine jb9 ?_
  refine hK10 _ _ ⟨_, _, _, ?_, ⟨k + 1, μ2, ⟨by omega, by rw [hsu]; exact hn2⟩, rfl, rfl, rfl⟩, ?_⟩
  ·first | omega | (simp only [List.length_cons]; omega) | (dsimp only; omega)
  ·refine jx1 [0,1,2,3,4,5,6,7,8,9,10,11,12] ?_
   refine js1 ?_
   refine yfw ?_; rw [hsu, hR, ← hst]; simp [bH, bO, zar, avs, bP, smX, iD]
 ·have hkk : k = x.length := by simp at ht; omega
  have hz : s.l ++ List.replicate (x.length - s.l.length) (0 : Int) = s.l := by rw [hw, hkk, Nat.sub_self]; simp
  rw [hz]
  refine zau (hK3 _ _ ?_)
  refine szq hp (fun _ hZ => jx2 hZ) ?_
  refine zat hp (τ' := frL [(4, .d (.fs (s.l.map iD) x.length))]) (H' := bH e s.gs μ1 ++ smX x y s.c) ?_ ?_
  ·refine Rt.trans (Rt.fz (id := 12) (l := (s.l.map iD)) rfl) ?_
   refine Rt.trans (Rt.slot 4 (zf9 (zbf (by simp [hw, hkk])))) ?_
   refine jx1 [0,1,2,3,4,5,6,7,8,9,10,11] ?_
   refine js1 ?_
   first | rfl | (simp only [r_g, Nat.reduceAdd, ↓reduceIte, Nat.reduceEqDiff, r_m, bH, bO, zar, zav, zcr, List.cons_append, List.nil_append, bP, smX]; first | done | rfl)
  refine zam ?_
  refine zap (t := 4) rfl ?_
  show ∃ _, _
  rw [hke hkk]; exact ⟨μ1, hn1, by show AV.d (.fs (s.l.map iD) x.length) = .d (.fs (s.l.map iD) s.l.length); rw [hw, hkk], rfl⟩
theorem jot (e : BE) (gs : Gs) (μ : Mp) (x y : List Int) (q : Int) (h : BOk e gs μ) (hx : NdL (mE2 e) gs x x.length) (hy : NdL (mE2 e) gs y x.length) (hxy : y.length = x.length) (hq : NdB (mE2 e) gs q) (hl : gs.length + 3 * x.length ≤ 99990) (hxl : x.length ≤ 1000) : ScS Try.prog [0, 1, 3, 4, 5, 6, 7] 129 [.op 0 0, .d (intsD x), .d (intsD y), .d (iD q)] (bH e gs μ) (jxg e ((zfk (mE2 e) gs x y q x.length).gs, (zfk (mE2 e) gs x y q x.length).l)) := by
 refine zbh (fn := Try.f129) (by kernel_rfl) Try.func129 rfl (Nat.le_of_ble_eq_true rfl) fun c hc hp => ?_
 refine zkf ?_
 refine szq hp (fun _ hZ => jkr hZ) ?_
 refine zag hp zak hc rfl fun K2 hK2 => ?_
 refine jkr ?_
 refine zjo (S := bH e gs μ ++ smX x y q) (T := []) (jks e gs μ x y q h hx hy hxy hq hl hxl) rfl (by first | rfl | (simp [AV.allIs, AV.allI, zaq, zah, zai, okI, ltI, zad, zax, bH, bO, bP, smX]; done) | (intro o ho; simp at ho; done)) (fun t => zbi (by first | rfl | (simp [AV.allIs, AV.allI, zaq, zah, zai, okI, ltI, zad, zax, bH, bO, bP, smX]; done) | (intro o ho; simp at ho; done)) t) (by first | rfl | (simp [AV.allIs, AV.allI, zaq, zah, zai, okI, ltI, zad, zax, bH, bO, bP, smX]; done) | (intro o ho; simp at ho; done)) (by first | rfl | (simp [AV.allIs, AV.allI, zaq, zah, zai, okI, ltI, zad, zax, bH, bO, bP, smX]; done) | (intro o ho; simp at ho; done)) (by first | rfl | (simp [AV.allIs, AV.allI, zaq, zah, zai, okI, ltI, zad, zax, bH, bO, bP, smX]; done) | (intro o ho; simp at ho; done)) ?_
 rintro _ _ ⟨μ1, hn1, rfl, rfl⟩
 refine ⟨rfl, ?_⟩
 refine jkr ?_
 refine hK2 _ _ ?_
 refine zat hp (τ' := frL [(8, .d (intsD (zfk (mE2 e) gs x y q x.length).l))]) (H' := bH e (zfk (mE2 e) gs x y q x.length).gs μ1) ?_ ?_
 ·refine jx1 [0,1,2,3,4,5,6,7] ?_
  refine js1 ?_
  exact yc3
 refine zam ?_
 refine zap (t := 8) rfl ?_
 show ∃ _, _
 exact ⟨μ1, hn1, rfl, rfl⟩
end Go.Proofs.Ytapjobndmmkanaa
