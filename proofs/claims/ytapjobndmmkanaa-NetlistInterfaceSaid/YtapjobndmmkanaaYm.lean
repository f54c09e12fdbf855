/- netlist's builder: what bits gives, word by word. -/
import Derived.Test.YtapjobndmmkanaaQr
import Derived.Test.YtapjobndmmkanaaYl
set_option linter.unusedVariables false
set_option linter.unusedSimpArgs false
set_option maxRecDepth 100000
set_option maxHeartbeats 4000000
namespace Go.Proofs.Ytapjobndmmkanaa
open Go Go.RowKit
theorem zuf : ((((type_of% @zge) ∧ ((type_of% @zgf) ∧ (type_of% @zjy))) ∧ (((type_of% @zew) ∧ (type_of% @zex)) ∧ ((type_of% @zk7) ∧ (type_of% @zd8)))) ∧ (((type_of% @zd9) ∧ ((type_of% @zgw) ∧ (type_of% @zio))) ∧ (((type_of% @jfz) ∧ (type_of% @zk6)) ∧ ((type_of% @zc2) ∧ (type_of% @zee))))) := ⟨⟨⟨@zge, ⟨@zgf, @zjy⟩⟩, ⟨⟨@zew, @zex⟩, ⟨@zk7, @zd8⟩⟩⟩, ⟨⟨@zd9, ⟨@zgw, @zio⟩⟩, ⟨⟨@jfz, @zk6⟩, ⟨@zc2, @zee⟩⟩⟩⟩
theorem jx6 {p q : Prop} (hq : q) (h : p = q := by
 conv => lhs; simp -dsimp -implicitDefEqProofs (disch := first | assumption | omega | (simp only [r_z, zab, zac] <;> omega) | decide) only [r_r, ↓reduceIte, Nat.reduceEqDiff, Nat.reduceAdd, D.fix, Int.reduceToNat, Nat.reduceMul, Nat.reduceBNe, Nat.reduceBEq, r_m, bH, bO, zar, zav, bP, List.cons_append, List.nil_append, zuf]) : p := h.mpr hq
theorem zwi (k : List Nat) {m : List Nat} {τ τ1 : Fr} {H H1 : zae} (h : Rt m (fun t => gcV k (τ t)) (gcH k H) τ1 H1) (a : ∀ i ∈ m, k[i]? = some i := by decide) (b : k.Nodup := by decide) (c : ∀ i ∈ k, i < H.length := by
 simp [fzH, gcH]) : Rt m τ H τ1 H1 := Rt.trans (Rt.gc a b c) h
theorem zo9 {m : List Nat} {τ τ' : Fr} {H H' : zae} (h2 : H = H') (h : zfq τ τ' := by
 repeat (first | exact zas _ | refine zao ?_ (by first | rfl | (simp [r_f, zab, zac]; done) | simp [r_f, zab, zac, *]))) : Rt m τ H τ' H' := Rt.end h h2
theorem ydc (e : BE) (gs : Gs) (μ : Mp) (d0 d1 d2 : Int) (j i : Nat) (x : Int) (h : BOk e gs μ) (h0 : NdB (mE2 e) gs d0) (h1 : NdB (mE2 e) gs d1) (h2 : NdB (mE2 e) gs d2) (hj : j ≤ 1000) (hi : i ≤ 1000) : ScS Try.prog [0, 1, 3, 4, 5, 6, 7, 8, 9, 10] 134 [.d (iD i), .d (iD x), .op 8 0, .op 9 0, .op 10 0] (bH e gs μ ++ [bP, .cells [.d (iD d0), .d (iD d1), .d (iD d2)], .cells [.d (iD j)]]) (jb7 e [bP, .cells [.d (iD d0), .d (iD d1), .d (iD d2)], .cells [.d (iD j)]] (zct (mE2 e) gs ⟨7, d0, d1, d2, ((8 * j + i : Nat) : Int)⟩)) := by
 refine zbh (fn := Try.f134) (by kernel_rfl) Try.func134 rfl (Nat.le_of_ble_eq_true rfl) fun c hc hp => ?_
 refine zls ?_
 unfold bH bP
 have hcc : ((8 * j + i : Nat) : Int) = 8 * (j : Int) + i := by omega
 rw [hcc]
 refine zag hp zak hc rfl fun K1 hK1 => ?_
 simp -dsimp -implicitDefEqProofs (disch := first | assumption | omega | (simp only [r_z, zab, zac] <;> omega) | decide) only [r_r, ↓reduceIte, Nat.reduceEqDiff, Nat.reduceAdd, D.fix, Int.reduceToNat, Nat.reduceMul, Nat.reduceBNe, Nat.reduceBEq, r_m, bH, bO, zar, zav, bP, List.cons_append, List.nil_append]
 refine hK1 _ _ ?_
 refine zag hp zak hc rfl fun K2 hK2 => ?_
 refine jx6 ?_
 refine zjo (S := bH e gs μ) (T := [bP, .cells [.d (iD d0), .d (iD d1), .d (iD d2)], .cells [.d (iD j)]]) (zki e gs μ ⟨7, d0, d1, d2, 8 * (j : Int) + i⟩ h.n ⟨(zpp (by decide) (by decide) : I64 7), h.nd64 h0, h.nd64 h1, h.nd64 h2, (zpp (by omega) (by omega) : I64 (8 * (j : Int) + i))⟩ h.i h.l) rfl (by first | rfl | (simp [AV.allIs, AV.allI, zaq, zah, zai, okI, ltI, zad, zax, bH, bO, bP]; done) | (intro o ho; simp at ho; done)) (fun t => zbi (by first | rfl | (simp [AV.allIs, AV.allI, zaq, zah, zai, okI, ltI, zad, zax, bH, bO, bP]; done) | (intro o ho; simp at ho; done)) t) (by first | rfl | (simp [AV.allIs, AV.allI, zaq, zah, zai, okI, ltI, zad, zax, bH, bO, bP]; done) | (intro o ho; simp at ho; done)) (by first | rfl | (simp [AV.allIs, AV.allI, zaq, zah, zai, okI, ltI, zad, zax, bH, bO, bP]; done) | (intro o ho; simp at ho; done)) (by first | rfl | (simp [AV.allIs, AV.allI, zaq, zah, zai, okI, ltI, zad, zax, bH, bO, bP]; done) | (intro o ho; simp at ho; done)) ?_
 rintro _ _ ⟨μ1, hn1, rfl, rfl⟩
 refine ⟨rfl, ?_⟩
 refine jx6 ?_
 refine hK2 _ _ ?_
 refine zat hp (τ' := frL [(7, .d (iD (zct (mE2 e) gs ⟨7, d0, d1, d2, 8 * (j : Int) + i⟩).2))]) (H' := bH e (zct (mE2 e) gs ⟨7, d0, d1, d2, 8 * (j : Int) + i⟩).1 μ1 ++ [bP, .cells [.d (iD d0), .d (iD d1), .d (iD d2)], .cells [.d (iD j)]]) ?_ ?_
 ·refine zwi [0,1,2,3,4,5,6,7,8,9,10] ?_
  refine zo9 ?_
  first | rfl | (simp only [r_g, Nat.reduceAdd, ↓reduceIte, Nat.reduceEqDiff, r_m, bH, bO, zar, zav, bP, List.cons_append, List.nil_append]; first | done | rfl)
 refine zam ?_
 refine zap (t := 7) rfl ?_
 show ∃ _, _
 exact ⟨μ1, hn1, rfl, rfl⟩
def zu2 (m : Nat) (gs : Gs) (x y : List Int) (k : Nat) : Gs × List Int := zbs (fun gs i => zda m gs (nth x i) (nth y i)) gs k
theorem jg5 {m : Nat} {gs : Gs} {x y : List Int} {k : Nat} : zu2 m gs x y (k + 1) = ((zda m (zu2 m gs x y k).1 (nth x k) (nth y k)).1, (zu2 m gs x y k).2 ++ [(zda m (zu2 m gs x y k).1 (nth x k) (nth y k)).2]) := rfl
theorem jq5 {m : Nat} {gs : Gs} {x y : List Int} {n k : Nat} (h2 : 2 ≤ m) (h : GI m gs) (hx : NdL m gs x n) (hy : NdL m gs y n) (hk : k ≤ n) : Bs m (1 * k) k gs (zu2 m gs x y k) := zcv h fun j hj gs' hp hg => zgi h2 hg ((hx j (by omega)).pre hp) ((hy j (by omega)).pre hp)
theorem jq6 (e : BE) (gs : Gs) (μ : Mp) (x y : List Int) (i : Nat) (z : Int) (h : BOk e gs μ) (hi : i < y.length) (hx : NdB (mE2 e) gs z) (hy : NdB (mE2 e) gs (nth y i)) : ScS Try.prog [0, 1, 3, 4, 5, 6, 7, 8, 9, 10] 125 [.d (iD i), .d (iD z), .op 10 0, .op 8 0, .op 9 0] (bH e gs μ ++ xA [x, y] 102) (jb7 e (xA [x, y] 102) (zda (mE2 e) gs z (nth y i))) := jq3 e gs μ [x, y] i z h (by simp) hi hx hy
theorem jcc {p q : Prop} (hq : q) (h : p = q := by
 conv => lhs; simp -dsimp -implicitDefEqProofs (disch := first | assumption | omega | (simp only [r_z, zab, zac] <;> omega) | decide) only [r_r, ↓reduceIte, Nat.reduceEqDiff, Nat.reduceAdd, D.fix, Int.reduceToNat, Nat.reduceMul, Nat.reduceBNe, Nat.reduceBEq, r_m, bH, bO, zar, zav, zcr, List.cons_append, List.nil_append, bP, xA]) : p := h.mpr hq
theorem zh4 {p q : Prop} (hq : q) (h : p = q := by
 conv => lhs; simp -dsimp -implicitDefEqProofs (disch := first | assumption | omega | (simp only [r_z, zab, zac] <;> omega) | decide) only [r_r, ↓reduceIte, Nat.reduceEqDiff, Nat.reduceAdd, D.fix, Int.reduceToNat, Nat.reduceMul, Nat.reduceBNe, Nat.reduceBEq, r_m, bH, bO, zar, zav, zcr, List.cons_append, List.nil_append, bP, xA, zuf]) : p := h.mpr hq
theorem jq7 {p q : Prop} (hq : q) (h : p = q := by
 conv => lhs; simp -dsimp -implicitDefEqProofs (disch := first | assumption | omega | (simp only [r_z, zab, zac] <;> omega) | decide) only [r_r, ↓reduceIte, Nat.reduceEqDiff, Nat.reduceAdd, D.fix, Int.reduceToNat, Nat.reduceMul, Nat.reduceBNe, Nat.reduceBEq, r_m, bH, bO, zar, zav, zcr, List.cons_append, List.nil_append, bP, xA, zbj, zuf]) : p := h.mpr hq
theorem ydd {P : Program} {sm : List Nat} {N : Nat} {τ : Fr} {H : zae} {f : FuncId} {fi ca args : List AV} {K0 KK : AV → zae → Prop} {ks : List Nat} (S T : zae) (h : ScS P ks f (fi ++ args ++ ca) S K0) (hK : ∀ x S', K0 x S' → S'.length = S.length ∧ KK x (S' ++ T)) (hH : H = S ++ T := by
 rfl) (hm : sm.all (okI ks S.length) = true := by
 first | rfl | (simp [AV.allIs, AV.allI, zaq, zah, zai, okI, ltI, zad, zax, bH, bO, zcr, bP, xA]; done) | (intro o ho; simp at ho; done)) (hτ : ∀ t, (τ t).allI (okI ks S.length) = true := by
 exact fun t => zbi (by first | rfl | (simp [AV.allIs, AV.allI, zaq, zah, zai, okI, ltI, zad, zax, bH, bO, zcr, bP, xA]; done) | (intro o ho; simp at ho; done)) t) (ha : AV.allIs (ltI S.length) (fi ++ args ++ ca) = true := by
 first | rfl | (simp [AV.allIs, AV.allI, zaq, zah, zai, okI, ltI, zad, zax, bH, bO, zcr, bP, xA]; done) | (intro o ho; simp at ho; done)) (hS : ∀ o ∈ S, o.allI (ltI S.length) = true := by
 first | rfl | (simp [AV.allIs, AV.allI, zaq, zah, zai, okI, ltI, zad, zax, bH, bO, zcr, bP, xA]; done) | (intro o ho; simp at ho; done)) (hT : ∀ o ∈ T, o.allI (okI ks S.length) = true := by
 first | rfl | (simp [AV.allIs, AV.allI, zaq, zah, zai, okI, ltI, zad, zax, bH, bO, zcr, bP, xA]; done) | (intro o ho; simp at ho; done)) : kC P sm N H τ (.clo (.func f) fi ca) args true (tg KK) := zol h hH hm hτ ha hS hT hK
theorem js5 {p q : Prop} (hq : q) (h : p = q := by
 conv => lhs; simp only [r_g, Nat.reduceAdd, ↓reduceIte, Nat.reduceEqDiff, r_m, bH, bO, zar, zav, zcr, List.cons_append, List.nil_append, bP, xA]) : p := h.mpr hq
theorem yde {p : Prop} (h : p := by
 first | rfl | (simp only [r_g, Nat.reduceAdd, ↓reduceIte, Nat.reduceEqDiff, r_m, bH, bO, zar, zav, zcr, List.cons_append, List.nil_append, bP, xA]; first | done | rfl)) : p := h
theorem jkw (e : BE) (gs : Gs) (μ : Mp) (x y : List Int) (h : BOk e gs μ) (hx : NdL (mE2 e) gs x x.length) (hy : NdL (mE2 e) gs y x.length) (hxy : y.length = x.length) (hl : gs.length + x.length ≤ 99990) (hxl : x.length ≤ 1000) : ScS Try.prog [0, 1, 3, 4, 5, 6, 7, 8, 9, 10] 119 [.d (intsD x), .clo (.func 125) [] [.op 10 0, .op 8 0, .op 9 0]] (bH e gs μ ++ [bP, .cells [.d (intssD [x, y])], .cells [.d (.val (.func (.func 102) #[] #[]))]]) (jko e [bP, .cells [.d (intssD [x, y])], .cells [.d (.val (.func (.func 102) #[] #[]))]] (zu2 (mE2 e) gs x y x.length)) := by
 refine zbh (fn := Try.f119) (by kernel_rfl) Try.func119 rfl (Nat.le_of_ble_eq_true rfl) fun c hc hp => ?_
 refine zc1 ?_
 unfold bH bP
 refine szq hp (fun _ hZ => jcc hZ) ?_
 refine szq hp (fun _ hZ => zh4 hZ) ?_
 refine zaa fun K3 hK3 => ?_
 refine szq hp (fun _ hZ => zh4 hZ) ?_
 refine zaf ?_
 refine zan hp (fun τ' H' mm => ∃ (k : Nat) (μ1 : Mp), (k ≤ x.length ∧ NdM (mE2 e) (zu2 (mE2 e) gs x y k).1 μ1) ∧ mm = x.length - k ∧ H' = bH e (zu2 (mE2 e) gs x y k).1 μ1 ++ [bP, .cells [.d (intssD [x, y])], .cells [.d (.val (.func (.func 102) #[] #[]))], zcr (zu2 (mE2 e) gs x y k).2 x.length] ∧ τ' = frL [(1, .clo (.func 125) [] [.op 10 0, .op 8 0, .op 9 0]), (5, .os 1 11 0 x.length), (11, .d (intsD x)), (12, .d (iD x.length)), (13, .d (iD k))]) (x.length) ?_ ⟨0, μ, ⟨Nat.zero_le _, h.n⟩, rfl, rfl, rfl⟩ ?_
 ·refine zo9 ?_
  refine js5 ?_; simp [zu2, zbs, zcr, bH, bO, zar, iD, avs, bP, xA]
 rintro τ' H' mm ⟨k, μ1, ⟨hk, hn1⟩, rfl, rfl, rfl⟩
 have hb := jq5 zf2 h.g hx hy hk
 have hsu := @jg5 (mE2 e) gs x y k
 have hke : k = x.length → zu2 (mE2 e) gs x y x.length = zu2 (mE2 e) gs x y k := fun e => by rw [← e]
 generalize zu2 (mE2 e) gs x y k = s at *
 have hw := hb.wid
 have hbl := hb.len
 have h1 : BOk e s.1 μ1 := ⟨hn1, hb.gi, h.i, by have := h.l; omega⟩
 refine szq hp (fun _ hZ => zh4 hZ) ?_
 refine zaa fun K6 hK6 => ?_
 refine zal rfl (fun ht => ?_) (fun ht => ?_)
 ·have hlt : k < x.length := by simp at ht; omega
  have hst := zg1 hw hlt (zda (mE2 e) s.1 (nth x k) (nth y k)).2
  refine zaj (hK6 _ _ ?_)
  refine zaa fun K7 hK7 => ?_
  refine zaf ?_
  refine szq hp (fun _ hZ => jq7 hZ) ?_
  refine za1 hp zak hc rfl fun K9 hK9 => ?_
  refine zh4 ?_
  refine ydd (bH e s.1 μ1 ++ [bP, .cells [.d (intssD [x, y])], .cells [.d (.val (.func (.func 102) #[] #[]))]]) ([zcr s.2 x.length]) (jq6 e s.1 μ1 x y k (nth x k) h1 (by show k < y.length; omega) ((hx k hlt).pre hb.pre) ((hy k hlt).pre hb.pre)) ?_
  rintro _ _ ⟨μ2, hn2, rfl, rfl⟩
  refine ⟨rfl, ?_⟩
  refine zh4 ?_
  refine hK9 _ _ (hK7 _ _ ?_)
  refine za1 hp zak hc rfl fun K10 hK10 => ?_
  refine zh4 ?_
  refine hK10 _ _ ⟨_, _, _, ?_, ⟨k + 1, μ2, ⟨by omega, by rw [hsu]; exact hn2⟩, rfl, rfl, rfl⟩, ?_⟩
  ·first | omega | (simp only [List.length_cons]; omega) | (dsimp only; omega)
  ·refine zwi [0,1,2,3,4,5,6,7,8,9,10,11] ?_
   refine zo9 ?_
   refine js5 ?_; rw [hsu]; dsimp only; rw [← hst]; simp [bH, bO, zar, avs, bP, xA]
 ·have hkk : k = x.length := by simp at ht; omega
  have hz : s.2 ++ List.replicate (x.length - s.2.length) (0 : Int) = s.2 := by rw [hw, hkk, Nat.sub_self]; simp
  rw [hz]
  refine zau (hK3 _ _ ?_)
  refine szq hp (fun _ hZ => jcc hZ) ?_
  refine zat hp (τ' := frL [(4, .d (.fs (s.2.map iD) x.length))]) (H' := bH e s.1 μ1 ++ [bP, .cells [.d (intssD [x, y])], .cells [.d (.val (.func (.func 102) #[] #[]))]]) ?_ ?_
  ·refine Rt.trans (Rt.fz (id := 11) (l := (s.2.map iD)) rfl) ?_
   refine Rt.trans (Rt.slot 4 (zf9 (zbf (by simp [hw, hkk])))) ?_
   refine zwi [0,1,2,3,4,5,6,7,8,9,10] ?_
   refine zo9 ?_
   exact yde
  refine zam ?_
  refine zap (t := 4) rfl ?_
  show ∃ _, _
  rw [hke hkk]; exact ⟨μ1, hn1, by show AV.d (.fs (s.2.map iD) x.length) = .d (.fs (s.2.map iD) s.2.length); rw [hw, hkk], rfl⟩
def orW (m : Nat) (gs : Gs) (x y : List Int) (k : Nat) : Gs × List Int := zbs (fun gs i => orB m gs (nth x i) (nth y i)) gs k
theorem jkx {m : Nat} {gs : Gs} {x y : List Int} {k : Nat} : orW m gs x y (k + 1) = ((orB m (orW m gs x y k).1 (nth x k) (nth y k)).1, (orW m gs x y k).2 ++ [(orB m (orW m gs x y k).1 (nth x k) (nth y k)).2]) := rfl
theorem jx7 {m : Nat} {gs : Gs} {x y : List Int} {n k : Nat} (h2 : 2 ≤ m) (h : GI m gs) (hx : NdL m gs x n) (hy : NdL m gs y n) (hk : k ≤ n) : Bs m (1 * k) k gs (orW m gs x y k) := zcv h fun j hj gs' hp hg => zvz h2 hg ((hx j (by omega)).pre hp) ((hy j (by omega)).pre hp)
theorem jx8 (e : BE) (gs : Gs) (μ : Mp) (x y : List Int) (i : Nat) (z : Int) (h : BOk e gs μ) (hi : i < y.length) (hx : NdB (mE2 e) gs z) (hy : NdB (mE2 e) gs (nth y i)) : ScS Try.prog [0, 1, 3, 4, 5, 6, 7, 8, 9, 10] 125 [.d (iD i), .d (iD z), .op 10 0, .op 8 0, .op 9 0] (bH e gs μ ++ xA [x, y] 122) (jb7 e (xA [x, y] 122) (orB (mE2 e) gs z (nth y i))) := jx3 e gs μ [x, y] i z h (by simp) hi hx hy
theorem jq8 (e : BE) (gs : Gs) (μ : Mp) (x y : List Int) (h : BOk e gs μ) (hx : NdL (mE2 e) gs x x.length) (hy : NdL (mE2 e) gs y x.length) (hxy : y.length = x.length) (hl : gs.length + x.length ≤ 99990) (hxl : x.length ≤ 1000) : ScS Try.prog [0, 1, 3, 4, 5, 6, 7, 8, 9, 10] 119 [.d (intsD x), .clo (.func 125) [] [.op 10 0, .op 8 0, .op 9 0]] (bH e gs μ ++ [bP, .cells [.d (intssD [x, y])], .cells [.d (.val (.func (.func 122) #[] #[]))]]) (jko e [bP, .cells [.d (intssD [x, y])], .cells [.d (.val (.func (.func 122) #[] #[]))]] (orW (mE2 e) gs x y x.length)) := by
 refine zbh (fn := Try.f119) (by kernel_rfl) Try.func119 rfl (Nat.le_of_ble_eq_true rfl) fun c hc hp => ?_
 refine zc1 ?_
 unfold bH bP
 refine szq hp (fun _ hZ => jcc hZ) ?_
 refine szq hp (fun _ hZ => zh4 hZ) ?_
 refine zaa fun K3 hK3 => ?_
 refine szq hp (fun _ hZ => zh4 hZ) ?_
 refine zaf ?_
 refine zan hp (fun τ' H' mm => ∃ (k : Nat) (μ1 : Mp), (k ≤ x.length ∧ NdM (mE2 e) (orW (mE2 e) gs x y k).1 μ1) ∧ mm = x.length - k ∧ H' = bH e (orW (mE2 e) gs x y k).1 μ1 ++ [bP, .cells [.d (intssD [x, y])], .cells [.d (.val (.func (.func 122) #[] #[]))], zcr (orW (mE2 e) gs x y k).2 x.length] ∧ τ' = frL [(1, .clo (.func 125) [] [.op 10 0, .op 8 0, .op 9 0]), (5, .os 1 11 0 x.length), (11, .d (intsD x)), (12, .d (iD x.length)), (13, .d (iD k))]) (x.length) ?_ ⟨0, μ, ⟨Nat.zero_le _, h.n⟩, rfl, rfl, rfl⟩ ?_
 ·refine zo9 ?_
  refine js5 ?_; simp [orW, zbs, zcr, bH, bO, zar, iD, avs, bP, xA]
 rintro τ' H' mm ⟨k, μ1, ⟨hk, hn1⟩, rfl, rfl, rfl⟩
 have hb := jx7 zf2 h.g hx hy hk
 have hsu := @jkx (mE2 e) gs x y k
 have hke : k = x.length → orW (mE2 e) gs x y x.length = orW (mE2 e) gs x y k := fun e => by rw [← e]
 generalize orW (mE2 e) gs x y k = s at *
 have hw := hb.wid
 have hbl := hb.len
 have h1 : BOk e s.1 μ1 := ⟨hn1, hb.gi, h.i, by have := h.l; omega⟩
 refine szq hp (fun _ hZ => zh4 hZ) ?_
 refine zaa fun K6 hK6 => ?_
 refine zal rfl (fun ht => ?_) (fun ht => ?_)
 ·have hlt : k < x.length := by simp at ht; omega
  have hst := zg1 hw hlt (orB (mE2 e) s.1 (nth x k) (nth y k)).2
  refine zaj (hK6 _ _ ?_)
  refine zaa fun K7 hK7 => ?_
  refine zaf ?_
  refine szq hp (fun _ hZ => jq7 hZ) ?_
  refine za1 hp zak hc rfl fun K9 hK9 => ?_
  refine zh4 ?_
  refine ydd (bH e s.1 μ1 ++ [bP, .cells [.d (intssD [x, y])], .cells [.d (.val (.func (.func 122) #[] #[]))]]) ([zcr s.2 x.length]) (jx8 e s.1 μ1 x y k (nth x k) h1 (by show k < y.length; omega) ((hx k hlt).pre hb.pre) ((hy k hlt).pre hb.pre)) ?_
  rintro _ _ ⟨μ2, hn2, rfl, rfl⟩
  refine ⟨rfl, ?_⟩
  refine zh4 ?_
  refine hK9 _ _ (hK7 _ _ ?_)
  refine za1 hp zak hc rfl fun K10 hK10 => ?_
  refine zh4 ?_
  refine hK10 _ _ ⟨_, _, _, ?_, ⟨k + 1, μ2, ⟨by omega, by rw [hsu]; exact hn2⟩, rfl, rfl, rfl⟩, ?_⟩
  ·first | omega | (simp only [List.length_cons]; omega) | (dsimp only; omega)
  ·refine zwi [0,1,2,3,4,5,6,7,8,9,10,11] ?_
   refine zo9 ?_
   refine js5 ?_; rw [hsu]; dsimp only; rw [← hst]; simp [bH, bO, zar, avs, bP, xA]
 ·have hkk : k = x.length := by simp at ht; omega
  have hz : s.2 ++ List.replicate (x.length - s.2.length) (0 : Int) = s.2 := by rw [hw, hkk, Nat.sub_self]; simp
  rw [hz]
  refine zau (hK3 _ _ ?_)
  refine szq hp (fun _ hZ => jcc hZ) ?_
  refine zat hp (τ' := frL [(4, .d (.fs (s.2.map iD) x.length))]) (H' := bH e s.1 μ1 ++ [bP, .cells [.d (intssD [x, y])], .cells [.d (.val (.func (.func 122) #[] #[]))]]) ?_ ?_
  ·refine Rt.trans (Rt.fz (id := 11) (l := (s.2.map iD)) rfl) ?_
   refine Rt.trans (Rt.slot 4 (zf9 (zbf (by simp [hw, hkk])))) ?_
   refine zwi [0,1,2,3,4,5,6,7,8,9,10] ?_
   refine zo9 ?_
   exact yde
  refine zam ?_
  refine zap (t := 4) rfl ?_
  show ∃ _, _
  rw [hke hkk]; exact ⟨μ1, hn1, by show AV.d (.fs (s.2.map iD) x.length) = .d (.fs (s.2.map iD) s.2.length); rw [hw, hkk], rfl⟩
def zu3 (m : Nat) (gs : Gs) (x y : List Int) (k : Nat) : Gs × List Int := zbs (fun gs i => zhj m gs (nth x i) (nth y i)) gs k
theorem jg6 {m : Nat} {gs : Gs} {x y : List Int} {k : Nat} : zu3 m gs x y (k + 1) = ((zhj m (zu3 m gs x y k).1 (nth x k) (nth y k)).1, (zu3 m gs x y k).2 ++ [(zhj m (zu3 m gs x y k).1 (nth x k) (nth y k)).2]) := rfl
theorem jq9 {m : Nat} {gs : Gs} {x y : List Int} {n k : Nat} (h2 : 2 ≤ m) (h : GI m gs) (hx : NdL m gs x n) (hy : NdL m gs y n) (hk : k ≤ n) : Bs m (1 * k) k gs (zu3 m gs x y k) := zcv h fun j hj gs' hp hg => zj1 h2 hg ((hx j (by omega)).pre hp) ((hy j (by omega)).pre hp)
theorem jra (e : BE) (gs : Gs) (μ : Mp) (x y : List Int) (i : Nat) (z : Int) (h : BOk e gs μ) (hi : i < y.length) (hx : NdB (mE2 e) gs z) (hy : NdB (mE2 e) gs (nth y i)) : ScS Try.prog [0, 1, 3, 4, 5, 6, 7, 8, 9, 10] 125 [.d (iD i), .d (iD z), .op 10 0, .op 8 0, .op 9 0] (bH e gs μ ++ xA [x, y] 124) (jb7 e (xA [x, y] 124) (zhj (mE2 e) gs z (nth y i))) := jq4 e gs μ [x, y] i z h (by simp) hi hx hy
theorem jky (e : BE) (gs : Gs) (μ : Mp) (x y : List Int) (h : BOk e gs μ) (hx : NdL (mE2 e) gs x x.length) (hy : NdL (mE2 e) gs y x.length) (hxy : y.length = x.length) (hl : gs.length + x.length ≤ 99990) (hxl : x.length ≤ 1000) : ScS Try.prog [0, 1, 3, 4, 5, 6, 7, 8, 9, 10] 119 [.d (intsD x), .clo (.func 125) [] [.op 10 0, .op 8 0, .op 9 0]] (bH e gs μ ++ [bP, .cells [.d (intssD [x, y])], .cells [.d (.val (.func (.func 124) #[] #[]))]]) (jko e [bP, .cells [.d (intssD [x, y])], .cells [.d (.val (.func (.func 124) #[] #[]))]] (zu3 (mE2 e) gs x y x.length)) := by
 refine zbh (fn := Try.f119) (by kernel_rfl) Try.func119 rfl (Nat.le_of_ble_eq_true rfl) fun c hc hp => ?_
 refine zc1 ?_
 unfold bH bP
 refine szq hp (fun _ hZ => jcc hZ) ?_
 refine szq hp (fun _ hZ => zh4 hZ) ?_
 refine zaa fun K3 hK3 => ?_
 refine szq hp (fun _ hZ => zh4 hZ) ?_
 refine zaf ?_
 refine zan hp (fun τ' H' mm => ∃ (k : Nat) (μ1 : Mp), (k ≤ x.length ∧ NdM (mE2 e) (zu3 (mE2 e) gs x y k).1 μ1) ∧ mm = x.length - k ∧ H' = bH e (zu3 (mE2 e) gs x y k).1 μ1 ++ [bP, .cells [.d (intssD [x, y])], .cells [.d (.val (.func (.func 124) #[] #[]))], zcr (zu3 (mE2 e) gs x y k).2 x.length] ∧ τ' = frL [(1, .clo (.func 125) [] [.op 10 0, .op 8 0, .op 9 0]), (5, .os 1 11 0 x.length), (11, .d (intsD x)), (12, .d (iD x.length)), (13, .d (iD k))]) (x.length) ?_ ⟨0, μ, ⟨Nat.zero_le _, h.n⟩, rfl, rfl, rfl⟩ ?_
 ·refine zo9 ?_
  refine js5 ?_; simp [zu3, zbs, zcr, bH, bO, zar, iD, avs, bP, xA]
 rintro τ' H' mm ⟨k, μ1, ⟨hk, hn1⟩, rfl, rfl, rfl⟩
 have hb := jq9 zf2 h.g hx hy hk
 have hsu := @jg6 (mE2 e) gs x y k
 have hke : k = x.length → zu3 (mE2 e) gs x y x.length = zu3 (mE2 e) gs x y k := fun e => by rw [← e]
 generalize zu3 (mE2 e) gs x y k = s at *
 have hw := hb.wid
 have hbl := hb.len
 have h1 : BOk e s.1 μ1 := ⟨hn1, hb.gi, h.i, by have := h.l; omega⟩
 refine szq hp (fun _ hZ => zh4 hZ) ?_
 refine zaa fun K6 hK6 => ?_
 refine zal rfl (fun ht => ?_) (fun ht => ?_)
 ·have hlt : k < x.length := by simp at ht; omega
  have hst := zg1 hw hlt (zhj (mE2 e) s.1 (nth x k) (nth y k)).2
  refine zaj (hK6 _ _ ?_)
  refine zaa fun K7 hK7 => ?_
  refine zaf ?_
  refine szq hp (fun _ hZ => jq7 hZ) ?_
  refine za1 hp zak hc rfl fun K9 hK9 => ?_
  refine zh4 ?_
  refine ydd (bH e s.1 μ1 ++ [bP, .cells [.d (intssD [x, y])], .cells [.d (.val (.func (.func 124) #[] #[]))]]) ([zcr s.2 x.length]) (jra e s.1 μ1 x y k (nth x k) h1 (by show k < y.length; omega) ((hx k hlt).pre hb.pre) ((hy k hlt).pre hb.pre)) ?_
  rintro _ _ ⟨μ2, hn2, rfl, rfl⟩
  refine ⟨rfl, ?_⟩
  refine zh4 ?_
  refine hK9 _ _ (hK7 _ _ ?_)
  refine za1 hp zak hc rfl fun K10 hK10 => ?_
  refine zh4 ?_
  refine hK10 _ _ ⟨_, _, _, ?_, ⟨k + 1, μ2, ⟨by omega, by rw [hsu]; exact hn2⟩, rfl, rfl, rfl⟩, ?_⟩
  ·first | omega | (simp only [List.length_cons]; omega) | (dsimp only; omega)
  ·refine zwi [0,1,2,3,4,5,6,7,8,9,10,11] ?_
   refine zo9 ?_
   refine js5 ?_; rw [hsu]; dsimp only; rw [← hst]; simp [bH, bO, zar, avs, bP, xA]
 ·have hkk : k = x.length := by simp at ht; omega
  have hz : s.2 ++ List.replicate (x.length - s.2.length) (0 : Int) = s.2 := by rw [hw, hkk, Nat.sub_self]; simp
  rw [hz]
  refine zau (hK3 _ _ ?_)
  refine szq hp (fun _ hZ => jcc hZ) ?_
  refine zat hp (τ' := frL [(4, .d (.fs (s.2.map iD) x.length))]) (H' := bH e s.1 μ1 ++ [bP, .cells [.d (intssD [x, y])], .cells [.d (.val (.func (.func 124) #[] #[]))]]) ?_ ?_
  ·refine Rt.trans (Rt.fz (id := 11) (l := (s.2.map iD)) rfl) ?_
   refine Rt.trans (Rt.slot 4 (zf9 (zbf (by simp [hw, hkk])))) ?_
   refine zwi [0,1,2,3,4,5,6,7,8,9,10] ?_
   refine zo9 ?_
   exact yde
  refine zam ?_
  refine zap (t := 4) rfl ?_
  show ∃ _, _
  rw [hke hkk]; exact ⟨μ1, hn1, by show AV.d (.fs (s.2.map iD) x.length) = .d (.fs (s.2.map iD) s.2.length); rw [hw, hkk], rfl⟩
def zu4 (m : Nat) (gs : Gs) (q : Int) (x y : List Int) (k : Nat) : Gs × List Int := zbs (fun gs i => zj0 m gs q (nth x i) (nth y i)) gs k
theorem jg7 {m : Nat} {gs : Gs} {q : Int} {x y : List Int} {k : Nat} : zu4 m gs q x y (k + 1) = ((zj0 m (zu4 m gs q x y k).1 q (nth x k) (nth y k)).1, (zu4 m gs q x y k).2 ++ [(zj0 m (zu4 m gs q x y k).1 q (nth x k) (nth y k)).2]) := rfl
theorem jrb {m : Nat} {gs : Gs} {q : Int} {x y : List Int} {n k : Nat} (h2 : 2 ≤ m) (h : GI m gs) (hq : NdB m gs q) (hx : NdL m gs x n) (hy : NdL m gs y n) (hk : k ≤ n) : Bs m (2 * k) k gs (zu4 m gs q x y k) := zcv h fun j hj gs' hp hg => ztw h2 hg (hq.pre hp) ((hx j (by omega)).pre hp) ((hy j (by omega)).pre hp)
theorem ydf (e : BE) (gs : Gs) (μ : Mp) (a x y : List Int) (i : Nat) (z : Int) (h : BOk e gs μ) (h0 : 0 < a.length) (hi : i < y.length) (hq : NdB (mE2 e) gs (nth a 0)) (hx : NdB (mE2 e) gs z) (hy : NdB (mE2 e) gs (nth y i)) (hl : gs.length + 2 ≤ 100000) : ScS Try.prog [0, 1, 3, 4, 5, 6, 7, 8, 9] 132 [.d (iD i), .d (iD z), .op 8 0, .op 9 0] (bH e gs μ ++ [bP, .cells [.d (intssD [a, x, y])]]) (jb7 e [bP, .cells [.d (intssD [a, x, y])]] (zj0 (mE2 e) gs (nth a 0) z (nth y i))) := yc9 e gs μ [a, x, y] i z h (by simp) h0 hi hq hx hy hl
theorem jcd {p q : Prop} (hq : q) (h : p = q := by
 conv => lhs; simp -dsimp -implicitDefEqProofs (disch := first | assumption | omega | (simp only [r_z, zab, zac] <;> omega) | decide) only [r_r, ↓reduceIte, Nat.reduceEqDiff, Nat.reduceAdd, D.fix, Int.reduceToNat, Nat.reduceMul, Nat.reduceBNe, Nat.reduceBEq, r_m, bH, bO, zar, zav, zcr, List.cons_append, List.nil_append, bP]) : p := h.mpr hq
theorem zh5 {p q : Prop} (hq : q) (h : p = q := by
 conv => lhs; simp -dsimp -implicitDefEqProofs (disch := first | assumption | omega | (simp only [r_z, zab, zac] <;> omega) | decide) only [r_r, ↓reduceIte, Nat.reduceEqDiff, Nat.reduceAdd, D.fix, Int.reduceToNat, Nat.reduceMul, Nat.reduceBNe, Nat.reduceBEq, r_m, bH, bO, zar, zav, zcr, List.cons_append, List.nil_append, bP, zuf]) : p := h.mpr hq
theorem ydg {P : Program} {sm : List Nat} {N : Nat} {τ : Fr} {H : zae} {f : FuncId} {fi ca args : List AV} {K0 KK : AV → zae → Prop} {ks : List Nat} (S T : zae) (h : ScS P ks f (fi ++ args ++ ca) S K0) (hK : ∀ x S', K0 x S' → S'.length = S.length ∧ KK x (S' ++ T)) (hH : H = S ++ T := by
 rfl) (hm : sm.all (okI ks S.length) = true := by
 first | rfl | (simp [AV.allIs, AV.allI, zaq, zah, zai, okI, ltI, zad, zax, bH, bO, zcr, bP]; done) | (intro o ho; simp at ho; done)) (hτ : ∀ t, (τ t).allI (okI ks S.length) = true := by
 exact fun t => zbi (by first | rfl | (simp [AV.allIs, AV.allI, zaq, zah, zai, okI, ltI, zad, zax, bH, bO, zcr, bP]; done) | (intro o ho; simp at ho; done)) t) (ha : AV.allIs (ltI S.length) (fi ++ args ++ ca) = true := by
 first | rfl | (simp [AV.allIs, AV.allI, zaq, zah, zai, okI, ltI, zad, zax, bH, bO, zcr, bP]; done) | (intro o ho; simp at ho; done)) (hS : ∀ o ∈ S, o.allI (ltI S.length) = true := by
 first | rfl | (simp [AV.allIs, AV.allI, zaq, zah, zai, okI, ltI, zad, zax, bH, bO, zcr, bP]; done) | (intro o ho; simp at ho; done)) (hT : ∀ o ∈ T, o.allI (okI ks S.length) = true := by
 first | rfl | (simp [AV.allIs, AV.allI, zaq, zah, zai, okI, ltI, zad, zax, bH, bO, zcr, bP]; done) | (intro o ho; simp at ho; done)) : kC P sm N H τ (.clo (.func f) fi ca) args true (tg KK) := zol h hH hm hτ ha hS hT hK
theorem js6 {p q : Prop} (hq : q) (h : p = q := by
 conv => lhs; simp only [r_g, Nat.reduceAdd, ↓reduceIte, Nat.reduceEqDiff, r_m, bH, bO, zar, zav, zcr, List.cons_append, List.nil_append, bP]) : p := h.mpr hq
theorem ydh {p : Prop} (h : p := by
 first | rfl | (simp only [r_g, Nat.reduceAdd, ↓reduceIte, Nat.reduceEqDiff, r_m, bH, bO, zar, zav, zcr, List.cons_append, List.nil_append, bP]; first | done | rfl)) : p := h
theorem jkz (e : BE) (gs : Gs) (μ : Mp) (a x y : List Int) (h : BOk e gs μ) (ha : 0 < a.length) (hq : NdB (mE2 e) gs (nth a 0)) (hx : NdL (mE2 e) gs x x.length) (hy : NdL (mE2 e) gs y x.length) (hxy : y.length = x.length) (hl : gs.length + 2 * x.length ≤ 99990) (hxl : x.length ≤ 1000) : ScS Try.prog [0, 1, 3, 4, 5, 6, 7, 8, 9] 119 [.d (intsD x), .clo (.func 132) [] [.op 8 0, .op 9 0]] (bH e gs μ ++ [bP, .cells [.d (intssD [a, x, y])]]) (jko e [bP, .cells [.d (intssD [a, x, y])]] (zu4 (mE2 e) gs (nth a 0) x y x.length)) := by
 refine zbh (fn := Try.f119) (by kernel_rfl) Try.func119 rfl (Nat.le_of_ble_eq_true rfl) fun c hc hp => ?_
 refine zc1 ?_
 unfold bH bP
 refine szq hp (fun _ hZ => jcd hZ) ?_
 refine szq hp (fun _ hZ => zh5 hZ) ?_
 refine zaa fun K3 hK3 => ?_
 refine szq hp (fun _ hZ => zh5 hZ) ?_
 refine zaf ?_
 refine zan hp (fun τ' H' mm => ∃ (k : Nat) (μ1 : Mp), (k ≤ x.length ∧ NdM (mE2 e) (zu4 (mE2 e) gs (nth a 0) x y k).1 μ1) ∧ mm = x.length - k ∧ H' = bH e (zu4 (mE2 e) gs (nth a 0) x y k).1 μ1 ++ [bP, .cells [.d (intssD [a, x, y])], zcr (zu4 (mE2 e) gs (nth a 0) x y k).2 x.length] ∧ τ' = frL [(1, .clo (.func 132) [] [.op 8 0, .op 9 0]), (5, .os 1 10 0 x.length), (11, .d (intsD x)), (12, .d (iD x.length)), (13, .d (iD k))]) (x.length) ?_ ⟨0, μ, ⟨Nat.zero_le _, h.n⟩, rfl, rfl, rfl⟩ ?_
 ·refine zo9 ?_
  refine js6 ?_; simp [zu4, zbs, zcr, bH, bO, zar, iD, avs, bP]
 rintro τ' H' mm ⟨k, μ1, ⟨hk, hn1⟩, rfl, rfl, rfl⟩
 have hb := jrb zf2 h.g hq hx hy hk
 have hsu := @jg7 (mE2 e) gs (nth a 0) x y k
 have hke : k = x.length → zu4 (mE2 e) gs (nth a 0) x y x.length = zu4 (mE2 e) gs (nth a 0) x y k := fun e => by rw [← e]
 generalize zu4 (mE2 e) gs (nth a 0) x y k = s at *
 have hw := hb.wid
 have hbl := hb.len
 have h1 : BOk e s.1 μ1 := ⟨hn1, hb.gi, h.i, by have := h.l; omega⟩
 refine szq hp (fun _ hZ => zh5 hZ) ?_
 refine zaa fun K6 hK6 => ?_
 refine zal rfl (fun ht => ?_) (fun ht => ?_)
 ·have hlt : k < x.length := by simp at ht; omega
  have hst := zg1 hw hlt (zj0 (mE2 e) s.1 (nth a 0) (nth x k) (nth y k)).2
  refine zaj (hK6 _ _ ?_)
  refine zaa fun K7 hK7 => ?_
  refine zaf ?_
  refine zag hp zak hc rfl fun K8 hK8 => ?_
  simp -dsimp -implicitDefEqProofs (disch := first | assumption | omega | (simp only [r_z, zab, zac] <;> omega) | decide) only [r_r, ↓reduceIte, Nat.reduceEqDiff, Nat.reduceAdd, D.fix, Int.reduceToNat, Nat.reduceMul, Nat.reduceBNe, Nat.reduceBEq, r_m, bH, bO, zar, zav, zcr, List.cons_append, List.nil_append, bP, zbj, zuf]
  refine hK8 _ _ ?_
  refine za1 hp zak hc rfl fun K9 hK9 => ?_
  refine zh5 ?_
  refine ydg (bH e s.1 μ1 ++ [bP, .cells [.d (intssD [a, x, y])]]) ([zcr s.2 x.length]) (ydf e s.1 μ1 a x y k (nth x k) h1 ha (by show k < y.length; omega) (hq.pre hb.pre) ((hx k hlt).pre hb.pre) ((hy k hlt).pre hb.pre) (by omega)) ?_
  rintro _ _ ⟨μ2, hn2, rfl, rfl⟩
  refine ⟨rfl, ?_⟩
  refine zh5 ?_
  refine hK9 _ _ (hK7 _ _ ?_)
  refine za1 hp zak hc rfl fun K10 hK10 => ?_
  refine zh5 ?_
  refine hK10 _ _ ⟨_, _, _, ?_, ⟨k + 1, μ2, ⟨by omega, by rw [hsu]; exact hn2⟩, rfl, rfl, rfl⟩, ?_⟩
  ·first | omega | (simp only [List.length_cons]; omega) | (dsimp only; omega)
  ·refine zwi [0,1,2,3,4,5,6,7,8,9,10] ?_
   refine zo9 ?_
   refine js6 ?_; rw [hsu]; dsimp only; rw [← hst]; simp [bH, bO, zar, avs, bP]
 ·have hkk : k = x.length := by simp at ht; omega
  have hz : s.2 ++ List.replicate (x.length - s.2.length) (0 : Int) = s.2 := by rw [hw, hkk, Nat.sub_self]; simp
  rw [hz]
  refine zau (hK3 _ _ ?_)
  refine szq hp (fun _ hZ => jcd hZ) ?_
  refine zat hp (τ' := frL [(4, .d (.fs (s.2.map iD) x.length))]) (H' := bH e s.1 μ1 ++ [bP, .cells [.d (intssD [a, x, y])]]) ?_ ?_
  ·refine Rt.trans (Rt.fz (id := 10) (l := (s.2.map iD)) rfl) ?_
   refine Rt.trans (Rt.slot 4 (zf9 (zbf (by simp [hw, hkk])))) ?_
   refine zwi [0,1,2,3,4,5,6,7,8,9] ?_
   refine zo9 ?_
   exact ydh
  refine zam ?_
  refine zap (t := 4) rfl ?_
  show ∃ _, _
  rw [hke hkk]; exact ⟨μ1, hn1, by show AV.d (.fs (s.2.map iD) x.length) = .d (.fs (s.2.map iD) s.2.length); rw [hw, hkk], rfl⟩
def zu5 (gs : Gs) (v k : Nat) : Gs × List Int := zbs (fun gs i => (gs, ((v / 2 ^ i % 2 : Nat) : Int))) gs k
theorem jg8 {gs : Gs} {v k : Nat} : zu5 gs v (k + 1) = ((zu5 gs v k).1, (zu5 gs v k).2 ++ [((v / 2 ^ k % 2 : Nat) : Int)]) := rfl
theorem jrc {m : Nat} {gs : Gs} {v n k : Nat} (h2 : 2 ≤ m) (h : GI m gs) (hk : k ≤ n) : Bs m (0 * k) k gs (zu5 gs v k) := zcv h fun j hj gs' hp hg => Rs.same hg ⟨by omega, by omega⟩
theorem jx9 {p q : Prop} (hq : q) (h : p = q := by
 conv => lhs; simp -dsimp -implicitDefEqProofs (disch := first | assumption | omega | (simp only [r_z, zab, zac] <;> omega) | decide) only [r_r, ↓reduceIte, Nat.reduceEqDiff, Nat.reduceAdd, D.fix, Int.reduceToNat, Nat.reduceMul, Nat.reduceBNe, Nat.reduceBEq, r_m, bH, bO, zar, zav, zcr, List.cons_append, List.nil_append]) : p := h.mpr hq
theorem jce {p q : Prop} (hq : q) (h : p = q := by
 conv => lhs; simp -dsimp -implicitDefEqProofs (disch := first | assumption | omega | (simp only [r_z, zab, zac] <;> omega) | decide) only [r_r, ↓reduceIte, Nat.reduceEqDiff, Nat.reduceAdd, D.fix, Int.reduceToNat, Nat.reduceMul, Nat.reduceBNe, Nat.reduceBEq, r_m, bH, bO, zar, zav, zcr, List.cons_append, List.nil_append, zuf]) : p := h.mpr hq
theorem yfy {p q : Prop} (hq : q) (h : p = q := by
 conv => lhs; simp only [r_g, Nat.reduceAdd, ↓reduceIte, Nat.reduceEqDiff, r_m, bH, bO, zar, zav, zcr, List.cons_append, List.nil_append]) : p := h.mpr hq
theorem jk0 (e : BE) (gs : Gs) (μ : Mp) (v n : Nat) (h : BOk e gs μ) (hv : v < 2 ^ 62) (hn60 : n ≤ 60) : ScS Try.prog [0, 1, 3, 4, 5, 6, 7, 8, 9] 119 [.os 1 9 0 n, .clo (.func 126) [] [.op 8 0]] (bH e gs μ ++ [.cells [.d (iD v)], .cells (avs (List.replicate n (iD 0)))]) (jko e [.cells [.d (iD v)], .cells (avs (List.replicate n (iD 0)))] (zu5 gs v n)) := by
 refine zbh (fn := Try.f119) (by kernel_rfl) Try.func119 rfl (Nat.le_of_ble_eq_true rfl) fun c hc hp => ?_
 refine zc1 ?_
 unfold bH
 refine szq hp (fun _ hZ => jx9 hZ) ?_
 refine szq hp (fun _ hZ => jce hZ) ?_
 refine zaa fun K3 hK3 => ?_
 refine szq hp (fun _ hZ => jce hZ) ?_
 refine zaf ?_
 refine zan hp (fun τ' H' mm => ∃ (k : Nat) (μ1 : Mp), (k ≤ n ∧ NdM (mE2 e) (zu5 gs v k).1 μ1) ∧ mm = n - k ∧ H' = bH e (zu5 gs v k).1 μ1 ++ [.cells [.d (iD v)], .cells (avs (List.replicate n (iD 0))), zcr (zu5 gs v k).2 n] ∧ τ' = frL [(1, .clo (.func 126) [] [.op 8 0]), (5, .os 1 10 0 n), (11, .os 1 9 0 n), (12, .d (iD n)), (13, .d (iD k))]) (n) ?_ ⟨0, μ, ⟨Nat.zero_le _, h.n⟩, rfl, rfl, rfl⟩ ?_
 ·refine zo9 ?_
  refine yfy ?_; simp [zu5, zbs, zcr, bH, bO, zar, iD, avs]
 rintro τ' H' mm ⟨k, μ1, ⟨hk, hn1⟩, rfl, rfl, rfl⟩
 have hb := jrc (m := mE2 e) (v := v) zf2 h.g hk
 have hsu := @jg8 gs v k
 have hke : k = n → zu5 gs v n = zu5 gs v k := fun e => by rw [← e]
 generalize zu5 gs v k = s at *
 have hw := hb.wid
 have hbl := hb.len
 have h1 : BOk e s.1 μ1 := ⟨hn1, hb.gi, h.i, by have := h.l; omega⟩
 refine szq hp (fun _ hZ => jce hZ) ?_
 refine zaa fun K6 hK6 => ?_
 refine zal rfl (fun ht => ?_) (fun ht => ?_)
 ·have hlt : k < n := by simp at ht; omega
  have hrep : (List.replicate n (D.val (.int .i64 0)))[k]? = some (.val (.int .i64 0)) := by simp [hlt]
  have hst := zg1 hw hlt ((s.1, ((v / 2 ^ k % 2 : Nat) : Int))).2
  refine zaj (hK6 _ _ ?_)
  refine zaa fun K7 hK7 => ?_
  refine zaf ?_
  refine zag hp zak hc rfl fun K8 hK8 => ?_
  simp -dsimp -implicitDefEqProofs (disch := first | assumption | omega | (simp only [r_z, zab, zac] <;> omega) | decide) only [r_r, ↓reduceIte, Nat.reduceEqDiff, Nat.reduceAdd, D.fix, Int.reduceToNat, Nat.reduceMul, Nat.reduceBNe, Nat.reduceBEq, r_m, bH, bO, zar, zav, zcr, List.cons_append, List.nil_append, hrep, Option.map_some, zuf]
  refine hK8 _ _ ?_
  refine za1 hp zak hc rfl fun K9 hK9 => ?_
  refine jce ?_
  refine zol (S := bH e s.1 μ1 ++ [.cells [.d (iD v)]]) (T := [.cells (avs (List.replicate n (iD 0))), zcr s.2 n]) (yda e s.1 μ1 v k _ hn1 hv (by omega)) rfl (by first | rfl | (simp [AV.allIs, AV.allI, zaq, zah, zai, okI, ltI, zad, zax, bH, bO, zcr]; done) | (intro o ho; simp at ho; done)) (fun t => zbi (by first | rfl | (simp [AV.allIs, AV.allI, zaq, zah, zai, okI, ltI, zad, zax, bH, bO, zcr]; done) | (intro o ho; simp at ho; done)) t) (by first | rfl | (simp [AV.allIs, AV.allI, zaq, zah, zai, okI, ltI, zad, zax, bH, bO, zcr]; done) | (intro o ho; simp at ho; done)) (by first | rfl | (simp [AV.allIs, AV.allI, zaq, zah, zai, okI, ltI, zad, zax, bH, bO, zcr]; done) | (intro o ho; simp at ho; done)) (by first | rfl | (simp [AV.allIs, AV.allI, zaq, zah, zai, okI, ltI, zad, zax, bH, bO, zcr]; done) | (intro o ho; simp at ho; done)) ?_
  rintro _ _ ⟨μ2, hn2, rfl, rfl⟩
  refine ⟨rfl, ?_⟩
  refine jce ?_
  refine hK9 _ _ (hK7 _ _ ?_)
  refine za1 hp zak hc rfl fun K10 hK10 => ?_
  refine jce ?_
  refine hK10 _ _ ⟨_, _, _, ?_, ⟨k + 1, μ2, ⟨by omega, by rw [hsu]; exact hn2⟩, rfl, rfl, rfl⟩, ?_⟩
  ·first | omega | (simp only [List.length_cons]; omega) | (dsimp only; omega)
  ·refine zwi [0,1,2,3,4,5,6,7,8,9,10] ?_
   refine zo9 ?_
   refine yfy ?_; rw [hsu]; dsimp only; rw [← hst]; simp [bH, bO, zar, avs, iD]
 ·have hkk : k = n := by simp at ht; omega
  have hz : s.2 ++ List.replicate (n - s.2.length) (0 : Int) = s.2 := by rw [hw, hkk, Nat.sub_self]; simp
  rw [hz]
  refine zau (hK3 _ _ ?_)
  refine szq hp (fun _ hZ => jx9 hZ) ?_
  refine zat hp (τ' := frL [(4, .d (.fs (s.2.map iD) n))]) (H' := bH e s.1 μ1 ++ [.cells [.d (iD v)], .cells (avs (List.replicate n (iD 0)))]) ?_ ?_
  ·refine Rt.trans (Rt.fz (id := 10) (l := (s.2.map iD)) rfl) ?_
   refine Rt.trans (Rt.slot 4 (zf9 (zbf (by simp [hw, hkk])))) ?_
   refine zwi [0,1,2,3,4,5,6,7,8,9] ?_
   refine zo9 ?_
   first | rfl | (simp only [r_g, Nat.reduceAdd, ↓reduceIte, Nat.reduceEqDiff, r_m, bH, bO, zar, zav, zcr, List.cons_append, List.nil_append]; first | done | rfl)
  refine zam ?_
  refine zap (t := 4) rfl ?_
  show ∃ _, _
  rw [hke hkk]; exact ⟨μ1, hn1, by show AV.d (.fs (s.2.map iD) n) = .d (.fs (s.2.map iD) s.2.length); rw [hw, hkk], rfl⟩
def zu6 (ins : List Wire) (gs : Gs) (j k : Nat) : Gs × List Int := zbs (fun gs i => (gs, ((2 + zo8 ⟨1, (j : Int), (i : Int)⟩ ins : Nat) : Int))) gs k
theorem jg9 {ins : List Wire} {gs : Gs} {j k : Nat} : zu6 ins gs j (k + 1) = ((zu6 ins gs j k).1, (zu6 ins gs j k).2 ++ [((2 + zo8 ⟨1, (j : Int), (k : Int)⟩ ins : Nat) : Int)]) := rfl
theorem jrd {e : BE} {gs : Gs} {j n k : Nat} (h : GI (mE2 e) gs) (hw : ∀ i, i < n → (⟨1, (j : Int), (i : Int)⟩ : Wire) ∈ e.ins) (hk : k ≤ n) : Bs (mE2 e) (0 * k) k gs (zu6 e.ins gs j k) := zcv h fun i hi gs' hp hg => Rs.same hg (by
 have := (zn0 (hw i (by omega))).1
 exact ⟨by omega, by unfold mE2; omega⟩)
theorem jya {p q r : Prop} (e : r) (hq : q) (h : r → p = q := by
 intro hY
 conv => lhs; simp -dsimp -implicitDefEqProofs (disch := first | assumption | omega | (simp only [r_z, zab, zac] <;> omega) | decide) only [r_r, ↓reduceIte, Nat.reduceEqDiff, Nat.reduceAdd, D.fix, Int.reduceToNat, Nat.reduceMul, Nat.reduceBNe, Nat.reduceBEq, r_m, bH, bO, zar, zav, zcr, List.cons_append, List.nil_append, bP, zuf, hY]) : p := (h e).mpr hq
theorem jk1 (e : BE) (gs : Gs) (μ : Mp) (j n : Nat) (h : BOk e gs μ) (hm : InM e.ins e.mi) (hwi : ∀ i, i < n → (⟨1, (j : Int), (i : Int)⟩ : Wire) ∈ e.ins) (hj : j ≤ 1000) (hn60 : n ≤ 60) : ScS Try.prog [0, 1, 3, 4, 5, 6, 7, 8, 9] 119 [.d (.fs (List.replicate n (iD 0)) n), .clo (.func 127) [] [.op 8 0, .op 9 0]] (bH e gs μ ++ [bP, .cells [.d (iD j)]]) (jko e [bP, .cells [.d (iD j)]] (zu6 e.ins gs j n)) := by
 refine zbh (fn := Try.f119) (by kernel_rfl) Try.func119 rfl (Nat.le_of_ble_eq_true rfl) fun c hc hp => ?_
 refine zc1 ?_
 unfold bH bP
 refine szq hp (fun _ hZ => jcd hZ) ?_
 refine szq hp (fun _ hZ => zh5 hZ) ?_
 refine zaa fun K3 hK3 => ?_
 refine szq hp (fun _ hZ => zh5 hZ) ?_
 refine zaf ?_
 refine zan hp (fun τ' H' mm => ∃ (k : Nat) (μ1 : Mp), (k ≤ n ∧ NdM (mE2 e) (zu6 e.ins gs j k).1 μ1) ∧ mm = n - k ∧ H' = bH e (zu6 e.ins gs j k).1 μ1 ++ [bP, .cells [.d (iD j)], zcr (zu6 e.ins gs j k).2 n] ∧ τ' = frL [(1, .clo (.func 127) [] [.op 8 0, .op 9 0]), (5, .os 1 10 0 n), (11, .d (.fs (List.replicate n (iD 0)) n)), (12, .d (iD n)), (13, .d (iD k))]) (n) ?_ ⟨0, μ, ⟨Nat.zero_le _, h.n⟩, rfl, rfl, rfl⟩ ?_
 ·refine zo9 ?_
  refine js6 ?_; simp [zu6, zbs, zcr, bH, bO, zar, iD, avs, bP]
 rintro τ' H' mm ⟨k, μ1, ⟨hk, hn1⟩, rfl, rfl, rfl⟩
 have hb := jrd h.g hwi hk
 have hsu := @jg9 e.ins gs j k
 have hke : k = n → zu6 e.ins gs j n = zu6 e.ins gs j k := fun e => by rw [← e]
 generalize zu6 e.ins gs j k = s at *
 have hw := hb.wid
 have hbl := hb.len
 have h1 : BOk e s.1 μ1 := ⟨hn1, hb.gi, h.i, by have := h.l; omega⟩
 refine szq hp (fun _ hZ => zh5 hZ) ?_
 refine zaa fun K6 hK6 => ?_
 refine zal rfl (fun ht => ?_) (fun ht => ?_)
 ·have hlt : k < n := by simp at ht; omega
  have hrep : (List.replicate n (D.val (.int .i64 0)))[k]? = some (.val (.int .i64 0)) := by simp [hlt]
  have hst := zg1 hw hlt ((s.1, ((2 + zo8 ⟨1, (j : Int), (k : Int)⟩ e.ins : Nat) : Int))).2
  refine zaj (hK6 _ _ ?_)
  refine zaa fun K7 hK7 => ?_
  refine zaf ?_
  refine szq hp (fun _ hZ => jya hrep hZ) ?_
  refine za1 hp zak hc rfl fun K9 hK9 => ?_
  refine zh5 ?_
  refine ydg (bH e s.1 μ1 ++ [bP, .cells [.d (iD j)]]) ([zcr s.2 n]) (ydb e s.1 μ1 j k _ hn1 hm (hwi k hlt) hj (by omega)) ?_
  rintro _ _ ⟨μ2, hn2, rfl, rfl⟩
  refine ⟨rfl, ?_⟩
  refine zh5 ?_
  refine hK9 _ _ (hK7 _ _ ?_)
  refine za1 hp zak hc rfl fun K10 hK10 => ?_
  refine zh5 ?_
  refine hK10 _ _ ⟨_, _, _, ?_, ⟨k + 1, μ2, ⟨by omega, by rw [hsu]; exact hn2⟩, rfl, rfl, rfl⟩, ?_⟩
  ·first | omega | (simp only [List.length_cons]; omega) | (dsimp only; omega)
  ·refine zwi [0,1,2,3,4,5,6,7,8,9,10] ?_
   refine zo9 ?_
   refine js6 ?_; rw [hsu]; dsimp only; rw [← hst]; simp [bH, bO, zar, avs, iD, bP]
 ·have hkk : k = n := by simp at ht; omega
  have hz : s.2 ++ List.replicate (n - s.2.length) (0 : Int) = s.2 := by rw [hw, hkk, Nat.sub_self]; simp
  rw [hz]
  refine zau (hK3 _ _ ?_)
  refine szq hp (fun _ hZ => jcd hZ) ?_
  refine zat hp (τ' := frL [(4, .d (.fs (s.2.map iD) n))]) (H' := bH e s.1 μ1 ++ [bP, .cells [.d (iD j)]]) ?_ ?_
  ·refine Rt.trans (Rt.fz (id := 10) (l := (s.2.map iD)) rfl) ?_
   refine Rt.trans (Rt.slot 4 (zf9 (zbf (by simp [hw, hkk])))) ?_
   refine zwi [0,1,2,3,4,5,6,7,8,9] ?_
   refine zo9 ?_
   exact ydh
  refine zam ?_
  refine zap (t := 4) rfl ?_
  show ∃ _, _
  rw [hke hkk]; exact ⟨μ1, hn1, by show AV.d (.fs (s.2.map iD) n) = .d (.fs (s.2.map iD) s.2.length); rw [hw, hkk], rfl⟩
def rdW (m : Nat) (gs : Gs) (d0 d1 d2 : Int) (j k : Nat) : Gs × List Int := zbs (fun gs i => zct m gs ⟨7, d0, d1, d2, ((8 * j + i : Nat) : Int)⟩) gs k
theorem jk2 {m : Nat} {gs : Gs} {d0 d1 d2 : Int} {j k : Nat} : rdW m gs d0 d1 d2 j (k + 1) = ((zct m (rdW m gs d0 d1 d2 j k).1 ⟨7, d0, d1, d2, ((8 * j + k : Nat) : Int)⟩).1, (rdW m gs d0 d1 d2 j k).2 ++ [(zct m (rdW m gs d0 d1 d2 j k).1 ⟨7, d0, d1, d2, ((8 * j + k : Nat) : Int)⟩).2]) := rfl
theorem jyb {m : Nat} {gs : Gs} {d0 d1 d2 : Int} {j n k : Nat} (h : GI m gs) (h0 : NdB m gs d0) (h1 : NdB m gs d1) (h2 : NdB m gs d2) (hj : 8 * j + n ≤ 64) (hk : k ≤ n) : Bs m (1 * k) k gs (rdW m gs d0 d1 d2 j k) := zcv h fun i hi gs' hp hg => by
 have a := h0.pre hp; have b := h1.pre hp; have d := h2.pre hp
 exact zir hg ⟨by simp, by simp, a.1, a.2, b.1, b.2, d.1, d.2, by simp only; omega, by simp only; omega, fun e => absurd rfl e, fun e => absurd e (by simp), fun e => absurd e (by simp)⟩
  ⟨fun e => absurd e (by simp), fun _ e => absurd e (by simp), fun e => absurd e (by simp), fun e => absurd e (by simp)⟩
theorem jre (e : BE) (gs : Gs) (μ : Mp) (d0 d1 d2 : Int) (j n : Nat) (h : BOk e gs μ) (h0 : NdB (mE2 e) gs d0) (hd1 : NdB (mE2 e) gs d1) (hd2 : NdB (mE2 e) gs d2) (hj : 8 * j + n ≤ 64) (hl : gs.length + n ≤ 99990) : ScS Try.prog [0, 1, 3, 4, 5, 6, 7, 8, 9, 10] 119 [.d (.fs (List.replicate n (iD 0)) n), .clo (.func 134) [] [.op 8 0, .op 9 0, .op 10 0]] (bH e gs μ ++ [bP, .cells [.d (iD d0), .d (iD d1), .d (iD d2)], .cells [.d (iD j)]]) (jko e [bP, .cells [.d (iD d0), .d (iD d1), .d (iD d2)], .cells [.d (iD j)]] (rdW (mE2 e) gs d0 d1 d2 j n)) := by
 refine zbh (fn := Try.f119) (by kernel_rfl) Try.func119 rfl (Nat.le_of_ble_eq_true rfl) fun c hc hp => ?_
 refine zc1 ?_
 unfold bH bP
 refine szq hp (fun _ hZ => jcd hZ) ?_
 refine szq hp (fun _ hZ => zh5 hZ) ?_
 refine zaa fun K3 hK3 => ?_
 refine szq hp (fun _ hZ => zh5 hZ) ?_
 refine zaf ?_
 refine zan hp (fun τ' H' mm => ∃ (k : Nat) (μ1 : Mp), (k ≤ n ∧ NdM (mE2 e) (rdW (mE2 e) gs d0 d1 d2 j k).1 μ1) ∧ mm = n - k ∧ H' = bH e (rdW (mE2 e) gs d0 d1 d2 j k).1 μ1 ++ [bP, .cells [.d (iD d0), .d (iD d1), .d (iD d2)], .cells [.d (iD j)], zcr (rdW (mE2 e) gs d0 d1 d2 j k).2 n] ∧ τ' = frL [(1, .clo (.func 134) [] [.op 8 0, .op 9 0, .op 10 0]), (5, .os 1 11 0 n), (11, .d (.fs (List.replicate n (iD 0)) n)), (12, .d (iD n)), (13, .d (iD k))]) (n) ?_ ⟨0, μ, ⟨Nat.zero_le _, h.n⟩, rfl, rfl, rfl⟩ ?_
 ·refine zo9 ?_
  refine js6 ?_; simp [rdW, zbs, zcr, bH, bO, zar, iD, avs, bP]
 rintro τ' H' mm ⟨k, μ1, ⟨hk, hn1⟩, rfl, rfl, rfl⟩
 have hb := jyb h.g h0 hd1 hd2 hj hk
 have hsu := @jk2 (mE2 e) gs d0 d1 d2 j k
 have hke : k = n → rdW (mE2 e) gs d0 d1 d2 j n = rdW (mE2 e) gs d0 d1 d2 j k := fun e => by rw [← e]
 generalize rdW (mE2 e) gs d0 d1 d2 j k = s at *
 have hw := hb.wid
 have hbl := hb.len
 have h1 : BOk e s.1 μ1 := ⟨hn1, hb.gi, h.i, by have := h.l; omega⟩
 refine szq hp (fun _ hZ => zh5 hZ) ?_
 refine zaa fun K6 hK6 => ?_
 refine zal rfl (fun ht => ?_) (fun ht => ?_)
 ·have hlt : k < n := by simp at ht; omega
  have hrep : (List.replicate n (D.val (.int .i64 0)))[k]? = some (.val (.int .i64 0)) := by simp [hlt]
  have hst := zg1 hw hlt (zct (mE2 e) s.1 ⟨7, d0, d1, d2, ((8 * j + k : Nat) : Int)⟩).2
  refine zaj (hK6 _ _ ?_)
  refine zaa fun K7 hK7 => ?_
  refine zaf ?_
  refine szq hp (fun _ hZ => jya hrep hZ) ?_
  refine za1 hp zak hc rfl fun K9 hK9 => ?_
  refine zh5 ?_
  refine ydg (bH e s.1 μ1 ++ [bP, .cells [.d (iD d0), .d (iD d1), .d (iD d2)], .cells [.d (iD j)]]) ([zcr s.2 n]) (ydc e s.1 μ1 d0 d1 d2 j k _ h1 (h0.pre hb.pre) (hd1.pre hb.pre) (hd2.pre hb.pre) (by omega) (by omega)) ?_
  rintro _ _ ⟨μ2, hn2, rfl, rfl⟩
  refine ⟨rfl, ?_⟩
  refine zh5 ?_
  refine hK9 _ _ (hK7 _ _ ?_)
  refine za1 hp zak hc rfl fun K10 hK10 => ?_
  refine zh5 ?_
  refine hK10 _ _ ⟨_, _, _, ?_, ⟨k + 1, μ2, ⟨by omega, by rw [hsu]; exact hn2⟩, rfl, rfl, rfl⟩, ?_⟩
  ·first | omega | (simp only [List.length_cons]; omega) | (dsimp only; omega)
  ·refine zwi [0,1,2,3,4,5,6,7,8,9,10,11] ?_
   refine zo9 ?_
   refine js6 ?_; rw [hsu]; dsimp only; rw [← hst]; simp [bH, bO, zar, avs, iD, bP]
 ·have hkk : k = n := by simp at ht; omega
  have hz : s.2 ++ List.replicate (n - s.2.length) (0 : Int) = s.2 := by rw [hw, hkk, Nat.sub_self]; simp
  rw [hz]
  refine zau (hK3 _ _ ?_)
  refine szq hp (fun _ hZ => jcd hZ) ?_
  refine zat hp (τ' := frL [(4, .d (.fs (s.2.map iD) n))]) (H' := bH e s.1 μ1 ++ [bP, .cells [.d (iD d0), .d (iD d1), .d (iD d2)], .cells [.d (iD j)]]) ?_ ?_
  ·refine Rt.trans (Rt.fz (id := 11) (l := (s.2.map iD)) rfl) ?_
   refine Rt.trans (Rt.slot 4 (zf9 (zbf (by simp [hw, hkk])))) ?_
   refine zwi [0,1,2,3,4,5,6,7,8,9,10] ?_
   refine zo9 ?_
   exact ydh
  refine zam ?_
  refine zap (t := 4) rfl ?_
  show ∃ _, _
  rw [hke hkk]; exact ⟨μ1, hn1, by show AV.d (.fs (s.2.map iD) n) = .d (.fs (s.2.map iD) s.2.length); rw [hw, hkk], rfl⟩
end Go.Proofs.Ytapjobndmmkanaa
