/- netlist's builder: multiplexers. -/
import Derived.Test.YtapjobndmmkanaaQr
import Derived.Test.YtapjobndmmkanaaYd
import Derived.Test.YtapjobndmmkanaaOe
set_option linter.unusedVariables false
set_option linter.unusedSimpArgs false
set_option maxRecDepth 100000
set_option maxHeartbeats 4000000
namespace Go.Proofs.Ytapjobndmmkanaa
open Go Go.RowKit
theorem jxp : (((type_of% @zk7) ∧ ((type_of% @zd8) ∧ (type_of% @zd9))) ∧ ((type_of% @zgw) ∧ ((type_of% @zio) ∧ (type_of% @zk6)))) := ⟨⟨@zk7, ⟨@zd8, @zd9⟩⟩, ⟨@zgw, ⟨@zio, @zk6⟩⟩⟩
theorem jkk {p q : Prop} (hq : q) (h : p = q := by
 conv => lhs; simp -dsimp -implicitDefEqProofs (disch := first | assumption | omega | (simp only [r_z, zab, zac] <;> omega) | decide) only [r_r, ↓reduceIte, Nat.reduceEqDiff, Nat.reduceAdd, D.fix, Int.reduceToNat, Nat.reduceMul, Nat.reduceBNe, Nat.reduceBEq, r_m, bH, bO, zar, zav]) : p := h.mpr hq
theorem ziz {p q : Prop} (hq : q) (h : p = q := by
 conv => lhs; simp -dsimp -implicitDefEqProofs (disch := first | assumption | omega | (simp only [r_z, zab, zac] <;> omega) | decide) only [r_r, ↓reduceIte, Nat.reduceEqDiff, Nat.reduceAdd, D.fix, Int.reduceToNat, Nat.reduceMul, Nat.reduceBNe, Nat.reduceBEq, r_m, bH, bO, zar, zav, jxp]) : p := h.mpr hq
theorem joo (k : List Nat) {m : List Nat} {τ τ1 : Fr} {H H1 : zae} (h : Rt m (fun t => gcV k (τ t)) (gcH k H) τ1 H1) (a : ∀ i ∈ m, k[i]? = some i := by decide) (b : k.Nodup := by decide) (c : ∀ i ∈ k, i < H.length := by
 simp [fzH, gcH]) : Rt m τ H τ1 H1 := Rt.trans (Rt.gc a b c) h
theorem jop {m : List Nat} {τ τ' : Fr} {H H' : zae} (h2 : H = H') (h : zfq τ τ' := by
 repeat (first | exact zas _ | refine zao ?_ (by first | rfl | (simp [r_f, zab, zac]; done) | simp [r_f, zab, zac, *]))) : Rt m τ H τ' H' := Rt.end h h2
theorem jqt {p q r : Prop} (e : r) (hq : q) (h : r → p = q := by
 intro hY
 conv => lhs; simp -dsimp -implicitDefEqProofs (disch := first | assumption | omega | (simp only [r_z, zab, zac] <;> omega) | decide) only [r_r, ↓reduceIte, Nat.reduceEqDiff, Nat.reduceAdd, D.fix, Int.reduceToNat, Nat.reduceMul, Nat.reduceBNe, Nat.reduceBEq, r_m, bH, bO, zar, zav, jxp, hY]) : p := (h e).mpr hq
theorem jqu {P : Program} {sm : List Nat} {N : Nat} {τ : Fr} {H : zae} {f : FuncId} {args : List AV} {K0 KK : AV → zae → Prop} {ks : List Nat} (S T : zae) (h : ScS P ks f args S K0) (hK : ∀ x S', K0 x S' → S'.length = S.length ∧ KK x (S' ++ T)) (hH : H = S ++ T := by
 rfl) (hm : sm.all (okI ks S.length) = true := by
 first | rfl | (simp [AV.allIs, AV.allI, zaq, zah, zai, okI, ltI, zad, zax, bH, bO]; done) | (intro o ho; simp at ho; done)) (hτ : ∀ t, (τ t).allI (okI ks S.length) = true := by
 exact fun t => zbi (by first | rfl | (simp [AV.allIs, AV.allI, zaq, zah, zai, okI, ltI, zad, zax, bH, bO]; done) | (intro o ho; simp at ho; done)) t) (ha : AV.allIs (ltI S.length) args = true := by
 first | rfl | (simp [AV.allIs, AV.allI, zaq, zah, zai, okI, ltI, zad, zax, bH, bO]; done) | (intro o ho; simp at ho; done)) (hS : ∀ o ∈ S, o.allI (ltI S.length) = true := by
 first | rfl | (simp [AV.allIs, AV.allI, zaq, zah, zai, okI, ltI, zad, zax, bH, bO]; done) | (intro o ho; simp at ho; done)) (hT : ∀ o ∈ T, o.allI (okI ks S.length) = true := by
 first | rfl | (simp [AV.allIs, AV.allI, zaq, zah, zai, okI, ltI, zad, zax, bH, bO]; done) | (intro o ho; simp at ho; done)) : kC P sm N H τ (.d (.val (.func (.func f) #[] #[]))) args true (tg KK) := zjo h hH hm hτ ha hS hT hK
theorem joq {p : Prop} (h : p := by
 first | rfl | (simp only [r_g, Nat.reduceAdd, ↓reduceIte, Nat.reduceEqDiff, r_m, bH, bO, zar, zav]; first | done | rfl)) : p := h
theorem jor (e : BE) (gs : Gs) (μ : Mp) (x y z : Int) (h : BOk e gs μ) (hx : NdB (mE2 e) gs x) (hy : NdB (mE2 e) gs y) (hz : NdB (mE2 e) gs z) (hl : gs.length + 2 ≤ 100000) : ScS Try.prog [0, 1, 3, 4, 5, 6, 7] 101 [.op 0 0, .d (iD x), .d (iD y), .d (iD z)] (bH e gs μ) (jkg e (zj0 (mE2 e) gs x y z)) := by
 refine zbh (fn := Try.f101) (by kernel_rfl) Try.func101 rfl (Nat.le_of_ble_eq_true rfl) fun c hc hp => ?_
 refine zkf ?_
 have hd : zj0 (mE2 e) gs x y z = if x = 0 then (gs, z) else if x = 1 ∨ y = z then (gs, y) else if y = 1 then orB (mE2 e) gs x z else if z = 0 then zda (mE2 e) gs x y else if y = 0 then zda (mE2 e) (zdk (mE2 e) gs x).1 (zdk (mE2 e) gs x).2 z else if z = 1 then orB (mE2 e) (zdk (mE2 e) gs x).1 (zdk (mE2 e) gs x).2 y else zct (mE2 e) gs ⟨5, x, y, z, 0⟩ := rfl
 have x0 := hx.1; have x1 := hx.2; have y0 := hy.1; have y1 := hy.2; have z0 := hz.1; have z1 := hz.2; have i1 := h.i; have l1 := h.l
 unfold mE2 at x1 y1 z1
 have hnr := zfu zf2 h.g hx
 refine szq hp (fun _ hZ => jkk hZ) ?_
 refine zaa fun K2 hK2 => ?_
 refine zaf ?_
 refine szq hp (fun _ hZ => ziz hZ) ?_
 refine zal rfl (fun ht => ?_) (fun ht => ?_)
 ·have q : x = 0 := by simpa using ht
  refine szq hp (fun _ hZ => jkk hZ) ?_
  refine zat hp (τ' := frL [(8, .d (iD z))]) (H' := bH e gs μ) ?_ ?_
  ·refine joo [0,1,2,3,4,5,6,7] ?_
   refine jop ?_
   exact joq
  refine zam ?_
  refine zap (t := 8) rfl ?_
  show ∃ _, _
  rw [hd, if_pos q]; exact ⟨μ, h.n, rfl, rfl⟩
 ·have q : x ≠ 0 := by simpa using ht
  refine zag hp zak hc rfl fun K5 hK5 => ?_
  rcases (show x = 1 ∨ (x ≠ 1 ∧ y = z) ∨ (x ≠ 1 ∧ y ≠ z) by omega) with r | ⟨r, s⟩ | ⟨r, s⟩
  ·have q1 := zpr r
   have q2 := q1
   refine jqt (sza q1 q2) ?_
   refine hK5 _ _ ?_
   refine szt ?_
   refine szq hp (fun _ hZ => jkk hZ) ?_
   refine zat hp (τ' := frL [(8, .d (iD y))]) (H' := bH e gs μ) ?_ ?_
   ·refine joo [0,1,2,3,4,5,6,7] ?_
    refine jop ?_
    exact joq
   refine zam ?_
   refine zap (t := 8) rfl ?_
   show ∃ _, _
   rw [hd, if_neg q, if_pos (.inl r)]; exact ⟨μ, h.n, rfl, rfl⟩
  ·have q1 := zha r
   have q2 := zpr s
   refine jqt (sza q1 q2) ?_
   refine hK5 _ _ ?_
   refine szt ?_
   refine szq hp (fun _ hZ => jkk hZ) ?_
   refine zat hp (τ' := frL [(8, .d (iD y))]) (H' := bH e gs μ) ?_ ?_
   ·refine joo [0,1,2,3,4,5,6,7] ?_
    refine jop ?_
    exact joq
   refine zam ?_
   refine zap (t := 8) rfl ?_
   show ∃ _, _
   rw [hd, if_neg q, if_pos (.inr s)]; exact ⟨μ, h.n, rfl, rfl⟩
  ·have q1 := zha r
   have q2 := zha s
   refine jqt (sza q1 q2) ?_
   refine hK5 _ _ ?_
   refine szf ?_
   have rs : ¬ (x = 1 ∨ y = z) := by omega
   refine szq hp (fun _ hZ => ziz hZ) ?_
   refine zal rfl (fun ht => ?_) (fun ht => ?_)
   ·have u : y = 1 := by simpa using ht
    refine zag hp zak hc rfl fun K9 hK9 => ?_
    refine ziz ?_
    refine jqu (bH e gs μ) ([]) (jgx e gs μ x z h hx hz) ?_
    rintro _ _ ⟨μ1, hn1, rfl, rfl⟩
    refine ⟨rfl, ?_⟩
    refine ziz ?_
    refine hK9 _ _ ?_
    refine zat hp (τ' := frL [(8, .d (iD (orB (mE2 e) gs x z).2))]) (H' := bH e (orB (mE2 e) gs x z).1 μ1) ?_ ?_
    ·refine joo [0,1,2,3,4,5,6,7] ?_
     refine jop ?_
     exact joq
    refine zam ?_
    refine zap (t := 8) rfl ?_
    show ∃ _, _
    rw [hd, if_neg q, if_neg rs, if_pos u]; exact ⟨μ1, hn1, rfl, rfl⟩
   ·have u : y ≠ 1 := by simpa using ht
    refine szq hp (fun _ hZ => ziz hZ) ?_
    refine zal rfl (fun ht => ?_) (fun ht => ?_)
    ·have v : z = 0 := by simpa using ht
     refine zag hp zak hc rfl fun K11 hK11 => ?_
     refine ziz ?_
     refine jqu (bH e gs μ) ([]) (ziy e gs μ x y h hx hy) ?_
     rintro _ _ ⟨μ1, hn1, rfl, rfl⟩
     refine ⟨rfl, ?_⟩
     refine ziz ?_
     refine hK11 _ _ ?_
     refine zat hp (τ' := frL [(8, .d (iD (zda (mE2 e) gs x y).2))]) (H' := bH e (zda (mE2 e) gs x y).1 μ1) ?_ ?_
     ·refine joo [0,1,2,3,4,5,6,7] ?_
      refine jop ?_
      exact joq
     refine zam ?_
     refine zap (t := 8) rfl ?_
     show ∃ _, _
     rw [hd, if_neg q, if_neg rs, if_neg u, if_pos v]; exact ⟨μ1, hn1, rfl, rfl⟩
    ·have v : z ≠ 0 := by simpa using ht
     refine szq hp (fun _ hZ => ziz hZ) ?_
     refine zal rfl (fun ht => ?_) (fun ht => ?_)
     ·have w : y = 0 := by simpa using ht
      refine zag hp zak hc rfl fun K13 hK13 => ?_
      refine ziz ?_
      refine jqu (bH e gs μ) ([]) (zml e gs μ x h hx) ?_
      rintro _ _ ⟨μ1, hn1, rfl, rfl⟩
      refine ⟨rfl, ?_⟩
      have h1 := h.next hnr hn1 (by omega)
      refine ziz ?_
      refine jqu (bH e (zdk (mE2 e) gs x).1 μ1) ([]) (ziy e (zdk (mE2 e) gs x).1 μ1 (zdk (mE2 e) gs x).2 z h1 hnr.nd (hz.pre hnr.pre)) ?_
      rintro _ _ ⟨μ2, hn2, rfl, rfl⟩
      refine ⟨rfl, ?_⟩
      refine ziz ?_
      refine hK13 _ _ ?_
      refine zat hp (τ' := frL [(8, .d (iD (zda (mE2 e) (zdk (mE2 e) gs x).1 (zdk (mE2 e) gs x).2 z).2))]) (H' := bH e (zda (mE2 e) (zdk (mE2 e) gs x).1 (zdk (mE2 e) gs x).2 z).1 μ2) ?_ ?_
      ·refine joo [0,1,2,3,4,5,6,7] ?_
       refine jop ?_
       exact joq
      refine zam ?_
      refine zap (t := 8) rfl ?_
      show ∃ _, _
      rw [hd, if_neg q, if_neg rs, if_neg u, if_neg v, if_pos w]; exact ⟨μ2, hn2, rfl, rfl⟩
     ·have w : y ≠ 0 := by simpa using ht
      refine szq hp (fun _ hZ => ziz hZ) ?_
      refine zal rfl (fun ht => ?_) (fun ht => ?_)
      ·have k : z = 1 := by simpa using ht
       refine zag hp zak hc rfl fun K15 hK15 => ?_
       refine ziz ?_
       refine jqu (bH e gs μ) ([]) (zml e gs μ x h hx) ?_
       rintro _ _ ⟨μ1, hn1, rfl, rfl⟩
       refine ⟨rfl, ?_⟩
       have h1 := h.next hnr hn1 (by omega)
       refine ziz ?_
       refine jqu (bH e (zdk (mE2 e) gs x).1 μ1) ([]) (jgx e (zdk (mE2 e) gs x).1 μ1 (zdk (mE2 e) gs x).2 y h1 hnr.nd (hy.pre hnr.pre)) ?_
       rintro _ _ ⟨μ2, hn2, rfl, rfl⟩
       refine ⟨rfl, ?_⟩
       refine ziz ?_
       refine hK15 _ _ ?_
       refine zat hp (τ' := frL [(8, .d (iD (orB (mE2 e) (zdk (mE2 e) gs x).1 (zdk (mE2 e) gs x).2 y).2))]) (H' := bH e (orB (mE2 e) (zdk (mE2 e) gs x).1 (zdk (mE2 e) gs x).2 y).1 μ2) ?_ ?_
       ·refine joo [0,1,2,3,4,5,6,7] ?_
        refine jop ?_
        exact joq
       refine zam ?_
       refine zap (t := 8) rfl ?_
       show ∃ _, _
       rw [hd, if_neg q, if_neg rs, if_neg u, if_neg v, if_neg w, if_pos k]; exact ⟨μ2, hn2, rfl, rfl⟩
      ·have k : z ≠ 1 := by simpa using ht
       refine zaj (hK2 _ _ ?_)
       refine zag hp zak hc rfl fun K16 hK16 => ?_
       refine ziz ?_
       refine jqu (bH e gs μ) ([]) (zki e gs μ ⟨5, x, y, z, 0⟩ h.n (h.g64 (by decide) (by decide) hx hy hz) h.i h.l) ?_
       rintro _ _ ⟨μ2, hn2, rfl, rfl⟩
       refine ⟨rfl, ?_⟩
       refine ziz ?_
       refine hK16 _ _ ?_
       refine zat hp (τ' := frL [(8, .d (iD (zct (mE2 e) gs ⟨5, x, y, z, 0⟩).2))]) (H' := bH e (zct (mE2 e) gs ⟨5, x, y, z, 0⟩).1 μ2) ?_ ?_
       ·refine joo [0,1,2,3,4,5,6,7] ?_
        refine jop ?_
        exact joq
       refine zam ?_
       refine zap (t := 8) rfl ?_
       show ∃ _, _
       rw [hd, if_neg q, if_neg rs, if_neg u, if_neg v, if_neg w, if_neg k]; exact ⟨μ2, hn2, rfl, rfl⟩
/- netlist's builder: majorities. -/
theorem jqv : ((((type_of% @zc2) ∧ (type_of% @zee)) ∧ ((type_of% @zew) ∧ ((type_of% @zex) ∧ (type_of% @zk7)))) ∧ (((type_of% @zd8) ∧ (type_of% @zd9)) ∧ ((type_of% @zgw) ∧ ((type_of% @zio) ∧ (type_of% @zk6))))) := ⟨⟨⟨@zc2, @zee⟩, ⟨@zew, ⟨@zex, @zk7⟩⟩⟩, ⟨⟨@zd8, @zd9⟩, ⟨@zgw, ⟨@zio, @zk6⟩⟩⟩⟩
theorem jkl {x y z a b c : Int} (hab : a ≤ b) (hbc : b ≤ c) (hp : [x, y, z].Perm [a, b, c]) : zpq [x, y, z] = [a, b, c] := by
 refine List.Perm.eq_of_pairwise (le := fun a b => leI a b = true) (fun a b _ _ h1 h2 => ?_) (List.pairwise_mergeSort jv9 jwa _) ?_ ((List.mergeSort_perm _ leI).trans hp)
 ·simp only [leI, decide_eq_true_eq] at h1 h2; omega
 ·simp [leI]; omega
theorem yc0 {x y z a b c : Int} (h : (a = x ∧ b = y ∧ c = z) ∨ (a = x ∧ b = z ∧ c = y) ∨ (a = y ∧ b = x ∧ c = z) ∨ (a = y ∧ b = z ∧ c = x) ∨ (a = z ∧ b = x ∧ c = y) ∨ (a = z ∧ b = y ∧ c = x)) : [x, y, z].Perm [a, b, c] := by
 have sw : ∀ u v w : Int, [u, v, w].Perm [v, u, w] := fun u v w => .swap _ _ _
 have sr : ∀ u v w : Int, [u, v, w].Perm [u, w, v] := fun u v w => .cons _ (.swap _ _ _)
 rcases h with ⟨rfl, rfl, rfl⟩ | ⟨rfl, rfl, rfl⟩ | ⟨rfl, rfl, rfl⟩ | ⟨rfl, rfl, rfl⟩ | ⟨rfl, rfl, rfl⟩ | ⟨rfl, rfl, rfl⟩
 ·exact .refl _
 ·exact sr _ _ _
 ·exact sw _ _ _
 ·exact (sw _ _ _).trans (sr _ _ _)
 ·exact (sr _ _ _).trans (sw _ _ _)
 ·exact ((sw _ _ _).trans (sr _ _ _)).trans (sw _ _ _)
theorem jxq {P : Program} {sm : List Nat} {N : Nat} {τ : Fr} {H : zae} {f : FuncId} {args : List AV} {x : AV} {H1 : zae} {KK : AV → zae → Prop} (h : IcS P f args H fun x' H' => x' = x ∧ H' = H1) (hK : KK x H1) : kC P sm N H τ (.d (.val (.func (.func f) #[] #[]))) args true (tg KK) :=
 jmn h fun _ _ ⟨a, b⟩ => by rw [a, b]; exact hK
theorem jxr {H : zae} {x y z a b c : Int} (hs : zpq [x, y, z] = [a, b, c]) {id : Nat} (hid : H[id]? = some (.cells [.d (iD x), .d (iD y), .d (iD z)])) : IcS Try.prog 145 [.os 1 id 0 3] H fun x H' => x = .tup [] ∧ H' = H.set id (.cells [.d (iD a), .d (iD b), .d (iD c)]) := by
 have := jp8 (H := H) (id := id) (l := [x, y, z]) hid (by simp) (by simp)
 rw [hs] at this
 exact this
theorem zwg {p q : Prop} (hq : q) (h : p = q := by
 conv => lhs; simp -dsimp -implicitDefEqProofs (disch := first | assumption | omega | (simp only [r_z, zab, zac] <;> omega) | decide) only [r_r, ↓reduceIte, Nat.reduceEqDiff, Nat.reduceAdd, D.fix, Int.reduceToNat, Nat.reduceMul, Nat.reduceBNe, Nat.reduceBEq, r_m, bH, bO, zar, zav, jqv]) : p := h.mpr hq
theorem jb6 {p q : Prop} (hq : q) (h : p = q := by
 conv => lhs; simp -dsimp -implicitDefEqProofs (disch := first | assumption | omega | (simp only [r_z, zab, zac] <;> omega) | decide) only [r_r, ↓reduceIte, Nat.reduceEqDiff, Nat.reduceAdd, D.fix, Int.reduceToNat, Nat.reduceMul, Nat.reduceBNe, Nat.reduceBEq, r_w, r_m, bH, bO, zar, zav, jqv]) : p := h.mpr hq
theorem yc1 {P : Program} {sm : List Nat} {N : Nat} {τ0 τ : Fr} {H : zae} {f : FuncId} {args : List AV} {K0 KK : AV → zae → Prop} {ks : List Nat} (S T : zae) (h : ScS P ks f args S K0) (hK : ∀ x S', K0 x S' → S'.length = S.length ∧ KK x (S' ++ T)) (hH : H = S ++ T := by
 rfl) (hN : S.length ≤ N := by
 exact Nat.le_of_ble_eq_true rfl) (hm : sm.all (okI ks S.length) = true := by
 first | rfl | (simp [AV.allIs, AV.allI, zaq, zah, zai, okI, ltI, zad, zax, bH, bO]; done) | (intro o ho; simp at ho; done)) (hτ : ∀ t, (τ t).allI (okI ks S.length) = true := by
 exact fun t => zbi (by first | rfl | (simp [AV.allIs, AV.allI, zaq, zah, zai, okI, ltI, zad, zax, bH, bO]; done) | (intro o ho; simp at ho; done)) t) (h0 : ∀ t, (τ0 t).allI (okI ks S.length) = true := by
 exact fun t => zbi (by first | rfl | (simp [AV.allIs, AV.allI, zaq, zah, zai, okI, ltI, zad, zax, bH, bO]; done) | (intro o ho; simp at ho; done)) t) (ha : AV.allIs (ltI S.length) args = true := by
 first | rfl | (simp [AV.allIs, AV.allI, zaq, zah, zai, okI, ltI, zad, zax, bH, bO]; done) | (intro o ho; simp at ho; done)) (hS : ∀ o ∈ S, o.allI (ltI S.length) = true := by
 first | rfl | (simp [AV.allIs, AV.allI, zaq, zah, zai, okI, ltI, zad, zax, bH, bO]; done) | (intro o ho; simp at ho; done)) (hT : ∀ o ∈ T, o.allI (okI ks S.length) = true := by
 first | rfl | (simp [AV.allIs, AV.allI, zaq, zah, zai, okI, ltI, zad, zax, bH, bO]; done) | (intro o ho; simp at ho; done)) : kE P sm N τ0 τ H (.d (.val (.func (.func f) #[] #[]))) args (tg KK) := zlu h hH hN hm hτ h0 ha hS hT hK
theorem jxs (k : List Nat) {m : List Nat} {τ τ1 : Fr} {H H1 : zae} (h : Rt m (fun t => gcV k (τ t)) (gcH k H) τ1 H1) (a : ∀ i ∈ m, k[i]? = some i := by decide) (b : k.Nodup := by decide) (c : ∀ i ∈ k, i < H.length := by
 simp [fzH, gcH]) : Rt m τ H τ1 H1 := Rt.trans (Rt.gc a b c) h
theorem jxt {m : List Nat} {τ τ' : Fr} {H H' : zae} (h2 : H = H') (h : zfq τ τ' := by
 repeat (first | exact zas _ | refine zao ?_ (by first | rfl | (simp [r_f, zab, zac]; done) | simp [r_f, zab, zac, *]))) : Rt m τ H τ' H' := Rt.end h h2
theorem jqw {p q r : Prop} (e : r) (hq : q) (h : r → p = q := by
 intro hY
 conv => lhs; simp -dsimp -implicitDefEqProofs (disch := first | assumption | omega | (simp only [r_z, zab, zac] <;> omega) | decide) only [r_r, ↓reduceIte, Nat.reduceEqDiff, Nat.reduceAdd, D.fix, Int.reduceToNat, Nat.reduceMul, Nat.reduceBNe, Nat.reduceBEq, r_m, bH, bO, zar, zav, jqv, hY]) : p := (h e).mpr hq
theorem jxu {p : Prop} (h : p := by
 first | rfl | (simp only [r_g, Nat.reduceAdd, ↓reduceIte, Nat.reduceEqDiff, r_m, bH, bO, zar, zav]; first | done | rfl)) : p := h
theorem jos (e : BE) (gs : Gs) (μ : Mp) (x y z : Int) (h : BOk e gs μ) (hx : NdB (mE2 e) gs x) (hy : NdB (mE2 e) gs y) (hz : NdB (mE2 e) gs z) : ScS Try.prog [0, 1, 3, 4, 5, 6, 7] 143 [.op 0 0, .d (iD x), .d (iD y), .d (iD z)] (bH e gs μ) (jkg e (zz4 (mE2 e) gs x y z)) := by
 refine zbh (fn := Try.f143) (by kernel_rfl) Try.func143 rfl (Nat.le_of_ble_eq_true rfl) fun c hc hp => ?_
 refine zkf ?_
 obtain ⟨a, b, d, e1, e2, e3, ab, bd, hh⟩ := jp3 x y z
 have hs := jkl ab bd (yc0 hh)
 have hA : NdB (mE2 e) gs a := by rcases hh with ⟨rfl, rfl, rfl⟩ | ⟨rfl, rfl, rfl⟩ | ⟨rfl, rfl, rfl⟩ | ⟨rfl, rfl, rfl⟩ | ⟨rfl, rfl, rfl⟩ | ⟨rfl, rfl, rfl⟩ <;> assumption
 have hB : NdB (mE2 e) gs b := by rcases hh with ⟨rfl, rfl, rfl⟩ | ⟨rfl, rfl, rfl⟩ | ⟨rfl, rfl, rfl⟩ | ⟨rfl, rfl, rfl⟩ | ⟨rfl, rfl, rfl⟩ | ⟨rfl, rfl, rfl⟩ <;> assumption
 have hD : NdB (mE2 e) gs d := by rcases hh with ⟨rfl, rfl, rfl⟩ | ⟨rfl, rfl, rfl⟩ | ⟨rfl, rfl, rfl⟩ | ⟨rfl, rfl, rfl⟩ | ⟨rfl, rfl, rfl⟩ | ⟨rfl, rfl, rfl⟩ <;> assumption
 have hd : zz4 (mE2 e) gs x y z = if a = 0 then zda (mE2 e) gs b d else if a = 1 then orB (mE2 e) gs b d else if a = b ∨ b = d then (gs, b) else zct (mE2 e) gs ⟨6, a, b, d, 0⟩ := by unfold zz4 jn2; rw [e2, e1, e3]
 clear e1 e2 e3
 refine zag hp zak hc rfl fun K1 hK1 => ?_
 simp -dsimp -implicitDefEqProofs (disch := first | assumption | omega | (simp only [r_z, zab, zac] <;> omega) | decide) only [r_r, ↓reduceIte, Nat.reduceEqDiff, Nat.reduceAdd, D.fix, Int.reduceToNat, Nat.reduceMul, Nat.reduceBNe, Nat.reduceBEq, r_m, bH, bO, zar, zav]
 refine hK1 _ _ ?_
 refine szq hp (fun _ hZ => zwg hZ) ?_
 refine zag hp zak hc rfl fun K3 hK3 => ?_
 refine zwg ?_
 refine jxq (jxr hs rfl) ?_
 refine zwg ?_
 refine hK3 _ _ ?_
 refine zaa fun K4 hK4 => ?_
 refine zaf ?_
 refine szq hp (fun _ hZ => zwg hZ) ?_
 refine zal rfl (fun ht => ?_) (fun ht => ?_)
 ·have q : a = 0 := by simpa using ht
  refine za6 zak hp hc mixed rfl [(0, []), (1, []), (2, []), (3, []), (4, []), (5, []), (6, []), (7, []), (8, [])] [[], [], [1], [1, 2], [], [4], [4, 5], [0, 1, 2, 3, 4, 5, 6], [0, 1, 2, 3, 4, 5, 6, 7]] 0 (by kernel_rfl) fun K6 hK6 => ?_
  refine jb6 ?_
  refine yc1 (bH e gs μ) ([.cells [.d (iD a), .d (iD b), .d (iD d)]]) (ziy e gs μ b d h hB hD) ?_
  rintro _ _ ⟨μ1, hn1, rfl, rfl⟩
  refine ⟨rfl, ?_⟩
  refine jb6 ?_
  refine hK6 _ _ ?_
  refine zat hp (τ' := frL [(8, .d (iD (zda (mE2 e) gs b d).2))]) (H' := bH e (zda (mE2 e) gs b d).1 μ1) ?_ ?_
  ·refine jxs [0,1,2,3,4,5,6,7] ?_
   refine jxt ?_
   exact jxu
  refine zam ?_
  refine zap (t := 8) rfl ?_
  show ∃ _, _
  rw [hd, if_pos q]; exact ⟨μ1, hn1, rfl, rfl⟩
 ·have q : a ≠ 0 := by simpa using ht
  refine szq hp (fun _ hZ => zwg hZ) ?_
  refine zal rfl (fun ht => ?_) (fun ht => ?_)
  ·have r : a = 1 := by simpa using ht
   refine za6 zak hp hc mixed rfl [(0, []), (1, []), (2, []), (3, []), (4, []), (5, []), (6, []), (7, []), (8, [])] [[], [], [1], [1, 2], [], [4], [4, 5], [0, 1, 2, 3, 4, 5, 6], [0, 1, 2, 3, 4, 5, 6, 7]] 0 (by kernel_rfl) fun K8 hK8 => ?_
   refine jb6 ?_
   refine yc1 (bH e gs μ) ([.cells [.d (iD a), .d (iD b), .d (iD d)]]) (jgx e gs μ b d h hB hD) ?_
   rintro _ _ ⟨μ1, hn1, rfl, rfl⟩
   refine ⟨rfl, ?_⟩
   refine jb6 ?_
   refine hK8 _ _ ?_
   refine zat hp (τ' := frL [(8, .d (iD (orB (mE2 e) gs b d).2))]) (H' := bH e (orB (mE2 e) gs b d).1 μ1) ?_ ?_
   ·refine jxs [0,1,2,3,4,5,6,7] ?_
    refine jxt ?_
    exact jxu
   refine zam ?_
   refine zap (t := 8) rfl ?_
   show ∃ _, _
   rw [hd, if_neg q, if_pos r]; exact ⟨μ1, hn1, rfl, rfl⟩
  ·have r : a ≠ 1 := by simpa using ht
   refine za5 zak hc mixed rfl (q := 0) (by kernel_rfl) (by kernel_rfl) fun K9 hK9 => ?_
   rcases (show a = b ∨ (a ≠ b ∧ b = d) ∨ (a ≠ b ∧ b ≠ d) by omega) with s | ⟨s, u⟩ | ⟨s, u⟩
   ·have q1 := zpr s
    have q2 := q1
    refine jqw (sza q1 q2) ?_
    refine hK9 _ _ ?_
    refine szt ?_
    refine szq hp (fun _ hZ => zwg hZ) ?_
    refine zat hp (τ' := frL [(8, .d (iD b))]) (H' := bH e gs μ) ?_ ?_
    ·refine jxs [0,1,2,3,4,5,6,7] ?_
     refine jxt ?_
     exact jxu
    refine zam ?_
    refine zap (t := 8) rfl ?_
    show ∃ _, _
    rw [hd, if_neg q, if_neg r, if_pos (.inl s)]; exact ⟨μ, h.n, rfl, rfl⟩
   ·have q1 := zha s
    have q2 := zpr u
    refine jqw (sza q1 q2) ?_
    refine hK9 _ _ ?_
    refine szt ?_
    refine szq hp (fun _ hZ => zwg hZ) ?_
    refine zat hp (τ' := frL [(8, .d (iD b))]) (H' := bH e gs μ) ?_ ?_
    ·refine jxs [0,1,2,3,4,5,6,7] ?_
     refine jxt ?_
     exact jxu
    refine zam ?_
    refine zap (t := 8) rfl ?_
    show ∃ _, _
    rw [hd, if_neg q, if_neg r, if_pos (.inr u)]; exact ⟨μ, h.n, rfl, rfl⟩
   ·have q1 := zha s
    have q2 := zha u
    refine jqw (sza q1 q2) ?_
    refine hK9 _ _ ?_
    refine szf ?_
    refine zaj (hK4 _ _ ?_)
    refine za6 zak hp hc mixed rfl [(0, []), (1, []), (2, []), (3, []), (4, []), (5, []), (6, []), (7, []), (8, []), (9, []), (10, []), (11, []), (12, [])] [[], [], [1], [1, 2], [], [4], [4, 5], [], [7], [7, 8], [1, 2, 3, 4, 5, 6, 7, 8, 9], [0, 1, 2, 3, 4, 5, 6, 7, 8, 9, 10], [0, 1, 2, 3, 4, 5, 6, 7, 8, 9, 10, 11]] 0 (by kernel_rfl) fun K12 hK12 => ?_
    refine jb6 ?_
    refine yc1 (bH e gs μ) ([.cells [.d (iD a), .d (iD b), .d (iD d)]]) (zki e gs μ ⟨6, a, b, d, 0⟩ h.n (h.g64 (by decide) (by decide) hA hB hD) h.i h.l) ?_
    rintro _ _ ⟨μ2, hn2, rfl, rfl⟩
    refine ⟨rfl, ?_⟩
    refine jb6 ?_
    refine hK12 _ _ ?_
    refine zat hp (τ' := frL [(8, .d (iD (zct (mE2 e) gs ⟨6, a, b, d, 0⟩).2))]) (H' := bH e (zct (mE2 e) gs ⟨6, a, b, d, 0⟩).1 μ2) ?_ ?_
    ·refine jxs [0,1,2,3,4,5,6,7] ?_
     refine jxt ?_
     exact jxu
    refine zam ?_
    refine zap (t := 8) rfl ?_
    show ∃ _, _
    rw [hd, if_neg q, if_neg r, if_neg (fun hh => by rcases hh with hh | hh; exact s hh; exact u hh)]; exact ⟨μ2, hn2, rfl, rfl⟩
end Go.Proofs.Ytapjobndmmkanaa
