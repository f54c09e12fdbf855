/- netlist's builder: takes, puts, the firing bit. -/
import Derived.Test.YtapjobndmmkanaaQr
import Derived.Test.YtapjobndmmkanaaYq
set_option linter.unusedVariables false
set_option linter.unusedSimpArgs false
set_option maxRecDepth 100000
set_option maxHeartbeats 4000000
namespace Go.Proofs.Ytapjobndmmkanaa
open Go Go.RowKit
theorem jrj : (((((type_of% @zge) ∧ ((type_of% @zgf) ∧ (type_of% @zew))) ∧ (((type_of% @zex) ∧ (type_of% @jsq)) ∧ ((type_of% @zji) ∧ (type_of% @zd6)))) ∧ ((((type_of% @zk3) ∧ (type_of% @zmt)) ∧ ((type_of% @zmu) ∧ (type_of% @zy8))) ∧ (((type_of% @zy9) ∧ (type_of% @zzb)) ∧ ((type_of% @znp) ∧ (type_of% @zdj))))) ∧ (((((type_of% @zdz) ∧ (type_of% @zc2)) ∧ ((type_of% @zee) ∧ (type_of% @znx))) ∧ (((type_of% @jbk) ∧ (type_of% @jbl)) ∧ ((type_of% @zgb) ∧ (type_of% @jjn)))) ∧ ((((type_of% @zd7) ∧ (type_of% @zk4)) ∧ ((type_of% @zk5) ∧ (type_of% @zmv))) ∧ (((type_of% @jnk) ∧ (type_of% @jnl)) ∧ ((type_of% @jnn) ∧ (type_of% @znr)))))) := ⟨⟨⟨⟨@zge, ⟨@zgf, @zew⟩⟩, ⟨⟨@zex, @jsq⟩, ⟨@zji, @zd6⟩⟩⟩, ⟨⟨⟨@zk3, @zmt⟩, ⟨@zmu, @zy8⟩⟩, ⟨⟨@zy9, @zzb⟩, ⟨@znp, @zdj⟩⟩⟩⟩, ⟨⟨⟨⟨@zdz, @zc2⟩, ⟨@zee, @znx⟩⟩, ⟨⟨@jbk, @jbl⟩, ⟨@zgb, @jjn⟩⟩⟩, ⟨⟨⟨@zd7, @zk4⟩, ⟨@zk5, @zmv⟩⟩, ⟨⟨@jnk, @jnl⟩, ⟨@jnn, @znr⟩⟩⟩⟩⟩
def eP (p : Pr) (mi : Mp) (out : List Wire) (dr : List Int) (dat : List (List Int)) : BE := ⟨p, zfi p, mi, out, dr, dat⟩
structure PvOk (p : Pr) (mi : Mp) : Prop where
 k : PrOk p
 m : InM (zfi p) mi
 il : (zfi p).length ≤ 1000
 co : zgz p ≤ 80000
section
variable {p : Pr} {mi : Mp} {out : List Wire} {dr : List Int} {dat : List (List Int)}
theorem PvOk.be (h : PvOk p mi) : BEOk (eP p mi out dr dat) := ⟨rfl, h.m, h.il, h.k, h.k.rl⟩
end
@[simp] theorem yf4 {e : BE} {gs : Gs} {μ : Mp} : (bH e gs μ).length = 8 := rfl
def zby (x : Int) : AObj := .cells [.d (iD x)]
def zhy (l : List Int) : AObj := .cells (avs (l.map iD))
def FiK (p : Pr) (mi : Mp) (out : List Wire) (dr : List Int) (x : AV) (S' : zae) : Prop := ∃ μ, NdM (mP p) (zh3 p p.puts.length).1 μ ∧ x = .tup [.d (intsD (zei p)), .d (intsD (zea p)), .d (iD (zcf p))] ∧ S' = bH (eP p mi out dr (zbd p)) (zh3 p p.puts.length).1 μ ++ [zby (zcf p)]
theorem zkk {p : Pr} (h : PrOk p) : (zei p).length = p.takes.length := (zis h _ (Nat.le_refl _)).tl
theorem zox {p : Pr} (h : PrOk p) : (zea p).length = p.puts.length := (zj3 h _ (Nat.le_refl _)).ql
theorem jhg {p : Pr} : ∀ k, zgy p k = zsb (mP p) (zfi p) 3 (zei p) ((zj2 p p.puts.length).gs, 1) k
 | 0 => rfl
 | k + 1 => by rw [zgy, zsb, ← jhg k]; rfl
theorem jhh {p : Pr} : ∀ k, zh3 p k = zsb (mP p) (zfi p) 4 (zea p) (zgy p p.takes.length) k
 | 0 => rfl
 | k + 1 => by rw [zh3, zsb, ← jhh k]; rfl
theorem zh8 {p q : Prop} (hq : q) (h : p = q := by
 conv => lhs; simp -dsimp -implicitDefEqProofs (disch := first | assumption | omega | (simp only [r_z, zab, zac, zbb, zbc] <;> omega) | decide) only [r_r, ↓reduceIte, Nat.reduceEqDiff, Nat.reduceAdd, D.fix, Int.reduceToNat, Nat.reduceMul, Nat.reduceBNe, Nat.reduceBEq, r_m, bH, bO, zar, zav, bP, List.cons_append, List.nil_append, eP, zby, zhy, zfv, zwa, ptS, zc9, zot, pqS, nS, jrj]) : p := h.mpr hq
theorem jrk (k : List Nat) {m : List Nat} {τ τ1 : Fr} {H H1 : zae} (h : Rt m (fun t => gcV k (τ t)) (gcH k H) τ1 H1) (a : ∀ i ∈ m, k[i]? = some i := by decide) (b : k.Nodup := by decide) (c : ∀ i ∈ k, i < H.length := by
 simp [fzH, gcH]) : Rt m τ H τ1 H1 := Rt.trans (Rt.gc a b c) h
theorem jrl {m : List Nat} {τ τ' : Fr} {H H' : zae} (h2 : H = H') (h : zfq τ τ' := by
 repeat (first | exact zas _ | refine zao ?_ (by first | rfl | (simp [r_f, zab, zac, zbb, zbc]; done) | simp [r_f, zab, zac, zbb, zbc, *]))) : Rt m τ H τ' H' := Rt.end h h2
theorem yf5 {P : Program} {sm : List Nat} {N : Nat} {τ : Fr} {H : zae} {f : FuncId} {args : List AV} {K0 KK : AV → zae → Prop} {ks : List Nat} (S T : zae) (h : ScS P ks f args S K0) (hK : ∀ x S', K0 x S' → S'.length = S.length ∧ KK x (S' ++ T)) (hH : H = S ++ T := by
 rfl) (hm : sm.all (okI ks S.length) = true := by
 first | rfl | (simp [AV.allIs, AV.allI, zaq, zah, zai, okI, ltI, zad, zax, bH, bO, bP, eP, zby, zhy, ptS, pqS]; done) | (intro o ho; simp at ho; done)) (hτ : ∀ t, (τ t).allI (okI ks S.length) = true := by
 exact fun t => zbi (by first | rfl | (simp [AV.allIs, AV.allI, zaq, zah, zai, okI, ltI, zad, zax, bH, bO, bP, eP, zby, zhy, ptS, pqS]; done) | (intro o ho; simp at ho; done)) t) (ha : AV.allIs (ltI S.length) args = true := by
 first | rfl | (simp [AV.allIs, AV.allI, zaq, zah, zai, okI, ltI, zad, zax, bH, bO, bP, eP, zby, zhy, ptS, pqS]; done) | (intro o ho; simp at ho; done)) (hS : ∀ o ∈ S, o.allI (ltI S.length) = true := by
 first | rfl | (simp [AV.allIs, AV.allI, zaq, zah, zai, okI, ltI, zad, zax, bH, bO, bP, eP, zby, zhy, ptS, pqS]; done) | (intro o ho; simp at ho; done)) (hT : ∀ o ∈ T, o.allI (okI ks S.length) = true := by
 first | rfl | (simp [AV.allIs, AV.allI, zaq, zah, zai, okI, ltI, zad, zax, bH, bO, bP, eP, zby, zhy, ptS, pqS]; done) | (intro o ho; simp at ho; done)) : kC P sm N H τ (.d (.val (.func (.func f) #[] #[]))) args true (tg KK) := zjo h hH hm hτ ha hS hT hK
theorem jyp {p q r : Prop} (e : r) (hq : q) (h : r → p = q := by
 intro hY
 conv => lhs; simp -dsimp -implicitDefEqProofs (disch := first | assumption | omega | (simp only [r_z, zab, zac, zbb, zbc] <;> omega) | decide) only [r_r, ↓reduceIte, Nat.reduceEqDiff, Nat.reduceAdd, D.fix, Int.reduceToNat, Nat.reduceMul, Nat.reduceBNe, Nat.reduceBEq, r_w, r_m, bH, bO, zar, zav, bP, List.cons_append, List.nil_append, eP, zby, zhy, zfv, zwa, ptS, zc9, zot, pqS, nS, jrj, hY]) : p := (h e).mpr hq
theorem jyq {p q : Prop} (hq : q) (h : p = q := by
 conv => lhs; simp -dsimp -implicitDefEqProofs (disch := first | assumption | omega | (simp only [r_z, zab, zac, zbb, zbc] <;> omega) | decide) only [r_r, ↓reduceIte, Nat.reduceEqDiff, Nat.reduceAdd, D.fix, Int.reduceToNat, Nat.reduceMul, Nat.reduceBNe, Nat.reduceBEq, r_m, bH, bO, zar, zav, bP, List.cons_append, List.nil_append, eP, zby, zhy, zfv, zwa, ptS, zc9, zot, pqS, nS, zbj, jrj]) : p := h.mpr hq
theorem yf6 {P : Program} {sm : List Nat} {N : Nat} {τ : Fr} {H : zae} {f : FuncId} {fi ca args : List AV} {K0 KK : AV → zae → Prop} {ks : List Nat} (S T : zae) (h : ScS P ks f (fi ++ args ++ ca) S K0) (hK : ∀ x S', K0 x S' → S'.length = S.length ∧ KK x (S' ++ T)) (hH : H = S ++ T := by
 rfl) (hm : sm.all (okI ks S.length) = true := by
 first | rfl | (simp [AV.allIs, AV.allI, zaq, zah, zai, okI, ltI, zad, zax, bH, bO, bP, eP, zby, zhy, ptS, pqS]; done) | (intro o ho; simp at ho; done)) (hτ : ∀ t, (τ t).allI (okI ks S.length) = true := by
 exact fun t => zbi (by first | rfl | (simp [AV.allIs, AV.allI, zaq, zah, zai, okI, ltI, zad, zax, bH, bO, bP, eP, zby, zhy, ptS, pqS]; done) | (intro o ho; simp at ho; done)) t) (ha : AV.allIs (ltI S.length) (fi ++ args ++ ca) = true := by
 first | rfl | (simp [AV.allIs, AV.allI, zaq, zah, zai, okI, ltI, zad, zax, bH, bO, bP, eP, zby, zhy, ptS, pqS]; done) | (intro o ho; simp at ho; done)) (hS : ∀ o ∈ S, o.allI (ltI S.length) = true := by
 first | rfl | (simp [AV.allIs, AV.allI, zaq, zah, zai, okI, ltI, zad, zax, bH, bO, bP, eP, zby, zhy, ptS, pqS]; done) | (intro o ho; simp at ho; done)) (hT : ∀ o ∈ T, o.allI (okI ks S.length) = true := by
 first | rfl | (simp [AV.allIs, AV.allI, zaq, zah, zai, okI, ltI, zad, zax, bH, bO, bP, eP, zby, zhy, ptS, pqS]; done) | (intro o ho; simp at ho; done)) : kC P sm N H τ (.clo (.func f) fi ca) args true (tg KK) := zol h hH hm hτ ha hS hT hK
theorem jyr {p q : Prop} (hq : q) (h : p = q := by
 conv => lhs; simp only [r_g, Nat.reduceAdd, ↓reduceIte, Nat.reduceEqDiff, r_m, bH, bO, zar, zav, bP, List.cons_append, List.nil_append, eP, zby, zhy, zfv, zwa, ptS, zc9, zot, pqS, nS]) : p := h.mpr hq
theorem yf7 {p : Prop} (h : p := by
 first | rfl | (simp only [r_g, Nat.reduceAdd, ↓reduceIte, Nat.reduceEqDiff, r_m, bH, bO, zar, zav, bP, List.cons_append, List.nil_append, eP, zby, zhy, zfv, zwa, ptS, zc9, zot, pqS, nS]; first | done | rfl)) : p := h
theorem jrm (p : Pr) (mi : Mp) (out : List Wire) (dr : List Int) (hv : PvOk p mi) (μ : Mp) (hn0 : NdM (mP p) [] μ) : ScS Try.prog [0, 1, 3, 4, 5, 6] 98 [.op 0 0] (bH (eP p mi out dr []) [] μ ++ [.free]) (FiK p mi out dr) := by
 refine zbh (fn := Try.f98) (by kernel_rfl) Try.func98 rfl (Nat.le_of_ble_eq_true rfl) fun c hc hp => ?_
 refine zvt ?_
 have hil := hv.il; have hco := hv.co; have htl := hv.k.tl; have hql := hv.k.ql
 refine szq hp (fun _ hZ => zh8 hZ) ?_
 refine szq hp (fun _ hZ => zh8 hZ) ?_
 refine zaa fun K3 hK3 => ?_
 refine szq hp (fun _ hZ => zh8 hZ) ?_
 refine zaf ?_
 refine zan hp (fun τ' H' mm => ∃ (k : Nat) (μ1 : Mp), (k ≤ p.takes.length ∧ NdM (mP p) (zc4 p k).gs μ1) ∧ mm = p.takes.length - k ∧ H' = bH (eP p mi out dr (zc4 p k).data) (zc4 p k).gs μ1 ++ [bP, zby 1, zhy (zc4 p k).takes] ∧ τ' = frL [(1, .op 8 0), (2, .os 1 10 0 k), (3, .d (.val (.slice none 0 0))), (4, .op 9 0), (15, .d (.fs (p.takes.flatMap ptC) p.takes.length)), (16, .d (iD p.takes.length)), (17, .d (iD k))]) (p.takes.length) ?_ ⟨0, μ, ⟨Nat.zero_le _, hn0⟩, rfl, rfl, rfl⟩ ?_
 ·refine Rt.trans (Rt.nil 2 1 rfl) ?_
  refine jrk [0,1,2,3,4,5,6,7,9,10,11] ?_
  refine jrl ?_
  refine jyr ?_; simp [bH, bO, eP, zc4, bP, zby, zhy, avs, zar, iD]
 rintro τ' H' mm ⟨k, μ1, ⟨hk, hn1⟩, rfl, rfl, rfl⟩
 refine szq hp (fun _ hZ => zh8 hZ) ?_
 refine zaa fun K6 hK6 => ?_
 refine zal rfl (fun ht => ?_) (fun ht => ?_)
 ·have hlt : k < p.takes.length := by simp at ht; omega
  have hs := zis hv.k k hk
  have hst := jn7 hv.k hlt hs
  have hsu : zc4 p (k + 1) = ⟨(zbs (fun gs i => zda (mP p) gs (nth (zcp p (zc4 p k).data (zc4 p k).gs (nth p.takes k).wh).2 0) (inp p 2 k i)) (zcp p (zc4 p k).data (zc4 p k).gs (nth p.takes k).wh).1 (nth p.takes k).w).1, (zc4 p k).takes ++ [nth (zcp p (zc4 p k).data (zc4 p k).gs (nth p.takes k).wh).2 0], (zc4 p k).data ++ [(zbs (fun gs i => zda (mP p) gs (nth (zcp p (zc4 p k).data (zc4 p k).gs (nth p.takes k).wh).2 0) (inp p 2 k i)) (zcp p (zc4 p k).data (zc4 p k).gs (nth p.takes k).wh).1 (nth p.takes k).w).2]⟩ := rfl
  have hcl := jv5 (p := p) (show k + 1 ≤ p.takes.length by omega)
  rw [cTP] at hcl
  generalize zc4 p k = s at *
  have htl2 := hs.tl; have hdl := hs.dl
  have hln := hs.len
  have h1 : BOk (eP p mi out dr s.data) s.gs μ1 := ⟨hn1, hs.gi, hil, by omega⟩
  have hcb := zrq (eP p mi out dr s.data) hv.be false (nth p.takes k).wh s.gs μ1 h1 (DaOk.mk (by intro e; cases e) (by intro e; cases e) (by intro e; cases e)) (hv.k.tw k hlt).1 (by show s.gs.length + za0 (ctP p) _ ≤ _; omega)
  rw [zwj hv.be] at hcb
  obtain ⟨R, hR⟩ : ∃ R, R = zcp p s.data s.gs (nth p.takes k).wh := ⟨_, rfl⟩
  have hR2 : zcp (eP p mi out dr s.data).p (eP p mi out dr s.data).dat s.gs (nth p.takes k).wh = R := hR.symm
  rw [hR2] at hcb
  rw [← hR] at hst hsu
  have hRl := hst.b.len; have hRw := hst.b.wid
  have hu : NdB (mP p) R.1 (nth R.2 0) := hst.b.nd 0 (by decide)
  have htw := hv.k.ct.t k (by simpa [ctP] using hlt)
  rw [yas hlt] at htw
  have hz0 : (0 < (nth p.takes k).w) = True := by simp; omega
  have hwi : ∀ i, i < (nth p.takes k).w → (⟨2, (k : Int), (i : Int)⟩ : Wire) ∈ zfi p := fun i hi => in2 hlt hi
  refine zaj (hK6 _ _ ?_)
  refine zaa fun K7 hK7 => ?_
  refine zaf ?_
  refine szq hp (fun _ hZ => zh8 hZ) ?_
  refine zag hp zak hc rfl fun K9 hK9 => ?_
  refine zh8 ?_
  refine yf5 (bH (eP p mi out dr s.data) s.gs μ1) ([bP, zby 1, zhy s.takes, zby k, .cells (avs (ptS (nth p.takes k)))]) (hcb) ?_
  rintro _ _ ⟨μ2, hn2, rfl, rfl⟩
  refine ⟨rfl, ?_⟩
  have h2 : BOk (eP p mi out dr s.data) R.1 μ2 := ⟨hn2, hst.b.gi, hil, by omega⟩
  refine zh8 ?_
  refine hK9 _ _ ?_
  refine szq hp (fun _ hZ => zh8 hZ) ?_
  refine zat hp (τ' := frL [(1, .op 8 0), (2, .os 1 12 0 (k + 1)), (3, .d (.val (.slice none 0 0))), (4, .op 11 0), (5, .op 10 0), (6, .op 13 0), (7, .op 9 0), (15, .d (.fs (p.takes.flatMap ptC) p.takes.length)), (16, .d (iD p.takes.length)), (17, .d (iD k))]) (H' := bH (eP p mi out dr s.data) R.1 μ2 ++ [bP, zby (nth R.2 0), zby k, zby 1, zhy (s.takes ++ [nth R.2 0]), .cells (avs (ptS (nth p.takes k)))]) ?_ ?_
  ·refine jrk [0,1,2,3,4,5,6,7,8,13,11,9,15,12] ?_
   refine jrl ?_
   refine jyr ?_; simp [bH, bO, eP, bP, zby, zhy, avs, zar, iD, ptS]
  refine zkz zak hp hc mixed rfl [(0, []), (1, []), (2, []), (3, []), (4, []), (5, []), (6, []), (7, []), (8, []), (9, [0, 1, 4]), (10, []), (11, [0]), (12, []), (13, []), (14, [])] [[], [], [1], [1, 2], [1, 2, 3], [], [5], [5, 6], [], [5, 6, 7, 8], [5, 6, 7, 8, 9], [1, 2, 3, 4, 5, 6, 7, 8, 9, 10], [0, 1, 2, 3, 4, 5, 6, 7, 8, 9, 10, 11], [0, 1, 2, 3, 4, 5, 6, 7, 8, 9, 10, 11, 12], [0, 1, 2, 3, 4, 5, 6, 7, 8, 9, 10, 11, 12, 13]] 2 (by kernel_rfl) fun K11 hK11 => ?_
  refine jyp hz0 ?_
  refine zlu (S := bH (eP p mi out dr s.data) R.1 μ2 ++ [bP, zby (nth R.2 0), zby k]) (T := [zby 1, zhy (s.takes ++ [nth R.2 0]), .cells (avs (ptS (nth p.takes k))), .dead, .free]) (jk9 (eP p mi out dr s.data) R.1 μ2 (nth R.2 0) k (nth p.takes k).w h2 hv.m hwi hu (by omega) (by omega) (by omega)) rfl (Nat.le_of_ble_eq_true rfl) (by first | rfl | (simp [AV.allIs, AV.allI, zaq, zah, zai, okI, ltI, zad, zax, bH, bO, bP, eP, zby, zhy, ptS, pqS]; done) | (intro o ho; simp at ho; done)) (fun t => zbi (by first | rfl | (simp [AV.allIs, AV.allI, zaq, zah, zai, okI, ltI, zad, zax, bH, bO, bP, eP, zby, zhy, ptS, pqS]; done) | (intro o ho; simp at ho; done)) t) (fun t => zbi (by first | rfl | (simp [AV.allIs, AV.allI, zaq, zah, zai, okI, ltI, zad, zax, bH, bO, bP, eP, zby, zhy, ptS, pqS]; done) | (intro o ho; simp at ho; done)) t) (by first | rfl | (simp [AV.allIs, AV.allI, zaq, zah, zai, okI, ltI, zad, zax, bH, bO, bP, eP, zby, zhy, ptS, pqS]; done) | (intro o ho; simp at ho; done)) (by first | rfl | (simp [AV.allIs, AV.allI, zaq, zah, zai, okI, ltI, zad, zax, bH, bO, bP, eP, zby, zhy, ptS, pqS]; done) | (intro o ho; simp at ho; done)) (by first | rfl | (simp [AV.allIs, AV.allI, zaq, zah, zai, okI, ltI, zad, zax, bH, bO, bP, eP, zby, zhy, ptS, pqS]; done) | (intro o ho; simp at ho; done)) ?_
  rintro _ _ ⟨μ3, hn3, rfl, rfl⟩
  refine ⟨rfl, ?_⟩
  refine jyp hz0 ?_
  refine hK11 _ _ (hK7 _ _ ?_)
  refine za1 hp zak hc rfl fun K12 hK12 => ?_
  refine zh8 ?_
  refine hK12 _ _ ⟨_, _, _, ?_, ⟨k + 1, μ3, ⟨by omega, by rw [hsu]; exact hn3⟩, rfl, rfl, rfl⟩, ?_⟩
  ·first | omega | (simp only [List.length_cons]; omega) | (dsimp only; omega)
  ·refine jrk [0,1,2,3,4,5,6,16,8,11,12] ?_
   refine jrl ?_
   refine jyr ?_; rw [hsu]; simp [bH, bO, eP, bP, zby, zhy, avs, zar, iD, intsD, jaj, mE2, mP, wiN, inp]
 ·have hkk : k = p.takes.length := by simp at ht; omega
  subst hkk
  have hT := zis hv.k _ (Nat.le_refl _)
  have htk2 := zkk hv.k
  have hpk2 := zox hv.k
  refine zau (hK3 _ _ ?_)
  refine zaa fun K13 hK13 => ?_
  refine szq hp (fun _ hZ => zh8 hZ) ?_
  refine zaf ?_
  refine zan hp (fun τ' H' mm => ∃ (k : Nat) (μ1 : Mp), (k ≤ p.puts.length ∧ NdM (mP p) (zj2 p k).gs μ1) ∧ mm = p.puts.length - k ∧ H' = bH (eP p mi out dr (zbd p)) (zj2 p k).gs μ1 ++ [bP, zby 1, zhy (zei p), zhy (zj2 p k).puts] ∧ τ' = frL [(1, .op 8 0), (2, .os 1 10 0 p.takes.length), (3, .os 1 11 0 k), (4, .op 9 0), (51, .d (.fs (p.puts.flatMap pqC) p.puts.length)), (52, .d (iD p.puts.length)), (53, .d (iD k))]) (p.puts.length) ?_ ⟨0, μ1, ⟨Nat.zero_le _, hn1⟩, rfl, rfl, rfl⟩ ?_
  ·refine Rt.trans (Rt.nil 3 1 rfl) ?_
   refine jrk [0,1,2,3,4,5,6,7,8,9,10,11] ?_
   refine jrl ?_
   refine jyr ?_; simp [bH, bO, eP, zj2, bP, zby, zhy, avs, zar, iD, zei, zbd]
  rintro τ' H' mm ⟨k, μ1, ⟨hk2, hn4⟩, rfl, rfl, rfl⟩
  refine szq hp (fun _ hZ => zh8 hZ) ?_
  refine zaa fun K16 hK16 => ?_
  refine zal rfl (fun ht => ?_) (fun ht => ?_)
  ·have hlt : k < p.puts.length := by simp at ht; omega
   have hs := zj3 hv.k k hk2
   have hst := jv4 hv.k hlt hs
   have hsu : zj2 p (k + 1) = ⟨(zcp p (zbd p) (zj2 p k).gs (nth p.puts k).wh).1, (zj2 p k).puts ++ [nth (zcp p (zbd p) (zj2 p k).gs (nth p.puts k).wh).2 0]⟩ := rfl
   have hcl := jga (p := p) (show k + 1 ≤ p.puts.length by omega)
   rw [cQP] at hcl
   generalize zj2 p k = s at *
   have hql2 := hs.ql
   have hln := hs.len
   have h1 : BOk (eP p mi out dr (zbd p)) s.gs μ1 := ⟨hn4, hs.gi, hil, by omega⟩
   have hcb := zrq (eP p mi out dr (zbd p)) hv.be true (nth p.puts k).wh s.gs μ1 h1 (jp5 hv.k hs.pre) (hv.k.qw k hlt).1 (by show s.gs.length + za0 (ctP p) _ ≤ _; omega)
   rw [zwj hv.be] at hcb
   obtain ⟨R, hR⟩ : ∃ R, R = zcp p (zbd p) s.gs (nth p.puts k).wh := ⟨_, rfl⟩
   have hR2 : zcp (eP p mi out dr (zbd p)).p (eP p mi out dr (zbd p)).dat s.gs (nth p.puts k).wh = R := hR.symm
   rw [hR2] at hcb
   rw [← hR] at hst hsu
   have hRl := hst.len; have hRw := hst.wid
   refine zaj (hK16 _ _ ?_)
   refine zaa fun K17 hK17 => ?_
   refine zaf ?_
   refine szq hp (fun _ hZ => zh8 hZ) ?_
   refine za1 hp zak hc rfl fun K19 hK19 => ?_
   refine jyq ?_
   refine yf5 (bH (eP p mi out dr (zbd p)) s.gs μ1) ([bP, zby 1, zhy (zei p), zhy s.puts, .cells (avs (pqS (nth p.puts k)))]) (hcb) ?_
   rintro _ _ ⟨μ2, hn2, rfl, rfl⟩
   refine ⟨rfl, ?_⟩
   refine jyq ?_
   refine hK19 _ _ (hK17 _ _ ?_)
   refine za1 hp zak hc rfl fun K20 hK20 => ?_
   refine zh8 ?_
   refine hK20 _ _ ⟨_, _, _, ?_, ⟨k + 1, μ2, ⟨by omega, by rw [hsu]; exact hn2⟩, rfl, rfl, rfl⟩, ?_⟩
   ·first | omega | (simp only [List.length_cons]; omega) | (dsimp only; omega)
   ·refine jrk [0,1,2,3,4,5,6,7,8,9,10,14] ?_
    refine jrl ?_
    refine jyr ?_; rw [hsu]; simp [bH, bO, eP, bP, zby, zhy, avs, zar, iD, intsD]
  ·have hkk : k = p.puts.length := by simp at ht; omega
   subst hkk
   have hQ := zj3 hv.k _ (Nat.le_refl _)
   have hFT := zrh hv.k _ (Nat.le_refl p.takes.length)
   have hFQ := zjl hv.k _ (Nat.le_refl p.puts.length)
   have hcq := jga (p := p) (Nat.le_refl p.puts.length)
   have hcr := zz7 (p := p) (Nat.zero_le p.regs.length)
   rw [cRP] at hcr
   have hql := hQ.len; have hftl := hFT.len; have hfql := hFQ.len
   have h1 : BOk (eP p mi out dr (zbd p)) (zj2 p p.puts.length).gs μ1 := ⟨hn4, hQ.gi, hil, by omega⟩
   have c1 := jhf (eP p mi out dr (zbd p)) (zj2 p p.puts.length).gs μ1 3 1 (zei p) h1 hv.m (by decide) (by decide) ⟨by decide, by have := @mP2 p; show (1 : Int) < ((mP p : Nat) : Int) + _; omega⟩ (fun k hk => (hT.tn k (by omega)).pre hQ.pre) (fun k hk => in3 (by omega)) (by omega) (by omega)
   have e1 : zsb (mE2 (eP p mi out dr (zbd p))) (eP p mi out dr (zbd p)).ins 3 (zei p) ((zj2 p p.puts.length).gs, 1) (zei p).length = zgy p p.takes.length := by rw [htk2]; exact (jhg _).symm
   rw [e1] at c1
   rw [show intsD (zei p) = .fs ((zei p).map iD) p.takes.length by unfold intsD; rw [htk2]] at c1
   have c2 := fun μ2 (h2 : BOk (eP p mi out dr (zbd p)) (zgy p p.takes.length).1 μ2) => jhf (eP p mi out dr (zbd p)) (zgy p p.takes.length).1 μ2 4 (zgy p p.takes.length).2 (zea p) h2 hv.m (by decide) (by decide) hFT.nd (fun k hk => (hQ.qn k (by omega)).pre hFT.pre) (fun k hk => in4 (by omega)) (by omega) (by omega)
   have e2 : zsb (mE2 (eP p mi out dr (zbd p))) (eP p mi out dr (zbd p)).ins 4 (zea p) ((zgy p p.takes.length).1, (zgy p p.takes.length).2) (zea p).length = zh3 p p.puts.length := by rw [hpk2]; exact (jhh _).symm
   rw [e2] at c2
   rw [show intsD (zea p) = .fs ((zea p).map iD) p.puts.length by unfold intsD; rw [hpk2]] at c2
   have hdq : (zj2 p p.puts.length).puts = zea p := rfl
   rw [hdq]
   refine zau (hK13 _ _ ?_)
   refine zag hp zak hc rfl fun K21 hK21 => ?_
   simp -dsimp -implicitDefEqProofs (disch := first | assumption | omega | (simp only [r_z, zab, zac, zbb, zbc] <;> omega) | decide) only [r_r, ↓reduceIte, Nat.reduceEqDiff, Nat.reduceAdd, D.fix, Int.reduceToNat, Nat.reduceMul, Nat.reduceBNe, Nat.reduceBEq, r_m, bH, bO, zar, zav, bP, List.cons_append, List.nil_append, eP, zby, zhy, zfv, zwa, ptS, zc9, zot, pqS, nS]
   refine hK21 _ _ ?_
   refine zat hp (τ' := frL [(2, .d (.fs ((zei p).map iD) p.takes.length)), (3, .d (.fs ((zea p).map iD) p.puts.length)), (4, .op 9 0), (10, .clo (.func 121) [] [.op 8 0, .op 9 0])]) (H' := bH (eP p mi out dr (zbd p)) (zj2 p p.puts.length).gs μ1 ++ [bP, zby 1]) ?_ ?_
   ·refine Rt.trans (Rt.fz (id := 10) (l := ((zei p).map iD)) rfl) ?_
    refine Rt.trans (Rt.slot 2 (zf9 (zbf (by simp [htk2])))) ?_
    refine Rt.trans (Rt.heap (H' := bH (eP p mi out dr (zbd p)) (zj2 p p.puts.length).gs μ1 ++ [bP, zby 1, .dead, zhy (zea p)]) (by simp only [r_g, Nat.reduceAdd, ↓reduceIte, Nat.reduceEqDiff, r_m, bH, bO, zar, zav, bP, List.cons_append, List.nil_append, eP, zby, zhy, zfv, zwa, ptS, zc9, zot, pqS, nS]; first | done | rfl)) ?_
    refine Rt.trans (Rt.fz (id := 11) (l := ((zea p).map iD)) rfl) ?_
    refine Rt.trans (Rt.slot 3 (zf9 (zbf (by simp [hpk2])))) ?_
    refine jrk [0,1,2,3,4,5,6,7,8,9] ?_
    refine jrl ?_
    exact yf7
   refine zag hp zak hc rfl fun K22 hK22 => ?_
   refine zh8 ?_
   refine yf6 (bH (eP p mi out dr (zbd p)) (zj2 p p.puts.length).gs μ1 ++ [bP, zby 1]) ([]) (c1) ?_
   rintro _ _ ⟨μ2, hn2, rfl, rfl⟩
   refine ⟨rfl, ?_⟩
   have h2 : BOk (eP p mi out dr (zbd p)) (zgy p p.takes.length).1 μ2 := ⟨hn2, hFT.gi, hil, by omega⟩
   refine zh8 ?_
   refine hK22 _ _ ?_
   refine zag hp zak hc rfl fun K23 hK23 => ?_
   refine zh8 ?_
   refine yf6 (bH (eP p mi out dr (zbd p)) (zgy p p.takes.length).1 μ2 ++ [bP, zby (zgy p p.takes.length).2]) ([]) (c2 μ2 h2) ?_
   rintro _ _ ⟨μ3, hn3, rfl, rfl⟩
   refine ⟨rfl, ?_⟩
   refine zh8 ?_
   refine hK23 _ _ ?_
   refine za5 zak hc mixed rfl (q := 0) (by kernel_rfl) (by kernel_rfl) fun K24 hK24 => ?_
   refine zh8 ?_
   refine hK24 _ _ ?_
   refine zat hp (τ' := frL [(2, .d (.fs ((zei p).map iD) p.takes.length)), (3, .d (.fs ((zea p).map iD) p.puts.length)), (4, .op 8 0)]) (H' := bH (eP p mi out dr (zbd p)) (zh3 p p.puts.length).1 μ3 ++ [zby (zh3 p p.puts.length).2]) ?_ ?_
   ·refine jrk [0,1,2,3,4,5,6,7,9] ?_
    refine jrl ?_
    exact yf7
   refine zam ?_
   try dsimp only [zco, za8]
   refine zl1 rfl ?_
   refine zmk ?_
   refine zmk ?_
   refine jxe ?_
   simp -dsimp -implicitDefEqProofs (disch := first | assumption | omega | (simp only [r_z, zab, zac, zbb, zbc] <;> omega) | decide) only [r_r, ↓reduceIte, Nat.reduceEqDiff, Nat.reduceAdd, D.fix, Int.reduceToNat, Nat.reduceMul, Nat.reduceBNe, Nat.reduceBEq, r_m, bH, bO, zar, zav, bP, List.cons_append, List.nil_append, eP, zby, zhy, zfv, zwa, ptS, zc9, zot, pqS, nS, zew, zex]
   show ∃ _, _
   refine ⟨μ3, hn3, ?_, rfl⟩
   unfold intsD; rw [htk2, hpk2]; rfl
end Go.Proofs.Ytapjobndmmkanaa
