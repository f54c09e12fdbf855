/- The reference's builder: outputs for registers and takes. -/
import Derived.Test.YtapjobndmmkanaaQr
import Derived.Test.YtapjobndmmkanaaWh
import Derived.Test.YtapjobndmmkanaaWj
set_option linter.unusedVariables false
set_option linter.unusedSimpArgs false
set_option maxRecDepth 100000
set_option maxHeartbeats 4000000
namespace Go.Proofs.Ytapjobndmmkanaa
open Go Go.RowKit
theorem jxu : ((((((type_of% @zq7) ∧ ((type_of% @zq8) ∧ (type_of% @zkt))) ∧ ((type_of% @zku) ∧ ((type_of% @zq9) ∧ (type_of% @jmz)))) ∧ (((type_of% @znu) ∧ ((type_of% @zem) ∧ (type_of% @zen))) ∧ ((type_of% @jm0) ∧ ((type_of% @zzw) ∧ (type_of% @zny))))) ∧ ((((type_of% @zgr) ∧ ((type_of% @zpq) ∧ (type_of% @zpr))) ∧ ((type_of% @zup) ∧ ((type_of% @zev) ∧ (type_of% @zew)))) ∧ (((type_of% @zi7) ∧ ((type_of% @znk) ∧ (type_of% @zd6))) ∧ (((type_of% @zel) ∧ (type_of% @zg2)) ∧ ((type_of% @zjr) ∧ (type_of% @ze0)))))) ∧ (((((type_of% @ze1) ∧ ((type_of% @zdc) ∧ (type_of% @zdd))) ∧ ((type_of% @zdh) ∧ ((type_of% @zmu) ∧ (type_of% @zfc)))) ∧ (((type_of% @zfd) ∧ ((type_of% @zfe) ∧ (type_of% @zje))) ∧ (((type_of% @zjf) ∧ (type_of% @zmt)) ∧ ((type_of% @zms) ∧ (type_of% @zi6))))) ∧ ((((type_of% @zn0) ∧ ((type_of% @zfp) ∧ (type_of% @zfq))) ∧ ((type_of% @zmd) ∧ ((type_of% @zgd) ∧ (type_of% @zge)))) ∧ (((type_of% @zgf) ∧ ((type_of% @zmc) ∧ (type_of% @zgs))) ∧ (((type_of% @zpu) ∧ (type_of% @zpv)) ∧ ((type_of% @zpw) ∧ (type_of% @znv))))))) := ⟨⟨⟨⟨⟨@zq7, ⟨@zq8, @zkt⟩⟩, ⟨@zku, ⟨@zq9, @jmz⟩⟩⟩, ⟨⟨@znu, ⟨@zem, @zen⟩⟩, ⟨@jm0, ⟨@zzw, @zny⟩⟩⟩⟩, ⟨⟨⟨@zgr, ⟨@zpq, @zpr⟩⟩, ⟨@zup, ⟨@zev, @zew⟩⟩⟩, ⟨⟨@zi7, ⟨@znk, @zd6⟩⟩, ⟨⟨@zel, @zg2⟩, ⟨@zjr, @ze0⟩⟩⟩⟩⟩, ⟨⟨⟨⟨@ze1, ⟨@zdc, @zdd⟩⟩, ⟨@zdh, ⟨@zmu, @zfc⟩⟩⟩, ⟨⟨@zfd, ⟨@zfe, @zje⟩⟩, ⟨⟨@zjf, @zmt⟩, ⟨@zms, @zi6⟩⟩⟩⟩, ⟨⟨⟨@zn0, ⟨@zfp, @zfq⟩⟩, ⟨@zmd, ⟨@zgd, @zge⟩⟩⟩, ⟨⟨@zgf, ⟨@zmc, @zgs⟩⟩, ⟨⟨@zpu, @zpv⟩, ⟨@zpw, @znv⟩⟩⟩⟩⟩⟩
def zea (p : Pr) (s : Os) : List AV := [.d (iD (zbl p).length), .d (zaj s.gs), .os 3 0 0 s.out.length, .os 1 1 0 s.out.length]
def jxv (p : Pr) (x : AV) (S' : zad) : Prop := ∃ z, x = zk2 (zbl p).length (zdq p p.takes.length).gs 0 1 (zdq p p.takes.length).out.length ∧ S' = [.cells (avs ((zdq p p.takes.length).out.flatMap za6)), .cells (avs ((zdq p p.takes.length).dr.map iD)), .cells z]
theorem zvj {p : Pr} (h : PrOk p) {n : Nat} {s : Os} (hs : OsOk p n s) : s.dr.length = s.out.length := hs.ol.symm
theorem zs4 {p : Pr} (h : PrOk p) : ∀ i, i ≤ p.regs.length → (zdx p i).out.length ≤ 8 * i
 | 0, _ => by simp [zdx]
 | i + 1, hi => by
  have ih := zs4 h i (by omega)
  have hs := (zu6 h (show i < p.regs.length by omega) (zlx h i (by omega))).b.wid
  have := jkp h (i := i) (by omega)
  rw [zdx]; simp only [List.length_append, za9, hs]; omega
theorem zs5 {p : Pr} (h : PrOk p) : ∀ i, i ≤ p.takes.length → (zdq p i).out.length ≤ 800 + i
 | 0, _ => by have := zs4 h _ (Nat.le_refl _); have := h.rl; rw [zdq]; omega
 | i + 1, hi => by
  have ih := zs5 h i (by omega)
  rw [zdq]; simp only [List.length_append, List.length_cons, List.length_nil]; omega
theorem zl0 {p q : Prop} (hq : q) (h : p = q := by
 conv => lhs; simp -dsimp -implicitDefEqProofs (disch := first | assumption | omega | (simp only [r_z, zab, za9] <;> omega) | decide) only [r_r, ↓reduceIte, Nat.reduceEqDiff, Nat.reduceAdd, D.fix, Int.reduceToNat, Nat.reduceMul, Nat.reduceBNe, Nat.reduceBEq, zea, zk2, zhq, zds, zcz, intssD, intsD, zbp, sD, zc0, zc7, zf1, zcl, zaj, zao, zrh, za6, jxu]) : p := h.mpr hq
theorem jqr {p q : Prop} (hq : q) (h : p = q := by
 conv => lhs; simp -dsimp -implicitDefEqProofs (disch := first | assumption | omega | (simp only [r_z, zab, za9] <;> omega) | decide) only [r_r, ↓reduceIte, Nat.reduceEqDiff, Nat.reduceAdd, D.fix, Int.reduceToNat, Nat.reduceMul, Nat.reduceBNe, Nat.reduceBEq, zea, zk2, zhq, zds, zcz, intssD, intsD, zbp, sD, zc0, zc7, zf1, zcl, zaj, zao, zrh, za6]) : p := h.mpr hq
theorem jxw (k : List Nat) {m : List Nat} {τ τ1 : Fr} {H H1 : zad} (h : Rt m (fun t => gcV k (τ t)) (gcH k H) τ1 H1) (a : ∀ i ∈ m, k[i]? = some i := by decide) (b : k.Nodup := by decide) (c : ∀ i ∈ k, i < H.length := by
 simp [fzH, gcH]) : Rt m τ H τ1 H1 := Rt.trans (Rt.gc a b c) h
theorem jqs {m : List Nat} {τ τ' : Fr} {H H' : zad} (h2 : H = H') (h : zgu τ τ' := by
 repeat (first | exact zar _ | refine zam ?_ (by first | rfl | (simp [r_f, zab, za9]; done) | simp [r_f, zab, za9, *]))) : Rt m τ H τ' H' := Rt.end h h2
theorem zwz {p q r : Prop} (e : r) (hq : q) (h : r → p = q := by
 intro hY
 conv => lhs; simp -dsimp -implicitDefEqProofs (disch := first | assumption | omega | (simp only [r_z, zab, za9] <;> omega) | decide) only [r_r, ↓reduceIte, Nat.reduceEqDiff, Nat.reduceAdd, D.fix, Int.reduceToNat, Nat.reduceMul, Nat.reduceBNe, Nat.reduceBEq, r_w, zea, zk2, zhq, zds, zcz, intssD, intsD, zbp, sD, zc0, zc7, zf1, zcl, zaj, zao, zrh, za6, jxu, hY]) : p := (h e).mpr hq
theorem yb6 {P : Program} {sm : List Nat} {N : Nat} {τ0 τ : Fr} {H : zad} {f : FuncId} {args : List AV} {K0 KK : AV → zad → Prop} {ks : List Nat} (S T : zad) (h : ScS P ks f args S K0) (hK : ∀ x S', K0 x S' → S'.length = S.length ∧ KK x (S' ++ T)) (hH : H = S ++ T := by
 rfl) (hN : S.length ≤ N := by
 exact Nat.le_of_ble_eq_true rfl) (hm : sm.all (okI ks S.length) = true := by
 first | rfl | (simp [AV.allIs, AV.allI, zbi, za3, za4, okI, ltI, zat, zb2, zhq, zba, zea]; done) | (intro o ho; simp at ho; done)) (hτ : ∀ t, (τ t).allI (okI ks S.length) = true := by
 exact fun t => zc8 (by first | rfl | (simp [AV.allIs, AV.allI, zbi, za3, za4, okI, ltI, zat, zb2, zhq, zba, zea]; done) | (intro o ho; simp at ho; done)) t) (h0 : ∀ t, (τ0 t).allI (okI ks S.length) = true := by
 exact fun t => zc8 (by first | rfl | (simp [AV.allIs, AV.allI, zbi, za3, za4, okI, ltI, zat, zb2, zhq, zba, zea]; done) | (intro o ho; simp at ho; done)) t) (ha : AV.allIs (ltI S.length) args = true := by
 first | rfl | (simp [AV.allIs, AV.allI, zbi, za3, za4, okI, ltI, zat, zb2, zhq, zba, zea]; done) | (intro o ho; simp at ho; done)) (hS : ∀ o ∈ S, o.allI (ltI S.length) = true := by
 first | rfl | (simp [AV.allIs, AV.allI, zbi, za3, za4, okI, ltI, zat, zb2, zhq, zba, zea]; done) | (intro o ho; simp at ho; done)) (hT : ∀ o ∈ T, o.allI (okI ks S.length) = true := by
 first | rfl | (simp [AV.allIs, AV.allI, zbi, za3, za4, okI, ltI, zat, zb2, zhq, zba, zea]; done) | (intro o ho; simp at ho; done)) : kE P sm N τ0 τ H (.d (.val (.func (.func f) #[] #[]))) args (tg KK) := jba h hH hN hm hτ h0 ha hS hT hK
theorem jyq {p q : Prop} (hq : q) (h : p = q := by
 conv => lhs; simp only [r_g, Nat.reduceAdd, ↓reduceIte, Nat.reduceEqDiff, zea, zk2, zhq, zds, zcz, intssD, intsD, zbp, sD, zc0, zc7, zf1, zcl, zaj, zao, zrh, za6]) : p := h.mpr hq
theorem jqt (p : Pr) (h : PrOk p) (hn : (zbl p).length ≤ 1000) : ScS Try.prog [] 77 [.agg ((zds p (zcb p)).map .d), .agg ((zcz p).map .d)] ([.free, .free, .free]) (jxv p) := by
 refine zeo (fn := Try.f77) (by kernel_rfl) Try.func77 rfl (Nat.le_of_ble_eq_true rfl) fun c hc hp => ?_
 refine zwe ?_
 have hrl := h.rl; have htl := h.tl; have hql := h.ql; have hcl := h.cl
 have hm : mP p = 2 + (zbl p).length := rfl
 refine szq hp (fun _ hZ => zl0 hZ) ?_
 refine szq hp (fun _ hZ => zl0 hZ) ?_
 refine zaa fun K3 hK3 => ?_
 refine szq hp (fun _ hZ => jqr hZ) ?_
 refine zac ?_
 refine zan hp (fun τ' H' mm => ∃ (i : Nat), (i ≤ p.regs.length) ∧ mm = p.regs.length - i ∧ H' = [.cells (avs ((zdx p i).out.flatMap za6)), .cells (avs ((zdx p i).dr.map iD)), .free, .free, .free, .cells (avs (zds p (zcb p))), .cells (avs (zcz p)), zhq, .cells (zea p (zdx p i))] ∧ τ' = frL [(2, .op 5 0), (3, .op 6 0), (4, .op 7 0), (5, .op 8 0), (6, .d (iD i))]) (p.regs.length) ?_ ⟨0, Nat.zero_le _, rfl, rfl, rfl⟩ ?_
 ·refine Rt.trans (Rt.nilc 6 2 3 rfl rfl) ?_
  refine Rt.trans (Rt.nilc 6 3 1 rfl rfl) ?_
  refine jxw [7,8,0,1,2,3,4,5,6] ?_
  refine jqs ?_
  rfl
 rintro τ' H' mm ⟨i, hi, rfl, rfl, rfl⟩
 refine zaa fun K5 hK5 => ?_
 refine szq hp (fun _ hZ => zl0 hZ) ?_
 refine zah rfl (fun ht => ?_) (fun ht => ?_)
 ·have hlt : i < p.regs.length := by simp at ht; omega
  have ho := zlx h i hi
  have hci := jnl (p := p) (k := i + 1) (by omega)
  rw [cRP] at hci
  have hle := ho.len
  have hs := zu6 h hlt ho
  obtain ⟨hs1, hs2⟩ := hs
  have hwt := h.rn i hlt
  have hb := zkb p h true (zcb p) hn (nth p.regs i).next (zdx p i).gs ho.gi (by omega) (zwq h (ho.tp h)) hwt.1
  obtain ⟨r, hr⟩ : ∃ r, r = zci p (zcb p) (zdx p i).gs (nth p.regs i).next := ⟨_, rfl⟩
  rw [← hr] at hb hs1 hs2
  have hrw := hs1.wid
  have hw8 := jkp h hlt
  obtain ⟨st, hst⟩ : ∃ st : Gs → Nat → Re, st = fun gs k => ztb (mP p) gs (zf3 p) (nth r.2 k) (inp p 1 i k) := ⟨_, rfl⟩
  have hbs : ∀ k, k ≤ (nth p.regs i).w → Bs (mP p) (2 * k) k r.1 (zbh st r.1 k) := fun k hk => by
   rw [hst]
   exact zda hs1.gi fun j hj gs' hp' hg' => jaf mP2 hg' (ho.fire h (hs1.pre.trans hp')) (hs1.at hp' (by omega)) (zij (in1 hlt (by omega)) _)
  have eS : zdx p (i + 1) = ⟨(zbh st r.1 (nth p.regs i).w).1, (zdx p i).out ++ zji 1 i (nth p.regs i).w, (zdx p i).dr ++ (zbh st r.1 (nth p.regs i).w).2⟩ := by rw [zdx, ← hr, ← hst, hrw]
  have hl1 := hs1.len
  have hol := zvj h ho
  obtain ⟨O, hO⟩ : ∃ O : Nat → Os, O = fun k => ⟨(zbh st r.1 k).1, (zdx p i).out ++ zji 1 i k, (zdx p i).dr ++ (zbh st r.1 k).2⟩ := ⟨_, rfl⟩
  have hO0 : O 0 = ⟨r.1, (zdx p i).out, (zdx p i).dr⟩ := by rw [hO]; simp [zbh, zji]
  have hOw : zdx p (i + 1) = O (nth p.regs i).w := by rw [hO, eS]
  have hOs : ∀ k, O (k + 1) = ⟨(st (O k).gs k).1, (O k).out ++ [⟨1, i, k⟩], (O k).dr ++ [(st (O k).gs k).2]⟩ := fun k => by rw [hO]; simp [zbh, zi9]
  have hOl : ∀ k, k ≤ (nth p.regs i).w → (O k).dr.length = (O k).out.length ∧ (O k).out.length = (zdx p i).out.length + k := fun k hk => by
   have := (hbs k hk).wid
   rw [hO]; simp [this, za9, hol]
  have hOb : ∀ k, k ≤ (nth p.regs i).w → r.1 <+: (O k).gs ∧ GI (mP p) (O k).gs ∧ (O k).gs.length ≤ r.1.length + 2 * k := fun k hk => by
   have := hbs k hk
   rw [hO]; exact ⟨this.pre, this.gi, this.len⟩
  have hout : (zdx p i).out.length ≤ 8 * i := zs4 h i hi
  clear hr eS hO
  refine zaf (hK5 _ _ ?_)
  refine zaa fun K7 hK7 => ?_
  refine zac ?_
  refine zas zai hc za8 rfl (q := 1) (by kernel_rfl) (by kernel_rfl) fun K8 hK8 => ?_
  refine zl0 ?_
  refine za1 (hb) rfl ?_
  refine zl0 ?_
  refine hK8 _ _ ?_
  refine szq hp (fun _ hZ => zl0 hZ) ?_
  refine szq hp (fun _ hZ => jqr hZ) ?_
  refine zac ?_
  refine zan hp (fun τ' H' mm => ∃ (k : Nat), (k ≤ (nth p.regs i).w) ∧ mm = (nth p.regs i).w - k ∧ H' = [.cells (avs ((O k).out.flatMap za6)), .cells (avs ((O k).dr.map iD)), .free, .free, .free, .cells (avs (zds p (zcb p))), .cells (avs (zcz p)), zhq, .cells (zea p (O k)), .cells (avs (zcl (zbl p).length r))] ∧ τ' = frL [(2, .op 5 0), (3, .op 6 0), (4, .op 7 0), (5, .op 8 0), (6, .d (iD i)), (7, .op 9 0), (8, .d (iD k))]) ((nth p.regs i).w) ?_ ⟨0, Nat.zero_le _, rfl, rfl, rfl⟩ ?_
  ·refine jqs ?_
   refine jyq ?_; simp [hO0, zea, zcl, zds, zcz, intssD, intsD, zbp, sD, iD, avs, zaj, zao]
  rintro τ' H' mm ⟨k, hk1, rfl, rfl, rfl⟩
  refine zaa fun K11 hK11 => ?_
  refine szq hp (fun _ hZ => zl0 hZ) ?_
  refine zah rfl (fun ht => ?_) (fun ht => ?_)
  ·have hlk : k < (nth p.regs i).w := by simp at ht; omega
   obtain ⟨b1, b2, b3⟩ := hOb k hk1
   obtain ⟨l1, l2⟩ := hOl k hk1
   have hin := in1 hlt hlk
   have hwire := zpa (zbl p) ⟨1, (i : Int), (k : Int)⟩ (by omega) hin
   have hidx := (zhg hin).1
   have e2 : (2 : Int) + ((jce ⟨1, (i : Int), (k : Int)⟩ (zbl p) : Nat) : Int) = inp p 1 i k := by unfold inp; omega
   have g0 : (r.2.map iD)[k]? = some (iD (nth r.2 k)) := zay (by omega)
   have hmux := jno (zbl p).length (O k).gs (zf3 p) (nth r.2 k) (inp p 1 i k) (by omega) (by omega) b2 (ho.fire h (hs1.pre.trans b1)) (hs1.at b1 (by omega)) (zij hin _)
   rw [← hm, show ztb (mP p) (O k).gs (zf3 p) (nth r.2 k) (inp p 1 i k) = st (O k).gs k by rw [hst]] at hmux
   have hwith := jaq (zbl p).length (O k).gs (O k).out (O k).dr ⟨1, (i : Int), (k : Int)⟩ (st (O k).gs k) l1 (by omega)
   have eo := hOs k
   clear hst
   refine zaf (hK11 _ _ ?_)
   refine zaa fun K13 hK13 => ?_
   refine zac ?_
   refine szq hp (fun _ hZ => zl0 hZ) ?_
   refine zl7 zai hp hc za8 rfl [(0, []), (1, []), (2, []), (3, []), (4, []), (5, []), (6, []), (7, []), (8, []), (9, []), (10, []), (11, []), (12, []), (13, []), (14, [0, 1, 3, 5, 7, 10]), (15, []), (16, []), (17, [0, 1]), (18, []), (19, [])] [[], [], [], [2], [], [4], [], [6], [], [6, 7, 8], [6, 7, 8, 9], [], [11], [], [11, 12, 13], [11, 12, 13, 14], [4, 5, 6, 7, 8, 9, 10, 11, 12, 13, 14, 15], [2, 3, 4, 5, 6, 7, 8, 9, 10, 11, 12, 13, 14, 15, 16], [0, 1, 2, 3, 4, 5, 6, 7, 8, 9, 10, 11, 12, 13, 14, 15, 16, 17], [0, 1, 2, 3, 4, 5, 6, 7, 8, 9, 10, 11, 12, 13, 14, 15, 16, 17, 18]] 0 (by kernel_rfl) fun K15 hK15 => ?_
   refine zwz (sza g0 e2) ?_
   refine zj4 (hwire) rfl ?_
   refine zwz (sza g0 e2) ?_
   refine zj4 (hmux) rfl ?_
   refine zwz (sza g0 e2) ?_
   refine yb6 ([.cells (avs ((O k).out.flatMap za6)), .cells (avs ((O k).dr.map iD)), .free, .free, .free]) ([.cells (avs (zds p (zcb p))), .cells (avs (zcz p)), zhq, .cells (zea p (O k)), .cells (avs (zcl (zbl p).length r)), .cells (avs (za6 ⟨1, (i : Int), (k : Int)⟩))]) (hwith) ?_
   rintro _ _ ⟨a, b, z, rfl, rfl⟩
   refine ⟨rfl, ?_⟩
   refine zwz (sza g0 e2) ?_
   refine hK15 _ _ (hK13 _ _ ?_)
   refine za5 hp zai hc rfl fun K16 hK16 => ?_
   refine zl0 ?_
   refine hK16 _ _ ⟨_, _, _, ?_, ⟨k + 1, by omega, rfl, rfl, rfl⟩, ?_⟩
   ·first | omega | (simp only [List.length_cons]; omega) | (dsimp only; omega)
   ·refine Rt.trans (Rt.fr9) ?_
    refine jxw [2,3,11,12,13,5,6,7,8,9] ?_
    refine jqs ?_
    refine jyq ?_; simp [eo, iD, zea]
  ·have hkk : k = (nth p.regs i).w := by simp at ht; omega
   subst hkk
   refine zau (hK7 _ _ ?_)
   refine za5 hp zai hc rfl fun K17 hK17 => ?_
   refine zl0 ?_
   refine hK17 _ _ ⟨_, _, _, ?_, ⟨i + 1, by omega, rfl, rfl, rfl⟩, ?_⟩
   ·first | omega | (simp only [List.length_cons]; omega) | (dsimp only; omega)
   ·refine jxw [0,1,2,3,4,5,6,7,8] ?_
    refine jqs ?_
    refine jyq ?_; rw [hOw]; rfl
 ·have hii : i = p.regs.length := by simp at ht; omega
  subst hii
  refine zau (hK3 _ _ ?_)
  refine zaa fun K18 hK18 => ?_
  refine szq hp (fun _ hZ => jqr hZ) ?_
  refine zac ?_
  refine zan hp (fun τ' H' mm => ∃ (i : Nat), (i ≤ p.takes.length) ∧ mm = p.takes.length - i ∧ H' = [.cells (avs ((zdq p i).out.flatMap za6)), .cells (avs ((zdq p i).dr.map iD)), .free, .free, .free, .cells (avs (zds p (zcb p))), .cells (avs (zcz p)), zhq, .cells (zea p (zdq p i))] ∧ τ' = frL [(2, .op 5 0), (3, .op 6 0), (4, .op 7 0), (5, .op 8 0), (10, .d (iD i))]) (p.takes.length) ?_ ⟨0, Nat.zero_le _, rfl, rfl, rfl⟩ ?_
  ·refine jqs ?_
   rfl
  rintro τ' H' mm ⟨i, hi, rfl, rfl, rfl⟩
  refine zaa fun K20 hK20 => ?_
  refine szq hp (fun _ hZ => zl0 hZ) ?_
  refine zah rfl (fun ht => ?_) (fun ht => ?_)
  ·have hlt : i < p.takes.length := by simp at ht; omega
   have ho := zwr h i hi
   have hol := zvj h ho
   have hle := ho.len
   have hci := jgk (p := p) (k := 0) (by omega)
   rw [cUP] at hci
   have hpo := zs5 h i hi
   have g0 : ((zhh p).map iD)[i]? = some (iD (nth (zhh p) i)) := zay (by rw [show zhh p = (zcx p p.takes.length).takes from rfl, (zhj h _ (Nat.le_refl _)).tl]; exact hlt)
   have gl : i < (zhh p).length := by rw [show zhh p = (zcx p p.takes.length).takes from rfl, (zhj h _ (Nat.le_refl _)).tl]; exact hlt
   have hand := zhp (zbl p).length (zdq p i).gs (zf3 p) (nth (zhh p) i) (by omega) (by omega) ho.gi (ho.fire h (List.prefix_refl _)) (ho.dueT h (List.prefix_refl _) hlt)
   obtain ⟨A, hA⟩ : ∃ A, A = zg4 (mP p) (zdq p i).gs (zf3 p) (nth (zhh p) i) := ⟨_, rfl⟩
   rw [← hm, ← hA] at hand
   have hwith := jaq (zbl p).length (zdq p i).gs (zdq p i).out (zdq p i).dr ⟨5, (i : Int), 0⟩ A hol (by omega)
   have eo : zdq p (i + 1) = ⟨A.1, (zdq p i).out ++ [⟨5, (i : Int), 0⟩], (zdq p i).dr ++ [A.2]⟩ := by rw [hA, zdq]
   clear hA
   refine zaf (hK20 _ _ ?_)
   refine zaa fun K22 hK22 => ?_
   refine zac ?_
   refine zl7 zai hp hc za8 rfl [(0, []), (1, []), (2, []), (3, []), (4, []), (5, []), (6, []), (7, []), (8, []), (9, []), (10, []), (11, []), (12, [0]), (13, []), (14, [])] [[], [], [1], [], [3], [], [5], [], [7], [], [7, 8, 9], [7, 8, 9, 10], [3, 4, 5, 6, 7, 8, 9, 10, 11], [0, 1, 2, 3, 4, 5, 6, 7, 8, 9, 10, 11, 12], [0, 1, 2, 3, 4, 5, 6, 7, 8, 9, 10, 11, 12, 13]] 0 (by kernel_rfl) fun K23 hK23 => ?_
   refine zwz g0 ?_
   refine zj4 (hand) rfl ?_
   refine zwz g0 ?_
   refine yb6 ([.cells (avs ((zdq p i).out.flatMap za6)), .cells (avs ((zdq p i).dr.map iD)), .free, .free, .free]) ([.cells (avs (zds p (zcb p))), .cells (avs (zcz p)), zhq, .cells (zea p (zdq p i))]) (hwith) ?_
   rintro _ _ ⟨a, b, z, rfl, rfl⟩
   refine ⟨rfl, ?_⟩
   refine zwz g0 ?_
   refine hK23 _ _ (hK22 _ _ ?_)
   refine za5 hp zai hc rfl fun K24 hK24 => ?_
   refine zl0 ?_
   refine hK24 _ _ ⟨_, _, _, ?_, ⟨i + 1, by omega, rfl, rfl, rfl⟩, ?_⟩
   ·first | omega | (simp only [List.length_cons]; omega) | (dsimp only; omega)
   ·refine Rt.trans (Rt.fr9) ?_
    refine jxw [2,3,9,10,11,5,6,7,8] ?_
    refine jqs ?_
    refine jyq ?_; simp [eo, iD, zea]
  ·have hii : i = p.takes.length := by simp at ht; omega
   subst hii
   refine zau (hK18 _ _ ?_)
   refine szq hp (fun _ hZ => zl0 hZ) ?_
   refine zbg hp (τ' := frL [(4, .op 2 0)]) (H' := [.cells (avs ((zdq p p.takes.length).out.flatMap za6)), .cells (avs ((zdq p p.takes.length).dr.map iD)), .cells (zea p (zdq p p.takes.length))]) ?_ ?_
   ·refine jxw [0,1,7] ?_
    refine jqs ?_
    first | rfl | (simp only [r_g, Nat.reduceAdd, ↓reduceIte, Nat.reduceEqDiff, zea, zk2, zhq, zds, zcz, intssD, intsD, zbp, sD, zc0, zc7, zf1, zcl, zaj, zao, zrh, za6]; first | done | rfl)
   refine zal ?_
   try dsimp only [zbm, zaq]
   refine zak rfl ?_
   simp -dsimp -implicitDefEqProofs (disch := first | assumption | omega | (simp only [r_z, zab, za9] <;> omega) | decide) only [r_r, ↓reduceIte, Nat.reduceEqDiff, Nat.reduceAdd, D.fix, Int.reduceToNat, Nat.reduceMul, Nat.reduceBNe, Nat.reduceBEq, zea, zk2, zhq, zds, zcz, intssD, intsD, zbp, sD, zc0, zc7, zf1, zcl, zaj, zao, zrh, za6, zkt, zku]
   show ∃ _, _
   exact ⟨_, by simp [zk2, iD, zaj], rfl⟩
end Go.Proofs.Ytapjobndmmkanaa
