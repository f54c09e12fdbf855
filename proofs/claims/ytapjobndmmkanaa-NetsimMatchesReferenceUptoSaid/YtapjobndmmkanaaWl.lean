/- The reference's builder: BuildIn. -/
import Derived.Test.YtapjobndmmkanaaQr
import Derived.Test.YtapjobndmmkanaaWk
import Derived.Test.YtapjobndmmkanaaOn
set_option linter.unusedVariables false
set_option linter.unusedSimpArgs false
set_option maxRecDepth 100000
set_option maxHeartbeats 4000000
namespace Go.Proofs.Ytapjobndmmkanaa
open Go Go.RowKit
theorem jqu : (((((((type_of% @zpz) ∧ (type_of% @zp0)) ∧ ((type_of% @jov) ∧ ((type_of% @jug) ∧ (type_of% @juf)))) ∧ (((type_of% @zfp) ∧ (type_of% @zfq)) ∧ ((type_of% @zuu) ∧ ((type_of% @zuv) ∧ (type_of% @zzq))))) ∧ ((((type_of% @znx) ∧ (type_of% @zht)) ∧ ((type_of% @zhu) ∧ ((type_of% @zzu) ∧ (type_of% @znz)))) ∧ (((type_of% @zn1) ∧ (type_of% @zn2)) ∧ ((type_of% @zq7) ∧ ((type_of% @zq8) ∧ (type_of% @jmy)))))) ∧ (((((type_of% @zzt) ∧ (type_of% @zkt)) ∧ ((type_of% @zku) ∧ ((type_of% @zq9) ∧ (type_of% @zgt)))) ∧ (((type_of% @zpx) ∧ (type_of% @zpy)) ∧ ((type_of% @zur) ∧ ((type_of% @zev) ∧ (type_of% @zew))))) ∧ ((((type_of% @zi7) ∧ (type_of% @zem)) ∧ ((type_of% @zen) ∧ ((type_of% @zi6) ∧ (type_of% @znw)))) ∧ (((type_of% @zdc) ∧ ((type_of% @zdd) ∧ (type_of% @zdh))) ∧ ((type_of% @zef) ∧ ((type_of% @zoz) ∧ (type_of% @zgg))))))) ∧ ((((((type_of% @zjp) ∧ (type_of% @zmu)) ∧ ((type_of% @zfc) ∧ ((type_of% @zfd) ∧ (type_of% @zfe)))) ∧ (((type_of% @zms) ∧ (type_of% @znr)) ∧ ((type_of% @zd6) ∧ ((type_of% @zel) ∧ (type_of% @zg2))))) ∧ ((((type_of% @zjr) ∧ (type_of% @ze0)) ∧ ((type_of% @ze1) ∧ ((type_of% @zdz) ∧ (type_of% @zid)))) ∧ (((type_of% @zps) ∧ (type_of% @zpt)) ∧ ((type_of% @zuq) ∧ ((type_of% @znm) ∧ (type_of% @znn)))))) ∧ (((((type_of% @znl) ∧ (type_of% @zjq)) ∧ ((type_of% @zey) ∧ ((type_of% @zez) ∧ (type_of% @zno)))) ∧ (((type_of% @znt) ∧ (type_of% @zmp)) ∧ ((type_of% @zmq) ∧ ((type_of% @zn3) ∧ (type_of% @zn4))))) ∧ ((((type_of% @jiv) ∧ (type_of% @zsg)) ∧ ((type_of% @je0) ∧ ((type_of% @je1) ∧ (type_of% @je2)))) ∧ (((type_of% @zhw) ∧ ((type_of% @zjb) ∧ (type_of% @zuo))) ∧ ((type_of% @jiu) ∧ ((type_of% @juh) ∧ (type_of% @jfb)))))))) := ⟨⟨⟨⟨⟨⟨@zpz, @zp0⟩, ⟨@jov, ⟨@jug, @juf⟩⟩⟩, ⟨⟨@zfp, @zfq⟩, ⟨@zuu, ⟨@zuv, @zzq⟩⟩⟩⟩, ⟨⟨⟨@znx, @zht⟩, ⟨@zhu, ⟨@zzu, @znz⟩⟩⟩, ⟨⟨@zn1, @zn2⟩, ⟨@zq7, ⟨@zq8, @jmy⟩⟩⟩⟩⟩, ⟨⟨⟨⟨@zzt, @zkt⟩, ⟨@zku, ⟨@zq9, @zgt⟩⟩⟩, ⟨⟨@zpx, @zpy⟩, ⟨@zur, ⟨@zev, @zew⟩⟩⟩⟩, ⟨⟨⟨@zi7, @zem⟩, ⟨@zen, ⟨@zi6, @znw⟩⟩⟩, ⟨⟨@zdc, ⟨@zdd, @zdh⟩⟩, ⟨@zef, ⟨@zoz, @zgg⟩⟩⟩⟩⟩⟩, ⟨⟨⟨⟨⟨@zjp, @zmu⟩, ⟨@zfc, ⟨@zfd, @zfe⟩⟩⟩, ⟨⟨@zms, @znr⟩, ⟨@zd6, ⟨@zel, @zg2⟩⟩⟩⟩, ⟨⟨⟨@zjr, @ze0⟩, ⟨@ze1, ⟨@zdz, @zid⟩⟩⟩, ⟨⟨@zps, @zpt⟩, ⟨@zuq, ⟨@znm, @znn⟩⟩⟩⟩⟩, ⟨⟨⟨⟨@znl, @zjq⟩, ⟨@zey, ⟨@zez, @zno⟩⟩⟩, ⟨⟨@znt, @zmp⟩, ⟨@zmq, ⟨@zn3, @zn4⟩⟩⟩⟩, ⟨⟨⟨@jiv, @zsg⟩, ⟨@je0, ⟨@je1, @je2⟩⟩⟩, ⟨⟨@zhw, ⟨@zjb, @zuo⟩⟩, ⟨@jiu, ⟨@juh, @jfb⟩⟩⟩⟩⟩⟩⟩
theorem zs6 {p : Pr} (h : PrOk p) : ∀ i, i ≤ p.puts.length → (zdl p i).out.length ≤ 900 + 9 * i
 | 0, _ => by have := zs5 h _ (Nat.le_refl _); have := h.tl; rw [zdl]; omega
 | i + 1, hi => by
  have ih := zs6 h i (by omega)
  have hs := (zu7 h (show i < p.puts.length by omega) (zly h i (by omega))).hb.wid
  have := (h.qb i (by omega)).2
  rw [zdl]; simp only [List.length_append, List.length_cons, List.length_nil, za9, hs]; omega
theorem jas {p : Pr} (h : PrOk p) : ∀ i, i ≤ p.mems.length → (zcm p i).out.length ≤ 1800 + 12 * i
 | 0, _ => by have := zs6 h _ (Nat.le_refl _); have := h.ql; rw [zcm]; omega
 | i + 1, hi => by
  have ih := jas h i (by omega)
  have hs := (zu8 h (show i < p.mems.length by omega) (zj9 h i (by omega)) rfl rfl rfl rfl).hw.wid
  have em : nth (ctP p).mems i = ((nth p.mems i).words, (nth p.mems i).w) := jpt (by omega)
  have hmm := h.ct.m i (by simp [ctP]; omega)
  rw [em] at hmm
  simp only at hmm
  rw [zcm]; simp only [List.length_append, List.length_cons, List.length_nil, za9, hs]; omega
theorem yal {l : List PMem} {k : Nat} (h : k < l.length) : zb7 (l.flatMap pmC) (k * 27 + 3) 7 = some (exC (nth l k).en) := by
 rw [zhn jxf h (by omega)]
 show some (((exC (nth l k).en) ++ _).take 7) = _
 rw [List.take_append_of_le_length (by rw [zfr]; omega), List.take_of_length_le (by rw [zfr]; omega)]
theorem yam {l : List PMem} {k : Nat} (h : k < l.length) : zb7 (l.flatMap pmC) (k * 27 + 10) 7 = some (exC (nth l k).ad) := by
 rw [zhn jxf h (by omega)]
 show some ((((exC (nth l k).en) ++ ((exC (nth l k).ad) ++ _)).drop 7).take 7) = _
 rw [List.drop_append_of_le_length (by rw [zfr]; omega), List.drop_of_length_le (by rw [zfr]; omega), List.nil_append, List.take_append_of_le_length (by rw [zfr]; omega), List.take_of_length_le (by rw [zfr]; omega)]
theorem yan {l : List PMem} {k : Nat} (h : k < l.length) : zb7 (l.flatMap pmC) (k * 27 + 17) 7 = some (exC (nth l k).da) := by
 rw [zhn jxf h (by omega)]
 show some ((((exC (nth l k).en) ++ ((exC (nth l k).ad) ++ ((exC (nth l k).da) ++ _))).drop 14).take 7) = _
 rw [← List.append_assoc, List.drop_append_of_le_length (by rw [List.length_append, zfr, zfr]; omega), List.drop_of_length_le (by rw [List.length_append, zfr, zfr]; omega), List.nil_append, List.take_append_of_le_length (by rw [zfr]; omega), List.take_of_length_le (by rw [zfr]; omega)]
def jat (p : Pr) : List D := zb1 (jrc p) ++ [iD 0]
theorem zes {p q : Prop} (hq : q) (h : p = q := by
 conv => lhs; simp -dsimp -implicitDefEqProofs (disch := first | assumption | omega | (simp only [r_z, zab, za9] <;> omega) | decide) only [r_r, ↓reduceIte, Nat.reduceEqDiff, Nat.reduceAdd, D.fix, Int.reduceToNat, Nat.reduceMul, Nat.reduceBNe, Nat.reduceBEq, zea, zk2, zhq, zds, zcz, intssD, intsD, zdi, zbp, sD, zc0, zc7, zf1, zcl, zaj, zao, zqb, za6, jqu]) : p := h.mpr hq
theorem jhj (k : List Nat) {m : List Nat} {τ τ1 : Fr} {H H1 : zad} (h : Rt m (fun t => gcV k (τ t)) (gcH k H) τ1 H1) (a : ∀ i ∈ m, k[i]? = some i := by decide) (b : k.Nodup := by decide) (c : ∀ i ∈ k, i < H.length := by
 simp [fzH, gcH]) : Rt m τ H τ1 H1 := Rt.trans (Rt.gc a b c) h
theorem zw0 {m : List Nat} {τ τ' : Fr} {H H' : zad} (h2 : H = H') (h : zgu τ τ' := by
 repeat (first | exact zar _ | refine zam ?_ (by first | rfl | (simp [r_f, zab, za9]; done) | simp [r_f, zab, za9, *]))) : Rt m τ H τ' H' := Rt.end h h2
theorem yb7 {P : Program} {sm : List Nat} {N : Nat} {τ : Fr} {H : zad} {f : FuncId} {args : List AV} {K0 KK : AV → zad → Prop} {ks : List Nat} (S T : zad) (h : ScS P ks f args S K0) (hK : ∀ x S', K0 x S' → S'.length = S.length ∧ KK x (S' ++ T)) (hH : H = S ++ T := by
 rfl) (hm : sm.all (okI ks S.length) = true := by
 first | rfl | (simp [AV.allIs, AV.allI, zbi, za3, za4, okI, ltI, zat, zb2, zhq, zba, zea]; done) | (intro o ho; simp at ho; done)) (hτ : ∀ t, (τ t).allI (okI ks S.length) = true := by
 exact fun t => zc8 (by first | rfl | (simp [AV.allIs, AV.allI, zbi, za3, za4, okI, ltI, zat, zb2, zhq, zba, zea]; done) | (intro o ho; simp at ho; done)) t) (ha : AV.allIs (ltI S.length) args = true := by
 first | rfl | (simp [AV.allIs, AV.allI, zbi, za3, za4, okI, ltI, zat, zb2, zhq, zba, zea]; done) | (intro o ho; simp at ho; done)) (hS : ∀ o ∈ S, o.allI (ltI S.length) = true := by
 first | rfl | (simp [AV.allIs, AV.allI, zbi, za3, za4, okI, ltI, zat, zb2, zhq, zba, zea]; done) | (intro o ho; simp at ho; done)) (hT : ∀ o ∈ T, o.allI (okI ks S.length) = true := by
 first | rfl | (simp [AV.allIs, AV.allI, zbi, za3, za4, okI, ltI, zat, zb2, zhq, zba, zea]; done) | (intro o ho; simp at ho; done)) : kC P sm N H τ (.d (.val (.func (.func f) #[] #[]))) args true (tg KK) := zwb h hH hm hτ ha hS hT hK
theorem jhk {p q : Prop} (hq : q) (h : p = q := by
 conv => lhs; simp -dsimp -implicitDefEqProofs (disch := first | assumption | omega | (simp only [r_z, zab, za9] <;> omega) | decide) only [r_r, ↓reduceIte, Nat.reduceEqDiff, Nat.reduceAdd, D.fix, Int.reduceToNat, Nat.reduceMul, Nat.reduceBNe, Nat.reduceBEq, zea, zk2, zhq, zds, zcz, intssD, intsD, zdi, zbp, sD, zc0, zc7, zf1, zcl, zaj, zao, zqb, za6]) : p := h.mpr hq
theorem zqc {p q r : Prop} (e : r) (hq : q) (h : r → p = q := by
 intro hY
 conv => lhs; simp -dsimp -implicitDefEqProofs (disch := first | assumption | omega | (simp only [r_z, zab, za9] <;> omega) | decide) only [r_r, ↓reduceIte, Nat.reduceEqDiff, Nat.reduceAdd, D.fix, Int.reduceToNat, Nat.reduceMul, Nat.reduceBNe, Nat.reduceBEq, zea, zk2, zhq, zds, zcz, intssD, intsD, zdi, zbp, sD, zc0, zc7, zf1, zcl, zaj, zao, zqb, za6, jqu, hY]) : p := (h e).mpr hq
theorem zqd {p q r : Prop} (e : r) (hq : q) (h : r → p = q := by
 intro hY
 conv => lhs; simp -dsimp -implicitDefEqProofs (disch := first | assumption | omega | (simp only [r_z, zab, za9] <;> omega) | decide) only [r_r, ↓reduceIte, Nat.reduceEqDiff, Nat.reduceAdd, D.fix, Int.reduceToNat, Nat.reduceMul, Nat.reduceBNe, Nat.reduceBEq, r_w, zea, zk2, zhq, zds, zcz, intssD, intsD, zdi, zbp, sD, zc0, zc7, zf1, zcl, zaj, zao, zqb, za6, jqu, hY]) : p := (h e).mpr hq
theorem jyr {P : Program} {sm : List Nat} {N : Nat} {τ0 τ : Fr} {H : zad} {f : FuncId} {args : List AV} {K0 KK : AV → zad → Prop} {ks : List Nat} (S T : zad) (h : ScS P ks f args S K0) (hK : ∀ x S', K0 x S' → S'.length = S.length ∧ KK x (S' ++ T)) (hH : H = S ++ T := by
 rfl) (hN : S.length ≤ N := by
 exact Nat.le_of_ble_eq_true rfl) (hm : sm.all (okI ks S.length) = true := by
 first | rfl | (simp [AV.allIs, AV.allI, zbi, za3, za4, okI, ltI, zat, zb2, zhq, zba, zea]; done) | (intro o ho; simp at ho; done)) (hτ : ∀ t, (τ t).allI (okI ks S.length) = true := by
 exact fun t => zc8 (by first | rfl | (simp [AV.allIs, AV.allI, zbi, za3, za4, okI, ltI, zat, zb2, zhq, zba, zea]; done) | (intro o ho; simp at ho; done)) t) (h0 : ∀ t, (τ0 t).allI (okI ks S.length) = true := by
 exact fun t => zc8 (by first | rfl | (simp [AV.allIs, AV.allI, zbi, za3, za4, okI, ltI, zat, zb2, zhq, zba, zea]; done) | (intro o ho; simp at ho; done)) t) (ha : AV.allIs (ltI S.length) args = true := by
 first | rfl | (simp [AV.allIs, AV.allI, zbi, za3, za4, okI, ltI, zat, zb2, zhq, zba, zea]; done) | (intro o ho; simp at ho; done)) (hS : ∀ o ∈ S, o.allI (ltI S.length) = true := by
 first | rfl | (simp [AV.allIs, AV.allI, zbi, za3, za4, okI, ltI, zat, zb2, zhq, zba, zea]; done) | (intro o ho; simp at ho; done)) (hT : ∀ o ∈ T, o.allI (okI ks S.length) = true := by
 first | rfl | (simp [AV.allIs, AV.allI, zbi, za3, za4, okI, ltI, zat, zb2, zhq, zba, zea]; done) | (intro o ho; simp at ho; done)) : kE P sm N τ0 τ H (.d (.val (.func (.func f) #[] #[]))) args (tg KK) := jba h hH hN hm hτ h0 ha hS hT hK
theorem yao {p : Prop} (h : p := by
 first | rfl | (simp only [r_g, Nat.reduceAdd, ↓reduceIte, Nat.reduceEqDiff, zea, zk2, zhq, zds, zcz, intssD, intsD, zdi, zbp, sD, zc0, zc7, zf1, zcl, zaj, zao, zqb, za6]; first | done | rfl)) : p := h
theorem jhz {p q : Prop} (hq : q) (h : p = q := by
 conv => lhs; simp only [r_g, Nat.reduceAdd, ↓reduceIte, Nat.reduceEqDiff, zea, zk2, zhq, zds, zcz, intssD, intsD, zdi, zbp, sD, zc0, zc7, zf1, zcl, zaj, zao, zqb, za6]) : p := h.mpr hq
theorem jkr (p : Pr) (h : PrOk p) (hn : (zbl p).length ≤ 200) (hb : 2 + (zbl p).length + zo8 p ≤ 600) : zaz Try.prog 40 [zdi p] (.d (.agg (jat p))) := by
 have hrl := h.rl; have htl := h.tl; have hql := h.ql; have hcl := h.cl
 have hml : p.mems.length ≤ 8 := by have := h.ct.l; simpa [ctP] using this
 have hm : mP p = 2 + (zbl p).length := rfl
 have hins := jxo p h
 have hdu := jqq p h (by omega)
 have hst := jqt p h (by omega)
 refine zaw (fn := Try.f40) (by kernel_rfl) Try.func40 rfl (Nat.le_of_ble_eq_true rfl) fun c hc hp => ?_
 refine za0 (τ' := frL [(0, .d (zdi p))]) (by repeat (first | exact zar _ | refine zam ?_ (by first | rfl | (simp [r_f, zab, za9]; done) | simp [r_f, zab, za9, *]))) ?_
 refine szq hp (fun _ hZ => zes hZ) ?_
 refine zag hp zai hc rfl fun K2 hK2 => ?_
 refine zes ?_
 refine za1 (hins) rfl ?_
 refine zes ?_
 refine hK2 _ _ ?_
 refine zag hp zai hc rfl fun K3 hK3 => ?_
 refine zes ?_
 refine za1 (hdu) rfl ?_
 refine zes ?_
 refine hK3 _ _ ?_
 refine szq hp (fun _ hZ => zes hZ) ?_
 refine zbg hp (τ' := frL [(1, .op 3 0), (2, .op 4 0), (3, .d (zao (zbl p))), (4, .op 5 0), (5, .op 6 0)]) (H' := [.free, .free, .free, .cells (avs (zbp p)), .cells [.d (.val (.slice none 0 0)), .d (.val (.slice none 0 0)), .d (.val (.slice none 0 0)), .d (.val (.slice none 0 0)), .d (iD 0)], .cells (avs (zcz p)), .cells (avs (zds p (zcb p)))]) ?_ ?_
 ·refine Rt.trans (Rt.fr9) ?_
  refine jhj [4,5,6,0,1,2,3] ?_
  refine zw0 ?_
  exact yao
 refine zag hp zai hc rfl fun K5 hK5 => ?_
 refine zes ?_
 refine yb7 ([.free, .free, .free]) ([.cells (avs (zbp p)), .cells [.d (.val (.slice none 0 0)), .d (.val (.slice none 0 0)), .d (.val (.slice none 0 0)), .d (.val (.slice none 0 0)), .d (iD 0)], .cells (avs (zcz p)), .cells (avs (zds p (zcb p)))]) (hst) ?_
 rintro _ _ ⟨z, rfl, rfl⟩
 refine ⟨rfl, ?_⟩
 refine zes ?_
 refine hK5 _ _ ?_
 refine zaa fun K6 hK6 => ?_
 refine szq hp (fun _ hZ => jhk hZ) ?_
 refine zac ?_
 refine zan hp (fun τ' H' mm => ∃ (i : Nat), (i ≤ p.puts.length) ∧ mm = p.puts.length - i ∧ H' = [.cells (avs ((zdl p i).out.flatMap za6)), .cells (avs ((zdl p i).dr.map iD)), .free, .free, .free, .cells (avs (zbp p)), .cells [.d (.val (.slice none 0 0)), .d (.val (.slice none 0 0)), .d (.val (.slice none 0 0)), .d (.val (.slice none 0 0)), .d (iD 0)], .cells (avs (zcz p)), .cells (avs (zds p (zcb p))), .cells (zea p (zdl p i))] ∧ τ' = frL [(1, .op 5 0), (2, .op 6 0), (3, .d (zao (zbl p))), (4, .op 7 0), (5, .op 8 0), (6, .op 9 0), (7, .d (iD i))]) (p.puts.length) ?_ ⟨0, Nat.zero_le _, rfl, rfl, rfl⟩ ?_
 ·refine Rt.trans (Rt.fr9) ?_
  refine jhj [0,1,8,9,10,3,4,5,6,7] ?_
  refine zw0 ?_
  refine jhz ?_; rfl
 rintro τ' H' mm ⟨i, hi, rfl, rfl, rfl⟩
 refine zaa fun K8 hK8 => ?_
 refine szq hp (fun _ hZ => zes hZ) ?_
 refine zah rfl (fun ht => ?_) (fun ht => ?_)
 ·have hlt : i < p.puts.length := by simp at ht; omega
  have ho := zly h i hi
  have hol := zvj h ho
  have hle := ho.len
  have hci := jgk (p := p) (k := i + 1) (by omega)
  rw [cUP] at hci
  have hpo := zs6 h i hi
  have hps := zu7 h hlt ho
  have gl : i < (zg6 p).length := by rw [show zg6 p = (zp5 p p.puts.length).puts from rfl, (zju h _ (Nat.le_refl _)).ql]; exact hlt
  have g0 : ((zg6 p).map iD)[i]? = some (iD (nth (zg6 p) i)) := zay gl
  have hand := zhp (zbl p).length (zdl p i).gs (zf3 p) (nth (zg6 p) i) (by omega) (by omega) ho.gi (ho.fire h (List.prefix_refl _)) (ho.dueQ h (List.prefix_refl _) hlt)
  obtain ⟨A, hA⟩ : ∃ A, A = zg4 (mP p) (zdl p i).gs (zf3 p) (nth (zg6 p) i) := ⟨_, rfl⟩
  rw [← hm, ← hA] at hand
  rw [← hA] at hps
  obtain ⟨ra, rb, rt⟩ := hps
  have la := ra.len
  have hwt := h.qd i hlt
  have hbits := zkb p h true (zcb p) (by omega) (nth p.puts i).da A.1 ra.gi (by omega) (zwq h ((ho.tp h).trans ra.pre)) hwt.1
  obtain ⟨r, hr⟩ : ∃ r, r = zci p (zcb p) A.1 (nth p.puts i).da := ⟨_, rfl⟩
  rw [← hr] at hbits rb rt
  have hrw := rb.wid
  have lb := rb.len
  have hw8 := (h.qb i hlt).2
  obtain ⟨st, hst⟩ : ∃ st : Gs → Nat → Re, st = fun gs k => zg4 (mP p) gs A.2 (nth r.2 k) := ⟨_, rfl⟩
  have hbs : ∀ k, k ≤ (nth p.puts i).w → Bs (mP p) (1 * k) k r.1 (zbh st r.1 k) := fun k hk => by
   rw [hst]
   exact zda rb.gi fun j hj gs' hp' hg' => zg5 mP2 hg' (ra.nd.pre (rb.pre.trans hp')) (rb.at hp' (by omega))
  obtain ⟨O, hO⟩ : ∃ O : Nat → Os, O = fun k => ⟨(zbh st r.1 k).1, (zdl p i).out ++ [⟨6, i, 0⟩] ++ zji 7 i k, (zdl p i).dr ++ [A.2] ++ (zbh st r.1 k).2⟩ := ⟨_, rfl⟩
  have hO0 : O 0 = ⟨r.1, (zdl p i).out ++ [⟨6, i, 0⟩], (zdl p i).dr ++ [A.2]⟩ := by rw [hO]; simp [zbh, zji]
  have hOw : zdl p (i + 1) = O (nth p.puts i).w := by rw [hO, zdl, ← hA, ← hr, ← hst, hrw]
  have hOs : ∀ k, O (k + 1) = ⟨(st (O k).gs k).1, (O k).out ++ [⟨7, i, k⟩], (O k).dr ++ [(st (O k).gs k).2]⟩ := fun k => by rw [hO]; simp [zbh, zi9]
  have hOl : ∀ k, k ≤ (nth p.puts i).w → (O k).dr.length = (O k).out.length ∧ (O k).out.length = (zdl p i).out.length + 1 + k := fun k hk => by
   have := (hbs k hk).wid
   exact ⟨by rw [hO]; simp [this, za9, hol], by rw [hO]; simp [za9]; omega⟩
  have hOb : ∀ k, k ≤ (nth p.puts i).w → r.1 <+: (O k).gs ∧ GI (mP p) (O k).gs ∧ (O k).gs.length ≤ r.1.length + 1 * k := fun k hk => by
   have := hbs k hk
   rw [hO]; exact ⟨this.pre, this.gi, this.len⟩
  have hwith := jhg (zbl p).length (zdl p i).gs (zdl p i).out (zdl p i).dr ⟨6, (i : Int), 0⟩ A hol (by omega)
  clear hr hO hA
  refine zaf (hK8 _ _ ?_)
  refine zaa fun K10 hK10 => ?_
  refine zac ?_
  refine zas zai hc za8 rfl (q := 1) (by kernel_rfl) (by kernel_rfl) fun K11 hK11 => ?_
  refine zqc g0 ?_
  refine za1 (hand) rfl ?_
  refine zqc g0 ?_
  refine hK11 _ _ ?_
  refine zag hp zai hc rfl fun K12 hK12 => ?_
  refine zes ?_
  refine yb7 ([.cells (avs ((zdl p i).out.flatMap za6)), .cells (avs ((zdl p i).dr.map iD)), .free, .free, .free]) ([.cells (avs (zbp p)), .cells [.d (.val (.slice none 0 0)), .d (.val (.slice none 0 0)), .d (.val (.slice none 0 0)), .d (.val (.slice none 0 0)), .d (iD 0)], .cells (avs (zcz p)), .cells (avs (zds p (zcb p))), .cells (zea p (zdl p i)), .cells (avs (zc7 (zbl p).length A))]) (hwith) ?_
  rintro _ _ ⟨a, b, z, rfl, rfl⟩
  refine ⟨rfl, ?_⟩
  refine zes ?_
  refine hK12 _ _ ?_
  refine zbg hp (τ' := frL [(1, .op 5 0), (2, .op 6 0), (3, .d (zao (zbl p))), (4, .op 7 0), (5, .op 8 0), (6, .op 9 0), (7, .d (iD i)), (8, .op 10 0)]) (H' := [.cells (avs (((zdl p i).out ++ [(⟨6, (i : Int), 0⟩ : Wire)]).flatMap za6)), .cells (avs (((zdl p i).dr ++ [A.2]).map iD)), .free, .free, .free, .cells (avs (zbp p)), .cells [.d (.val (.slice none 0 0)), .d (.val (.slice none 0 0)), .d (.val (.slice none 0 0)), .d (.val (.slice none 0 0)), .d (iD 0)], .cells (avs (zcz p)), .cells (avs (zds p (zcb p))), .cells [.d (iD (zbl p).length), .d (zaj A.1), .os 3 0 0 ((zdl p i).out.length + 1), .os 1 1 0 ((zdl p i).out.length + 1)], .cells (avs (zc7 (zbl p).length A))]) ?_ ?_
  ·refine Rt.trans (Rt.fr9) ?_
   refine jhj [2,3,11,12,13,5,6,7,8,9,10] ?_
   refine zw0 ?_
   exact yao
  refine zas zai hc za8 rfl (q := 1) (by kernel_rfl) (by kernel_rfl) fun K13 hK13 => ?_
  refine zes ?_
  refine za1 (hbits) rfl ?_
  refine zes ?_
  refine hK13 _ _ ?_
  refine szq hp (fun _ hZ => zes hZ) ?_
  refine szq hp (fun _ hZ => jhk hZ) ?_
  refine zac ?_
  refine zan hp (fun τ' H' mm => ∃ (k : Nat), (k ≤ (nth p.puts i).w) ∧ mm = (nth p.puts i).w - k ∧ H' = [.cells (avs ((O k).out.flatMap za6)), .cells (avs ((O k).dr.map iD)), .free, .free, .free, .cells (avs (zbp p)), .cells [.d (.val (.slice none 0 0)), .d (.val (.slice none 0 0)), .d (.val (.slice none 0 0)), .d (.val (.slice none 0 0)), .d (iD 0)], .cells (avs (zcz p)), .cells (avs (zds p (zcb p))), .cells (zea p (O k)), .cells (avs (zc7 (zbl p).length A)), .cells (avs (zcl (zbl p).length r))] ∧ τ' = frL [(1, .op 5 0), (2, .op 6 0), (3, .d (zao (zbl p))), (4, .op 7 0), (5, .op 8 0), (6, .op 9 0), (7, .d (iD i)), (8, .op 10 0), (9, .op 11 0), (10, .d (iD k))]) ((nth p.puts i).w) ?_ ⟨0, Nat.zero_le _, rfl, rfl, rfl⟩ ?_
  ·refine zw0 ?_
   refine jhz ?_; simp [hO0, zea, zcl, zc7, zds, zcz, intssD, intsD, zbp, sD, iD, avs, zaj, zao]
  rintro τ' H' mm ⟨k, hk1, rfl, rfl, rfl⟩
  refine zaa fun K16 hK16 => ?_
  refine szq hp (fun _ hZ => zes hZ) ?_
  refine zah rfl (fun ht => ?_) (fun ht => ?_)
  ·have hlk : k < (nth p.puts i).w := by simp at ht; omega
   obtain ⟨b1, b2, b3⟩ := hOb k hk1
   obtain ⟨l1, l2⟩ := hOl k hk1
   have g0 : (r.2.map iD)[k]? = some (iD (nth r.2 k)) := zay (by omega)
   have hmux := zhp (zbl p).length (O k).gs A.2 (nth r.2 k) (by omega) (by omega) b2 (ra.nd.pre (rb.pre.trans b1)) (rb.at b1 (by omega))
   rw [← hm, show zg4 (mP p) (O k).gs A.2 (nth r.2 k) = st (O k).gs k by rw [hst]] at hmux
   have hwith := jaq (zbl p).length (O k).gs (O k).out (O k).dr ⟨7, (i : Int), (k : Int)⟩ (st (O k).gs k) l1 (by omega)
   have eo := hOs k
   clear hst
   refine zaf (hK16 _ _ ?_)
   refine zaa fun K18 hK18 => ?_
   refine zac ?_
   refine zl7 zai hp hc za8 rfl [(0, []), (1, []), (2, []), (3, []), (4, []), (5, []), (6, []), (7, []), (8, []), (9, []), (10, []), (11, []), (12, []), (13, [0]), (14, []), (15, [])] [[], [], [], [1, 2], [], [4], [], [6], [], [8], [], [8, 9, 10], [8, 9, 10, 11], [4, 5, 6, 7, 8, 9, 10, 11, 12], [0, 1, 2, 3, 4, 5, 6, 7, 8, 9, 10, 11, 12, 13], [0, 1, 2, 3, 4, 5, 6, 7, 8, 9, 10, 11, 12, 13, 14]] 0 (by kernel_rfl) fun K19 hK19 => ?_
   refine zqd g0 ?_
   refine zj4 (hmux) rfl ?_
   refine zqd g0 ?_
   refine jyr ([.cells (avs ((O k).out.flatMap za6)), .cells (avs ((O k).dr.map iD)), .free, .free, .free]) ([.cells (avs (zbp p)), .cells [.d (.val (.slice none 0 0)), .d (.val (.slice none 0 0)), .d (.val (.slice none 0 0)), .d (.val (.slice none 0 0)), .d (iD 0)], .cells (avs (zcz p)), .cells (avs (zds p (zcb p))), .cells (zea p (O k)), .cells (avs (zc7 (zbl p).length A)), .cells (avs (zcl (zbl p).length r))]) (hwith) ?_
   rintro _ _ ⟨a, b, z, rfl, rfl⟩
   refine ⟨rfl, ?_⟩
   refine zqd g0 ?_
   refine hK19 _ _ (hK18 _ _ ?_)
   refine za5 hp zai hc rfl fun K20 hK20 => ?_
   refine zes ?_
   refine hK20 _ _ ⟨_, _, _, ?_, ⟨k + 1, by omega, rfl, rfl, rfl⟩, ?_⟩
   ·first | omega | (simp only [List.length_cons]; omega) | (dsimp only; omega)
   ·refine Rt.trans (Rt.fr9) ?_
    refine jhj [2,3,12,13,14,5,6,7,8,9,10,11] ?_
    refine zw0 ?_
    refine jhz ?_; simp [eo, iD, zea]
  ·have hkk : k = (nth p.puts i).w := by simp at ht; omega
   subst hkk
   refine zau (hK10 _ _ ?_)
   refine za5 hp zai hc rfl fun K21 hK21 => ?_
   refine zes ?_
   refine hK21 _ _ ⟨_, _, _, ?_, ⟨i + 1, by omega, rfl, rfl, rfl⟩, ?_⟩
   ·first | omega | (simp only [List.length_cons]; omega) | (dsimp only; omega)
   ·refine jhj [0,1,2,3,4,5,6,7,8,9] ?_
    refine zw0 ?_
    refine jhz ?_; rw [hOw]; rfl
 ·have hii : i = p.puts.length := by simp at ht; omega
  subst hii
  refine zau (hK6 _ _ ?_)
  refine zaa fun K22 hK22 => ?_
  refine szq hp (fun _ hZ => jhk hZ) ?_
  refine zac ?_
  refine zan hp (fun τ' H' mm => ∃ (i : Nat), (i ≤ p.mems.length) ∧ mm = p.mems.length - i ∧ H' = [.cells (avs ((zcm p i).out.flatMap za6)), .cells (avs ((zcm p i).dr.map iD)), .free, .free, .free, .cells (avs (zbp p)), .cells [.d (.val (.slice none 0 0)), .d (.val (.slice none 0 0)), .d (.val (.slice none 0 0)), .d (.val (.slice none 0 0)), .d (iD 0)], .cells (avs (zcz p)), .cells (avs (zds p (zcb p))), .cells (zea p (zcm p i))] ∧ τ' = frL [(1, .op 5 0), (2, .op 6 0), (3, .d (zao (zbl p))), (4, .op 7 0), (5, .op 8 0), (6, .op 9 0), (11, .d (iD i))]) (p.mems.length) ?_ ⟨0, Nat.zero_le _, rfl, rfl, rfl⟩ ?_
  ·refine zw0 ?_
   rfl
  rintro τ' H' mm ⟨i, hi, rfl, rfl, rfl⟩
  refine zaa fun K24 hK24 => ?_
  refine szq hp (fun _ hZ => zes hZ) ?_
  refine zah rfl (fun ht => ?_) (fun ht => ?_)
  ·have hlt : i < p.mems.length := by simp at ht; omega
   have ho := zj9 h i hi
   have hol := zvj h ho
   have hle := ho.len
   have hci := jgj (p := p) (k := i + 1) (by omega)
   rw [cMP] at hci
   have hpo := jas h i hi
   obtain ⟨E, hE⟩ : ∃ E, E = zci p (zcb p) (zcm p i).gs (nth p.mems i).en := ⟨_, rfl⟩
   obtain ⟨A, hA⟩ : ∃ A, A = zg4 (mP p) E.1 (zf3 p) (nth E.2 0) := ⟨_, rfl⟩
   obtain ⟨D', hD⟩ : ∃ D', D' = zci p (zcb p) A.1 (nth p.mems i).ad := ⟨_, rfl⟩
   obtain ⟨W, hW⟩ : ∃ W, W = zci p (zcb p) D'.1 (nth p.mems i).da := ⟨_, rfl⟩
   obtain ⟨he, ha, hd, hw⟩ := zu8 h hlt ho hE hA hD hW
   have le := he.len; have la := ha.len; have ld := hd.len; have lw := hw.len
   have eS : zcm p (i + 1) = ⟨W.1, (zcm p i).out ++ [⟨8, i, 0⟩] ++ zji 9 i 3 ++ zji 10 i W.2.length, (zcm p i).dr ++ [A.2] ++ jcd D'.2 (nth p.mems i).words ++ W.2⟩ := by rw [zcm, ← hE, ← hA, ← hD, ← hW]
   have t0 := ho.tp h
   have cE := zkb p h true (zcb p) (by omega) (nth p.mems i).en (zcm p i).gs ho.gi (by omega) (zwq h t0) (h.me i hlt).1
   have cA := zhp (zbl p).length E.1 (zf3 p) (nth E.2 0) (by omega) (by omega) he.gi (ho.fire h he.pre) (he.at (List.prefix_refl _) (by decide))
   have cD := zkb p h true (zcb p) (by omega) (nth p.mems i).ad A.1 ha.gi (by omega) (zwq h (t0.trans (he.pre.trans ha.pre))) (h.ma i hlt)
   have cW := zkb p h true (zcb p) (by omega) (nth p.mems i).da D'.1 hd.gi (by omega) (zwq h (t0.trans (he.pre.trans (ha.pre.trans hd.pre)))) (h.md i hlt).1
   rw [← hE] at cE; rw [← hm, ← hA] at cA; rw [← hD] at cD; rw [← hW] at cW
   have em : nth (ctP p).mems i = ((nth p.mems i).words, (nth p.mems i).w) := jpt hlt
   have hmm := h.ct.m i (by simpa [ctP] using hlt)
   rw [em] at hmm
   simp only at hmm
   have wE := he.wid; have wD := hd.wid; have wW := hw.wid
   have bD := (zcu h.ct (h.ma i hlt)).2
   obtain ⟨ad, had⟩ : ∃ ad, ad = jcd D'.2 (nth p.mems i).words := ⟨_, rfl⟩
   have lad : ad.length = 3 := by rw [had]; exact zj8 _ _
   have cad := jgx D'.2 (nth p.mems i).words (by omega) (by omega)
   rw [← had] at cad eS
   have m2 := yb4 hlt; have n1 := yal hlt; have n2 := yam hlt; have n3 := yan hlt
   have g0 : (E.2.map iD)[0]? = some (iD (nth E.2 0)) := zay (by omega)
   have hwith := jaq (zbl p).length (zcm p i).gs (zcm p i).out (zcm p i).dr ⟨8, (i : Int), 0⟩ A hol (by omega)
   obtain ⟨O, hO⟩ : ∃ O : Nat → Os, O = fun k => ⟨if k = 0 then A.1 else D'.1, (zcm p i).out ++ [⟨8, i, 0⟩] ++ zji 9 i k, (zcm p i).dr ++ [A.2] ++ ad.take k⟩ := ⟨_, rfl⟩
   have hO0 : O 0 = ⟨A.1, (zcm p i).out ++ [⟨8, i, 0⟩], (zcm p i).dr ++ [A.2]⟩ := by rw [hO]; simp [zji]
   have hOs : ∀ k, k < 3 → O (k + 1) = ⟨D'.1, (O k).out ++ [⟨9, i, k⟩], (O k).dr ++ [nth ad k]⟩ := fun k hk => by rw [hO]; simp [zi9, zeu (l := ad) (k := k) (by omega)]
   have hOl : ∀ k, k ≤ 3 → (O k).dr.length = (O k).out.length ∧ (O k).out.length = (zcm p i).out.length + 1 + k := fun k hk => by
    exact ⟨by rw [hO]; simp [za9, hol, lad]; omega, by rw [hO]; simp [za9]; omega⟩
   have hO3 : (O 3).gs = D'.1 := by rw [hO]; rfl
   obtain ⟨V, hV⟩ : ∃ V : Nat → Os, V = fun k => ⟨if k = 0 then D'.1 else W.1, (O 3).out ++ zji 10 i k, (O 3).dr ++ W.2.take k⟩ := ⟨_, rfl⟩
   have hV0 : V 0 = ⟨D'.1, (O 3).out, (O 3).dr⟩ := by rw [hV]; simp [zji]
   have hVs : ∀ k, k < W.2.length → V (k + 1) = ⟨W.1, (V k).out ++ [⟨10, i, k⟩], (V k).dr ++ [nth W.2 k]⟩ := fun k hk => by rw [hV]; simp [zi9, zeu hk]
   have hVl : ∀ k, k ≤ W.2.length → (V k).dr.length = (V k).out.length ∧ (V k).out.length = (O 3).out.length + k := fun k hk => by
    have := (hOl 3 (by omega)).1
    exact ⟨by rw [hV]; simp [za9, this]; omega, by rw [hV]; simp [za9]⟩
   have hVw : zcm p (i + 1) = V W.2.length := by
    rw [eS, hV, hO]
    simp only [if_neg (show ¬ W.2.length = 0 by omega), List.take_length, List.append_assoc]
    rw [List.take_of_length_le (show ad.length ≤ 3 by omega)]
   have hO3l := (hOl 3 (by omega)).2
   clear hE hA hD hW had eS hO hV
   refine zaf (hK24 _ _ ?_)
   refine zaa fun K26 hK26 => ?_
   refine zac ?_
   refine zas zai hc za8 rfl (q := 1) (by kernel_rfl) (by kernel_rfl) fun K27 hK27 => ?_
   refine zqc n1 ?_
   refine za1 (cE) rfl ?_
   refine zqc n1 ?_
   refine hK27 _ _ ?_
   refine zcj zai hp hc za8 rfl [(0, []), (1, []), (2, []), (3, []), (4, []), (5, []), (6, []), (7, []), (8, []), (9, []), (10, []), (11, [0]), (12, []), (13, [])] [[], [], [1], [], [3], [], [5], [], [7], [7, 8], [7, 8, 9], [3, 4, 5, 6, 7, 8, 9, 10], [0, 1, 2, 3, 4, 5, 6, 7, 8, 9, 10, 11], [0, 1, 2, 3, 4, 5, 6, 7, 8, 9, 10, 11, 12]] 0 (by kernel_rfl) fun K28 hK28 => ?_
   refine zqd g0 ?_
   refine zj4 (cA) rfl ?_
   refine zqd g0 ?_
   refine jyr ([.cells (avs ((zcm p i).out.flatMap za6)), .cells (avs ((zcm p i).dr.map iD)), .free, .free, .free]) ([.cells (avs (zbp p)), .cells [.d (.val (.slice none 0 0)), .d (.val (.slice none 0 0)), .d (.val (.slice none 0 0)), .d (.val (.slice none 0 0)), .d (iD 0)], .cells (avs (zcz p)), .cells (avs (zds p (zcb p))), .cells (zea p (zcm p i)), .cells (avs (zcl (zbl p).length E))]) (hwith) ?_
   rintro _ _ ⟨a, b, z, rfl, rfl⟩
   refine ⟨rfl, ?_⟩
   refine zqd g0 ?_
   refine hK28 _ _ ?_
   refine zbg hp (τ' := frL [(1, .op 5 0), (2, .op 6 0), (3, .d (zao (zbl p))), (4, .op 7 0), (5, .op 8 0), (6, .op 9 0), (11, .d (iD i))]) (H' := [.cells (avs ((O 0).out.flatMap za6)), .cells (avs ((O 0).dr.map iD)), .free, .free, .free, .cells (avs (zbp p)), .cells [.d (.val (.slice none 0 0)), .d (.val (.slice none 0 0)), .d (.val (.slice none 0 0)), .d (.val (.slice none 0 0)), .d (iD 0)], .cells (avs (zcz p)), .cells (avs (zds p (zcb p))), .cells (zea p (O 0))]) ?_ ?_
   ·refine Rt.trans (Rt.fr9) ?_
    refine jhj [2,3,11,12,13,5,6,7,8,9] ?_
    refine zw0 ?_
    refine jhz ?_; simp [hO0, zea, zds, zcz, intssD, intsD, zbp, sD, iD, avs, zaj, zao]
   have hOg : (O 0).gs = A.1 := by rw [hO0]
   rw [← hOg] at cD
   refine zas zai hc za8 rfl (q := 1) (by kernel_rfl) (by kernel_rfl) fun K29 hK29 => ?_
   refine zqc n2 ?_
   refine za1 (cD) rfl ?_
   refine zqc n2 ?_
   refine hK29 _ _ ?_
   refine zas zai hc za8 rfl (q := 0) (by kernel_rfl) (by kernel_rfl) fun K30 hK30 => ?_
   refine zqc m2 ?_
   refine za1 (cad) rfl ?_
   refine zqc m2 ?_
   refine hK30 _ _ ?_
   refine zaa fun K31 hK31 => ?_
   refine szq hp (fun _ hZ => jhk hZ) ?_
   refine zac ?_
   refine zan hp (fun τ' H' mm => ∃ (k : Nat), (k ≤ 3) ∧ mm = 3 - k ∧ H' = [.cells (avs ((O k).out.flatMap za6)), .cells (avs ((O k).dr.map iD)), .free, .free, .free, .cells (avs (zbp p)), .cells [.d (.val (.slice none 0 0)), .d (.val (.slice none 0 0)), .d (.val (.slice none 0 0)), .d (.val (.slice none 0 0)), .d (iD 0)], .cells (avs (zcz p)), .cells (avs (zds p (zcb p))), .cells (zea p (O k)), .cells (avs (zcl (zbl p).length D'))] ∧ τ' = frL [(1, .op 5 0), (2, .op 6 0), (3, .d (zao (zbl p))), (4, .op 7 0), (5, .op 8 0), (6, .op 9 0), (11, .d (iD i)), (13, .op 10 0), (14, .d (intsD ad)), (15, .d (iD k))]) (3) ?_ ⟨0, Nat.zero_le _, rfl, rfl, rfl⟩ ?_
   ·refine zw0 ?_
    rfl
   rintro τ' H' mm ⟨k, hk1, rfl, rfl, rfl⟩
   refine zaa fun K33 hK33 => ?_
   refine szq hp (fun _ hZ => zes hZ) ?_
   refine zah rfl (fun ht => ?_) (fun ht => ?_)
   ·have hlk : k < 3 := by simp at ht; omega
    obtain ⟨l1, l2⟩ := hOl k hk1
    have g1 : (ad.map iD)[k]? = some (iD (nth ad k)) := zay (by omega)
    have hwith2 := jhg (zbl p).length (O k).gs (O k).out (O k).dr ⟨9, (i : Int), (k : Int)⟩ (D'.1, nth ad k) l1 (by omega)
    have eo := hOs k hlk
    refine zaf (hK33 _ _ ?_)
    refine zaa fun K35 hK35 => ?_
    refine zac ?_
    refine zl7 zai hp hc za8 rfl [(0, []), (1, []), (2, []), (3, []), (4, []), (5, []), (6, []), (7, []), (8, []), (9, []), (10, []), (11, []), (12, [])] [[], [], [], [1, 2], [], [4], [], [], [6, 7], [6, 7, 8], [4, 5, 6, 7, 8, 9], [0, 1, 2, 3, 4, 5, 6, 7, 8, 9, 10], [0, 1, 2, 3, 4, 5, 6, 7, 8, 9, 10, 11]] 0 (by kernel_rfl) fun K36 hK36 => ?_
    refine zqd g1 ?_
    refine jyr ([.cells (avs ((O k).out.flatMap za6)), .cells (avs ((O k).dr.map iD)), .free, .free, .free]) ([.cells (avs (zbp p)), .cells [.d (.val (.slice none 0 0)), .d (.val (.slice none 0 0)), .d (.val (.slice none 0 0)), .d (.val (.slice none 0 0)), .d (iD 0)], .cells (avs (zcz p)), .cells (avs (zds p (zcb p))), .cells (zea p (O k)), .cells (avs (zcl (zbl p).length D'))]) (hwith2) ?_
    rintro _ _ ⟨a, b, z, rfl, rfl⟩
    refine ⟨rfl, ?_⟩
    refine zqd g1 ?_
    refine hK36 _ _ (hK35 _ _ ?_)
    refine za5 hp zai hc rfl fun K37 hK37 => ?_
    refine zes ?_
    refine hK37 _ _ ⟨_, _, _, ?_, ⟨k + 1, by omega, rfl, rfl, rfl⟩, ?_⟩
    ·first | omega | (simp only [List.length_cons]; omega) | (dsimp only; omega)
    ·refine Rt.trans (Rt.fr9) ?_
     refine jhj [2,3,11,12,13,5,6,7,8,9,10] ?_
     refine zw0 ?_
     refine jhz ?_; simp [eo, iD, zea]
   ·have hkk : k = 3 := by simp at ht; omega
    subst hkk
    refine zau (hK31 _ _ ?_)
    refine zbg hp (τ' := frL [(1, .op 5 0), (2, .op 6 0), (3, .d (zao (zbl p))), (4, .op 7 0), (5, .op 8 0), (6, .op 9 0), (11, .d (iD i))]) (H' := [.cells (avs ((O 3).out.flatMap za6)), .cells (avs ((O 3).dr.map iD)), .free, .free, .free, .cells (avs (zbp p)), .cells [.d (.val (.slice none 0 0)), .d (.val (.slice none 0 0)), .d (.val (.slice none 0 0)), .d (.val (.slice none 0 0)), .d (iD 0)], .cells (avs (zcz p)), .cells (avs (zds p (zcb p))), .cells (zea p (O 3))]) ?_ ?_
    ·refine jhj [0,1,2,3,4,5,6,7,8,9] ?_
     refine zw0 ?_
     exact yao
    rw [← hO3] at cW
    refine zas zai hc za8 rfl (q := 1) (by kernel_rfl) (by kernel_rfl) fun K38 hK38 => ?_
    refine zqc n3 ?_
    refine za1 (cW) rfl ?_
    refine zqc n3 ?_
    refine hK38 _ _ ?_
    refine szq hp (fun _ hZ => jhk hZ) ?_
    refine zac ?_
    refine zan hp (fun τ' H' mm => ∃ (k : Nat), (k ≤ W.2.length) ∧ mm = W.2.length - k ∧ H' = [.cells (avs ((V k).out.flatMap za6)), .cells (avs ((V k).dr.map iD)), .free, .free, .free, .cells (avs (zbp p)), .cells [.d (.val (.slice none 0 0)), .d (.val (.slice none 0 0)), .d (.val (.slice none 0 0)), .d (.val (.slice none 0 0)), .d (iD 0)], .cells (avs (zcz p)), .cells (avs (zds p (zcb p))), .cells (zea p (V k)), .cells (avs (zcl (zbl p).length W))] ∧ τ' = frL [(1, .op 5 0), (2, .op 6 0), (3, .d (zao (zbl p))), (4, .op 7 0), (5, .op 8 0), (6, .op 9 0), (11, .d (iD i)), (16, .op 10 0), (17, .d (iD k))]) (W.2.length) ?_ ⟨0, Nat.zero_le _, rfl, rfl, rfl⟩ ?_
    ·refine zw0 ?_
     refine jhz ?_; simp [hV0, hO3, zea, zcl, zds, zcz, intssD, intsD, zbp, sD, iD, avs, zaj, zao]
    rintro τ' H' mm ⟨k, hk1, rfl, rfl, rfl⟩
    refine zaa fun K40 hK40 => ?_
    refine szq hp (fun _ hZ => zes hZ) ?_
    refine zah rfl (fun ht => ?_) (fun ht => ?_)
    ·have hlk : k < W.2.length := by simp at ht; omega
     obtain ⟨l1, l2⟩ := hVl k hk1
     have g1 : (W.2.map iD)[k]? = some (iD (nth W.2 k)) := zay (by omega)
     have hwith2 := jhg (zbl p).length (V k).gs (V k).out (V k).dr ⟨10, (i : Int), (k : Int)⟩ (W.1, nth W.2 k) l1 (by omega)
     have eo := hVs k hlk
     refine zaf (hK40 _ _ ?_)
     refine zaa fun K42 hK42 => ?_
     refine zac ?_
     refine zl7 zai hp hc za8 rfl [(0, []), (1, []), (2, []), (3, []), (4, []), (5, []), (6, []), (7, []), (8, []), (9, []), (10, []), (11, []), (12, []), (13, [])] [[], [], [], [1, 2], [], [4], [], [6], [], [6, 7, 8], [6, 7, 8, 9], [4, 5, 6, 7, 8, 9, 10], [0, 1, 2, 3, 4, 5, 6, 7, 8, 9, 10, 11], [0, 1, 2, 3, 4, 5, 6, 7, 8, 9, 10, 11, 12]] 0 (by kernel_rfl) fun K43 hK43 => ?_
     refine zqd g1 ?_
     refine jyr ([.cells (avs ((V k).out.flatMap za6)), .cells (avs ((V k).dr.map iD)), .free, .free, .free]) ([.cells (avs (zbp p)), .cells [.d (.val (.slice none 0 0)), .d (.val (.slice none 0 0)), .d (.val (.slice none 0 0)), .d (.val (.slice none 0 0)), .d (iD 0)], .cells (avs (zcz p)), .cells (avs (zds p (zcb p))), .cells (zea p (V k)), .cells (avs (zcl (zbl p).length W))]) (hwith2) ?_
     rintro _ _ ⟨a, b, z, rfl, rfl⟩
     refine ⟨rfl, ?_⟩
     refine zqd g1 ?_
     refine hK43 _ _ (hK42 _ _ ?_)
     refine za5 hp zai hc rfl fun K44 hK44 => ?_
     refine zes ?_
     refine hK44 _ _ ⟨_, _, _, ?_, ⟨k + 1, by omega, rfl, rfl, rfl⟩, ?_⟩
     ·first | omega | (simp only [List.length_cons]; omega) | (dsimp only; omega)
     ·refine Rt.trans (Rt.fr9) ?_
      refine jhj [2,3,11,12,13,5,6,7,8,9,10] ?_
      refine zw0 ?_
      refine jhz ?_; simp [eo, iD, zea]
    ·have hkk : k = W.2.length := by simp at ht; omega
     subst hkk
     refine zau (hK26 _ _ ?_)
     refine za5 hp zai hc rfl fun K45 hK45 => ?_
     refine zes ?_
     refine hK45 _ _ ⟨_, _, _, ?_, ⟨i + 1, by omega, rfl, rfl, rfl⟩, ?_⟩
     ·first | omega | (simp only [List.length_cons]; omega) | (dsimp only; omega)
     ·refine jhj [0,1,2,3,4,5,6,7,8,9] ?_
      refine zw0 ?_
      refine jhz ?_; rw [hVw]; rfl
  ·have hii : i = p.mems.length := by simp at ht; omega
   subst hii
   have hoM := zj9 h _ (Nat.le_refl _)
   have hdl := zvj h hoM
   have hleM := hoM.len
   have hcM := jgj (p := p) (k := p.mems.length) (by omega)
   have hnet : jrc p = ⟨zbl p, (zcm p p.mems.length).gs, (zcm p p.mems.length).out, (zcm p p.mems.length).dr⟩ := rfl
   have hno := joy (jrc p) (by rw [hnet]; simp only; omega) (by rw [hnet]; simp only; omega)
   rw [hnet] at hno
   refine zau (hK22 _ _ ?_)
   refine zbg hp (τ' := frL [(2, .op 2 0), (3, .d (zao (zbl p))), (6, .op 3 0)]) (H' := [.dead, .dead, .cells [.d (.val (.slice none 0 0)), .d (.val (.slice none 0 0)), .d (.val (.slice none 0 0)), .d (.val (.slice none 0 0)), .d (iD 0)], .cells [.d (iD (zbl p).length), .d (zaj (zcm p p.mems.length).gs), .d (zao (zcm p p.mems.length).out), .d (intsD (zcm p p.mems.length).dr)]]) ?_ ?_
   ·refine jhj [0,1,6,9] ?_
    refine Rt.trans (Rt.heap (H' := [.cells (avs ((zcm p p.mems.length).out.flatMap za6)), .cells (avs ((zcm p p.mems.length).dr.map iD)), .cells [.d (.val (.slice none 0 0)), .d (.val (.slice none 0 0)), .d (.val (.slice none 0 0)), .d (.val (.slice none 0 0)), .d (iD 0)], .cells (zea p (zcm p p.mems.length))]) (by simp only [r_g, Nat.reduceAdd, ↓reduceIte, Nat.reduceEqDiff, zea, zk2, zhq, zds, zcz, intssD, intsD, zdi, zbp, sD, zc0, zc7, zf1, zcl, zaj, zao, zqb, za6, za2, zab, List.length_map]; first | done | rfl)) ?_
    refine Rt.trans (Rt.fz (id := 0) (l := ((zcm p p.mems.length).out.flatMap za6)) rfl) ?_
    refine Rt.trans (Rt.heap (H' := [.dead, .cells (avs ((zcm p p.mems.length).dr.map iD)), .cells [.d (.val (.slice none 0 0)), .d (.val (.slice none 0 0)), .d (.val (.slice none 0 0)), .d (.val (.slice none 0 0)), .d (iD 0)], .cells [.d (iD (zbl p).length), .d (zaj (zcm p p.mems.length).gs), .d (zao (zcm p p.mems.length).out), .os 1 1 0 (zcm p p.mems.length).out.length]]) (by simp only [r_g, Nat.reduceAdd, ↓reduceIte, Nat.reduceEqDiff, zea, zk2, zhq, zds, zcz, intssD, intsD, zdi, zbp, sD, zc0, zc7, zf1, zcl, zaj, zao, zqb, za6, za2, zab, List.length_map]; first | done | rfl)) ?_
    refine Rt.trans (Rt.fz (id := 1) (l := ((zcm p p.mems.length).dr.map iD)) rfl) ?_
    refine zw0 ?_
    refine jhz ?_; simp [za2, hdl, intsD, iD, zaj, zao]
   refine szq hp (fun _ hZ => zes hZ) ?_
   refine zaa fun K47 hK47 => ?_
   refine zag hp zai hc rfl fun K48 hK48 => ?_
   refine zes ?_
   refine za1 (hno) rfl ?_
   refine zes ?_
   refine hK48 _ _ ?_
   refine zah rfl (fun ht => ?_) (fun ht => ?_)
   ·exact absurd (of_decide_eq_true ht) (by omega)
   ·refine zaf (hK47 _ _ ?_)
    refine szq hp (fun _ hZ => zes hZ) ?_
    refine zal ?_
    try dsimp only [zbm, zaq]
    refine zak rfl ?_
    simp -dsimp -implicitDefEqProofs (disch := first | assumption | omega | (simp only [r_z, zab, za9] <;> omega) | decide) only [r_r, ↓reduceIte, Nat.reduceEqDiff, Nat.reduceAdd, D.fix, Int.reduceToNat, Nat.reduceMul, Nat.reduceBNe, Nat.reduceBEq, zea, zk2, zhq, zds, zcz, intssD, intsD, zdi, zbp, sD, zc0, zc7, zf1, zcl, zaj, zao, zqb, za6, jov, jzb]
    show closeA _ _ = _
    simp (disch := first | assumption | omega | (simp only [r_z, zab, za9] <;> omega) | decide) only [r_c, Nat.reduceAdd, D.fix, ↓reduceIte, Nat.reduceEqDiff, zea, zk2, zhq, zds, zcz, intssD, intsD, zdi, zbp, sD, zc0, zc7, zf1, zcl, zaj, zao, zqb, za6]
    rfl
end Go.Proofs.Ytapjobndmmkanaa
