/- Expressions that bytes describe. -/
import Derived.Test.YtapjobndmmkanaaQr
import Derived.Test.YtapjobndmmkanaaVb
set_option linter.unusedVariables false
set_option linter.unusedSimpArgs false
set_option maxRecDepth 100000
set_option maxHeartbeats 4000000
namespace Go.Proofs.Ytapjobndmmkanaa
open Go Go.RowKit
theorem jgz : ((((((type_of% @zgb) ∧ (type_of% @zgc)) ∧ ((type_of% @zg0) ∧ (type_of% @zg1))) ∧ (((type_of% @zmr) ∧ (type_of% @zig)) ∧ ((type_of% @zmb) ∧ ((type_of% @zq4) ∧ (type_of% @zev))))) ∧ ((((type_of% @zew) ∧ (type_of% @zq5)) ∧ ((type_of% @zi3) ∧ (type_of% @zi5))) ∧ (((type_of% @zq6) ∧ (type_of% @zi1)) ∧ ((type_of% @zps) ∧ ((type_of% @zpt) ∧ (type_of% @zuq)))))) ∧ (((((type_of% @ziy) ∧ (type_of% @zjd)) ∧ ((type_of% @zdu) ∧ (type_of% @zdv))) ∧ (((type_of% @zjc) ∧ (type_of% @jbh)) ∧ ((type_of% @zlq) ∧ ((type_of% @jbg) ∧ (type_of% @zi2))))) ∧ ((((type_of% @zd6) ∧ (type_of% @zel)) ∧ ((type_of% @jbi) ∧ ((type_of% @zma) ∧ (type_of% @zga)))) ∧ (((type_of% @ziw) ∧ (type_of% @zni)) ∧ ((type_of% @zyu) ∧ ((type_of% @zl9) ∧ (type_of% @zi4))))))) := ⟨⟨⟨⟨⟨@zgb, @zgc⟩, ⟨@zg0, @zg1⟩⟩, ⟨⟨@zmr, @zig⟩, ⟨@zmb, ⟨@zq4, @zev⟩⟩⟩⟩, ⟨⟨⟨@zew, @zq5⟩, ⟨@zi3, @zi5⟩⟩, ⟨⟨@zq6, @zi1⟩, ⟨@zps, ⟨@zpt, @zuq⟩⟩⟩⟩⟩, ⟨⟨⟨⟨@ziy, @zjd⟩, ⟨@zdu, @zdv⟩⟩, ⟨⟨@zjc, @jbh⟩, ⟨@zlq, ⟨@jbg, @zi2⟩⟩⟩⟩, ⟨⟨⟨@zd6, @zel⟩, ⟨@jbi, ⟨@zma, @zga⟩⟩⟩, ⟨⟨@ziw, @zni⟩, ⟨@zyu, ⟨@zl9, @zi4⟩⟩⟩⟩⟩⟩
def zvm : Nat → Nat
 | 0 => 0
 | 1 => 0
 | d + 2 => 3 * zvm (d + 1) + 32
def byD : Nat → Nat
 | 0 => 1
 | 1 => 1
 | d + 2 => 3 * byD (d + 1) + 1
def jb0 (d : Nat) : Nat := 1000000 * (10 - d)
theorem jz6 {d : Nat} (h : d ≤ 3) : jb0 (d + 2) + 300001 ≤ jb0 (d + 1) ∧ jb0 (d + 1) ≤ 10000000 := by
 rcases (show d = 0 ∨ d = 1 ∨ d = 2 ∨ d = 3 by omega) with rfl | rfl | rfl | rfl <;> decide
theorem jnu : ∀ d, 1 ≤ byD d
 | 0 => Nat.le_refl _
 | 1 => Nat.le_refl _
 | d + 2 => by rw [byD]; omega
def ze8 (b : List Int) (i : Nat) : AV := .agg [.d (bytesD b), .d (iD i)]
def tyV (e : Ex) (b : List Int) (j : Nat) : AV := .agg ((exC e ++ zbu b j).map .d)
def TyQ (C : Ct) (s : Sc) (b : List Int) (i w n m : Nat) (x : AV) (S' : zad) : Prop := ∃ (e : Ex) (j : Nat), Fit C s.q w n e ∧ i ≤ j ∧ j ≤ i + m ∧ x = tyV e b j ∧ ∃ g, S' = [zdm s, .cells g]
def TyK (d : Nat) : Prop := ∀ (C : Ct) (s : Sc) (b : List Int) (i w : Nat), CtOk C → ScOk C s → zfx b → b.length ≤ maxLen → 1 ≤ w → w + d ≤ 8 → i ≤ jb0 d →
 ScS Try.prog [0] 60 [ze8 b i, .agg (scV s), .agg [.d (iD w), .d (iD d)]] [zdm s, .free] (TyQ C s b i w (zvm d) (byD d))
theorem zce (e : Ex) : ∃ o k w cs n, exC e = [iD o, nS, iD k, nS, iD w, nS, .fs cs n] := by cases e <;> exact ⟨_, _, _, _, _, rfl⟩
theorem zkz {p q : Prop} (hq : q) (h : p = q := by
 conv => lhs; simp -dsimp -implicitDefEqProofs (disch := first | assumption | omega | (simp only [r_z, zb6, zb3] <;> omega) | decide) only [r_r, ↓reduceIte, Nat.reduceEqDiff, Nat.reduceAdd, D.fix, Int.reduceToNat, Nat.reduceMul, Nat.reduceBNe, Nat.reduceBEq, ze8, zbu, scV, nI, exR, zb4, zb5, jgz]) : p := h.mpr hq
theorem jwo {p q r : Prop} (e : r) (hq : q) (h : r → p = q := by
 intro hY
 conv => lhs; simp -dsimp -implicitDefEqProofs (disch := first | assumption | omega | (simp only [r_z, zb6, zb3] <;> omega) | decide) only [r_r, ↓reduceIte, Nat.reduceEqDiff, Nat.reduceAdd, D.fix, Int.reduceToNat, Nat.reduceMul, Nat.reduceBNe, Nat.reduceBEq, r_w, ze8, zbu, scV, nI, exR, zb4, zb5, jgz, hY]) : p := (h e).mpr hq
theorem jwp (k : List Nat) {m : List Nat} {τ τ1 : Fr} {H H1 : zad} (h : Rt m (fun t => gcV k (τ t)) (gcH k H) τ1 H1) (a : ∀ i ∈ m, k[i]? = some i := by decide) (b : k.Nodup := by decide) (c : ∀ i ∈ k, i < H.length := by
 simp [fzH, gcH]) : Rt m τ H τ1 H1 := Rt.trans (Rt.gc a b c) h
theorem jnv {m : List Nat} {τ τ' : Fr} {H H' : zad} (h2 : H = H') (h : zgu τ τ' := by
 repeat (first | exact zar _ | refine zam ?_ (by first | rfl | (simp [r_f, zb6, zb3]; done) | simp [r_f, zb6, zb3, *]))) : Rt m τ H τ' H' := Rt.end h h2
theorem jg0 {p q : Prop} (hq : q) (h : p = q := by
 conv => lhs; simp -dsimp -implicitDefEqProofs (disch := first | assumption | omega | (simp only [r_z, zb6, zb3] <;> omega) | decide) only [r_r, ↓reduceIte, Nat.reduceEqDiff, Nat.reduceAdd, D.fix, Int.reduceToNat, Nat.reduceMul, Nat.reduceBNe, Nat.reduceBEq, ze8, zbu, scV, nI, exR, zb4, zb5, zig, jff]) : p := h.mpr hq
theorem jrf {p q : Prop} (hq : q) (h : p = q := by
 conv => lhs; simp only [r_g, Nat.reduceAdd, ↓reduceIte, Nat.reduceEqDiff, ze8, zbu, scV, nI, exR, zb4, zb5]) : p := h.mpr hq
theorem jp4 (C : Ct) (s : Sc) (b : List Int) (i w : Nat) (hC : CtOk C) (hs : ScOk C s) (hb : zfx b) (hl : b.length ≤ maxLen) (hw : 1 ≤ w) (hw8 : w + 1 ≤ 8) (hi : i ≤ jb0 1) : ScS Try.prog [0] 60 [ze8 b i, .agg (scV s), .agg [.d (iD w), .d (iD 1)]] ([zdm s, .free]) (TyQ C s b i w (zvm 1) (byD 1)) := by
 refine zeo (fn := Try.f60) (by kernel_rfl) Try.func60 rfl (Nat.le_of_ble_eq_true rfl) fun c hc hp => ?_
 refine zle ?_
 have hcp : jb0 1 = 9000000 := by decide
 obtain ⟨y, hy⟩ : ∃ y : Nat, byN b i = y := ⟨(byN b i).toNat, by have := (zjj hb i).1; omega⟩
 have hy2 := (zjj hb i).2
 have hy14 : (y : Int) / 14 = ((y / 14 : Nat) : Int) := by omega
 have hyb := zmi b i hb hl
 rw [hy] at hyb
 refine szq hp (fun _ hZ => zkz hZ) ?_
 refine zas zai hc za8 rfl (q := 0) (by kernel_rfl) (by kernel_rfl) fun K2 hK2 => ?_
 refine zkz ?_
 refine hK2 _ _ ?_
 refine zag hp zai hc rfl fun K3 hK3 => ?_
 refine zkz ?_
 refine za1 (hyb) rfl ?_
 refine zkz ?_
 refine hK3 _ _ ?_
 refine zag hp zai hc rfl fun K4 hK4 => ?_
 refine zkz ?_
 refine za1 (jj7 b i 1 (by omega) (by omega)) rfl ?_
 refine zkz ?_
 refine hK4 _ _ ?_
 refine szq hp (fun _ hZ => zkz hZ) ?_
 refine zaa fun K6 hK6 => ?_
 refine zag hp zai hc rfl fun K7 hK7 => ?_
 simp -dsimp -implicitDefEqProofs (disch := first | assumption | omega | (simp only [r_z, zb6, zb3] <;> omega) | decide) only [r_r, ↓reduceIte, Nat.reduceEqDiff, Nat.reduceAdd, D.fix, Int.reduceToNat, Nat.reduceMul, Nat.reduceBNe, Nat.reduceBEq, ze8, zbu, scV, nI, exR, zb4, zb5, Int.reduceLE, decide_true, Bool.not_true, jgz]
 refine hK7 _ _ ?_
 refine zah rfl (fun ht => ?_) (fun ht => ?_)
 ·refine zcj zai hp hc za8 rfl [(0, []), (1, []), (2, []), (3, []), (5, []), (4, [5]), (6, []), (7, [])] [[], [], [], [2], [0, 1, 2, 3], [], [0, 1, 2, 3, 4, 5], [0, 1, 2, 3, 4, 5, 6]] 0 (by kernel_rfl) fun K8 hK8 => ?_
  refine jwo hy14 ?_
  refine jba (S := [zdm s, .free]) (T := [.cells (avs (zbu b (i + 1))), .cells (scV s), .cells [.d (iD w), .d (iD 1)], .cells [.d (iD 0), .d nS, .d (iD 0), .d nS, .d (iD 0), .d nS, .d (.val (.slice none 0 0)), .d (.val (.slice none 0 0)), .d (iD 0)]]) (jnt C s w (y / 14) hs hw (by omega) (by omega)) rfl (Nat.le_of_ble_eq_true rfl) (by first | rfl | (simp [AV.allIs, AV.allI, zbi, za3, za4, okI, ltI, zat, zb2, zba, scV, zbu]; done) | (intro o ho; simp at ho; done)) (fun t => zc8 (by first | rfl | (simp [AV.allIs, AV.allI, zbi, za3, za4, okI, ltI, zat, zb2, zba, scV, zbu]; done) | (intro o ho; simp at ho; done)) t) (fun t => zc8 (by first | rfl | (simp [AV.allIs, AV.allI, zbi, za3, za4, okI, ltI, zat, zb2, zba, scV, zbu]; done) | (intro o ho; simp at ho; done)) t) (by first | rfl | (simp [AV.allIs, AV.allI, zbi, za3, za4, okI, ltI, zat, zb2, zba, scV, zbu]; done) | (intro o ho; simp at ho; done)) (by first | rfl | (simp [AV.allIs, AV.allI, zbi, za3, za4, okI, ltI, zat, zb2, zba, scV, zbu]; done) | (intro o ho; simp at ho; done)) (by first | rfl | (simp [AV.allIs, AV.allI, zbi, za3, za4, okI, ltI, zat, zb2, zba, scV, zbu]; done) | (intro o ho; simp at ho; done)) ?_
  rintro _ _ ⟨e, he, rfl, g, rfl⟩
  refine ⟨rfl, ?_⟩
  obtain ⟨xo, xk, xw, xc, xn, hex⟩ := zce e; unfold exV; rw [hex]
  refine jwo hy14 ?_
  refine hK8 _ _ ?_
  refine zbg hp (τ' := frL [(6, .op 1 0)]) (H' := [zdm s, .cells [.d (iD xo), .d nS, .d (iD xk), .d nS, .d (iD xw), .d nS, .d (.fs xc xn), .d (bytesD b), .d (iD (i + 1 : Nat))]]) ?_ ?_
  ·refine jwp [0,5] ?_
   refine jnv ?_
   refine jrf ?_; simp [bytesD, iD]
  refine zal ?_
  try dsimp only [zbm, zaq]
  refine zak rfl ?_
  refine jg0 ?_
  show ∃ _, _
  exact ⟨e, i + 1, he, by omega, by show i + 1 ≤ i + 1; omega, by unfold tyV; rw [hex]; simp [zbu, iD, bytesD], _, rfl⟩
 ·simp at ht
theorem ybn : TyK 1 := fun C s b i w hC hs hb hl h1 h2 hi => jp4 C s b i w hC hs hb hl h1 h2 hi
theorem jwq {C : Ct} {s : Sc} (hs : ScOk C s) {k : Nat} (h : k < s.mems.length) : k < C.mems.length ∧ (nth C.mems k).2 = (nth s.mems k).w := by
 have hm := hs.m
 have hl := congrArg List.length hm
 simp only [List.length_map] at hl
 refine ⟨by omega, ?_⟩
 have : nth (C.mems.map (·.2)) k = nth (s.mems.map (·.w)) k := by rw [hm]
 rw [zgm (by omega), zgm h] at this
 exact this
theorem jwr {p q r : Prop} (e : r) (hq : q) (h : r → p = q := by
 intro hY
 conv => lhs; simp -dsimp -implicitDefEqProofs (disch := first | assumption | omega | (simp only [r_z, zb6, zb3] <;> omega) | decide) only [r_r, ↓reduceIte, Nat.reduceEqDiff, Nat.reduceAdd, D.fix, Int.reduceToNat, Nat.reduceMul, Nat.reduceBNe, Nat.reduceBEq, ze8, zbu, scV, nI, exR, zb4, zb5, ycw, zdm, jgz, hY]) : p := (h e).mpr hq
theorem zm3 {p q r : Prop} (e : r) (hq : q) (h : r → p = q := by
 intro hY
 conv => lhs; simp -dsimp -implicitDefEqProofs (disch := first | assumption | omega | (simp only [r_z, zb6, zb3] <;> omega) | decide) only [r_r, ↓reduceIte, Nat.reduceEqDiff, Nat.reduceAdd, D.fix, Int.reduceToNat, Nat.reduceMul, Nat.reduceBNe, Nat.reduceBEq, ze8, zbu, scV, nI, exR, zb4, zb5, jgz, hY]) : p := (h e).mpr hq
theorem jyk {P : Program} {sm : List Nat} {N : Nat} {τ : Fr} {H : zad} {f : FuncId} {args : List AV} {K0 KK : AV → zad → Prop} {ks : List Nat} (S T : zad) (h : ScS P ks f args S K0) (hK : ∀ x S', K0 x S' → S'.length = S.length ∧ KK x (S' ++ T)) (hH : H = S ++ T := by
 rfl) (hm : sm.all (okI ks S.length) = true := by
 first | rfl | (simp [AV.allIs, AV.allI, zbi, za3, za4, okI, ltI, zat, zb2, zba, scV, zbu]; done) | (intro o ho; simp at ho; done)) (hτ : ∀ t, (τ t).allI (okI ks S.length) = true := by
 exact fun t => zc8 (by first | rfl | (simp [AV.allIs, AV.allI, zbi, za3, za4, okI, ltI, zat, zb2, zba, scV, zbu]; done) | (intro o ho; simp at ho; done)) t) (ha : AV.allIs (ltI S.length) args = true := by
 first | rfl | (simp [AV.allIs, AV.allI, zbi, za3, za4, okI, ltI, zat, zb2, zba, scV, zbu]; done) | (intro o ho; simp at ho; done)) (hS : ∀ o ∈ S, o.allI (ltI S.length) = true := by
 first | rfl | (simp [AV.allIs, AV.allI, zbi, za3, za4, okI, ltI, zat, zb2, zba, scV, zbu]; done) | (intro o ho; simp at ho; done)) (hT : ∀ o ∈ T, o.allI (okI ks S.length) = true := by
 first | rfl | (simp [AV.allIs, AV.allI, zbi, za3, za4, okI, ltI, zat, zb2, zba, scV, zbu]; done) | (intro o ho; simp at ho; done)) : kC P sm N H τ (.d (.val (.func (.func f) #[] #[]))) args true (tg KK) := zwb h hH hm hτ ha hS hT hK
theorem ybo {p : Prop} (h : p := by
 first | rfl | (simp only [r_g, Nat.reduceAdd, ↓reduceIte, Nat.reduceEqDiff, ze8, zbu, scV, nI, exR, zb4, zb5]; first | done | rfl)) : p := h
theorem zvb (d : Nat) (hT : TyK (d + 1)) (C : Ct) (s : Sc) (b : List Int) (i w y : Nat) (hC : CtOk C) (hs : ScOk C s) (hb : zfx b) (hl : b.length ≤ maxLen) (hw : 1 ≤ w) (hw8 : w + (d + 2) ≤ 8) (hd : d ≤ 3) (hi : i ≤ jb0 (d + 1)) (hy : y < 1000) : ScS Try.prog [0] 96 [ze8 b i, .agg (scV s), .agg [.d (iD w), .d (iD (d + 2 : Nat)), .d (iD y)]] ([zdm s, .free]) (TyQ C s b i w (zvm (d + 2)) (byD (d + 2) - 1)) := by
 refine zeo (fn := Try.f96) (by kernel_rfl) Try.func96 rfl (Nat.le_of_ble_eq_true rfl) fun c hc hp => ?_
 refine zle ?_
 have hml := hs.ml
 have hy3 : (y : Int) / 3 = ((y / 3 : Nat) : Int) := by omega
 have hy33 : ((y / 3 : Nat) : Int) % 3 = ((y / 3 % 3 : Nat) : Int) := by omega
 have hy32 : ((y / 3 : Nat) : Int) % 2 = ((y / 3 % 2 : Nat) : Int) := by omega
 have hdd : ((d + 2 : Nat) : Int) - 1 = ((d + 1 : Nat) : Int) := by omega
 have hw1' : (1 : Int) + ((y / 3 % 3 : Nat) : Int) = ((1 + y / 3 % 3 : Nat) : Int) := by omega
 have hw2' : (w : Int) + ((y / 3 % 2 : Nat) : Int) = ((w + y / 3 % 2 : Nat) : Int) := by omega
 have hcs : zvm (d + 2) = 3 * zvm (d + 1) + 32 := rfl
 have hby : byD (d + 2) = 3 * byD (d + 1) + 1 := rfl
 have hbp := jnu (d + 1)
 refine szq hp (fun _ hZ => zkz hZ) ?_
 refine zas zai hc za8 rfl (q := 0) (by kernel_rfl) (by kernel_rfl) fun K2 hK2 => ?_
 refine zkz ?_
 refine hK2 _ _ ?_
 refine zaa fun K3 hK3 => ?_
 refine zag hp zai hc rfl fun K4 hK4 => ?_
 simp -dsimp -implicitDefEqProofs (disch := first | assumption | omega | (simp only [r_z, zb6, zb3] <;> omega) | decide) only [r_r, ↓reduceIte, Nat.reduceEqDiff, Nat.reduceAdd, D.fix, Int.reduceToNat, Nat.reduceMul, Nat.reduceBNe, Nat.reduceBEq, ze8, zbu, scV, nI, exR, zb4, zb5]
 refine hK4 _ _ ?_
 refine zac ?_
 refine zan hp (fun τ' H' mm => ∃ (k : Nat), (k ≤ s.mems.length) ∧ mm = s.mems.length - k ∧ H' = zdm s :: .free :: [.cells (avs (zbu b i)), .cells (scV s), .cells [.d (iD w), .d (iD (d + 2 : Nat)), .d (iD y)], .cells [.d (iD 0), .d nS, .d (iD 0), .d nS, .d (iD 0), .d nS, .d (.val (.slice none 0 0)), .d (.val (.slice none 0 0)), .d (iD 0)]] ∧ τ' = frL [(3, .op 2 0), (4, .op 3 0), (6, .op 5 0), (7, .d (iD w)), (8, .d (iD (d + 2 : Nat))), (9, .d (iD y)), (10, .d (iD k))]) (s.mems.length) ?_ ⟨0, Nat.zero_le _, rfl, rfl, rfl⟩ ?_
 ·refine jnv ?_
  refine jrf ?_; simp [nS, iD, oD]
 rintro τ' H' mm ⟨k, hk, rfl, rfl, rfl⟩
 refine zaa fun K5 hK5 => ?_
 refine szq hp (fun _ hZ => zkz hZ) ?_
 refine zah rfl (fun ht => ?_) (fun ht => ?_)
 ·have hlt : k < s.mems.length := by simp at ht; omega
  obtain ⟨hk1, hk2⟩ := jwq hs hlt
  refine zaf (hK5 _ _ ?_)
  refine zaa fun K7 hK7 => ?_
  refine zac ?_
  refine zag hp zai hc rfl fun K8 hK8 => ?_
  rcases tf (((nth s.mems k).w : Int) == (w : Int)) with e1 | e1
  ·refine jwr e1 ?_
   refine hK8 _ _ ?_
   refine zah rfl (fun ht => ?_) (fun ht => ?_)
   ·have hww : (nth s.mems k).w = w := by simp at e1; omega
    have h33 : y / 3 % 3 < 3 := Nat.mod_lt _ (by decide)
    refine zag hp zai hc rfl fun K9 hK9 => ?_
    refine zm3 (sza hy3 (sza hy33 (sza hw1' hdd))) ?_
    refine jyk ([zdm s, .free]) ([.cells (avs (zbu b i)), .cells (scV s), .cells [.d (iD w), .d (iD (d + 2 : Nat)), .d (iD y)], .cells [.d (iD 0), .d nS, .d (iD 0), .d nS, .d (iD 0), .d nS, .d (.val (.slice none 0 0)), .d (.val (.slice none 0 0)), .d (iD 0)]]) (hT C s b i (1 + y / 3 % 3) hC hs hb hl (by omega) (by omega) hi) ?_
    rintro _ _ ⟨e, j, he, hj1, hj2, rfl, g, rfl⟩
    refine ⟨rfl, ?_⟩
    obtain ⟨xo, xk, xw, xc, xn, hex⟩ := zce e; unfold tyV; rw [hex]; dsimp only [List.map_cons, List.map_nil, List.cons_append, List.nil_append, zbu]
    refine zm3 (sza hy3 (sza hy33 (sza hw1' hdd))) ?_
    refine hK9 _ _ ?_
    refine szq hp (fun _ hZ => zkz hZ) ?_
    refine zbg hp (τ' := frL [(6, .op 1 0)]) (H' := [zdm s, .cells [.d (iD 17), .d nS, .d (iD k), .d nS, .d (iD 0), .d nS, .d (.fs [iD xo, nS, iD xk, nS, iD xw, nS, .fs xc xn] 1), .d (bytesD b), .d (iD j)]]) ?_ ?_
    ·refine Rt.trans (Rt.fz (id := 7) (l := [iD xo, nS, iD xk, nS, iD xw, nS, .fs xc xn]) rfl) ?_
     refine jwp [0,5] ?_
     refine jnv ?_
     refine jrf ?_; simp [bytesD, iD, nS, zb7, gcV]
    refine zal ?_
    try dsimp only [zbm, zaq]
    refine zak rfl ?_
    refine jg0 ?_
    show ∃ _, _
    have hcm := hC.m k hk1
    exact ⟨.rd k e, j, ⟨⟨he.t, hk1⟩, hk2.trans hww, by have := he.n; simp only [zbw]; omega⟩, hj1, by omega, by simp [tyV, exC, hex, exR, zbu, nS, iD, bytesD], _, rfl⟩
   ·refine zaf (hK7 _ _ ?_)
    refine za5 hp zai hc rfl fun K11 hK11 => ?_
    refine zkz ?_
    refine hK11 _ _ ⟨_, _, _, ?_, ⟨k + 1, by omega, rfl, rfl, rfl⟩, ?_⟩
    ·first | omega | (simp only [List.length_cons]; omega) | (dsimp only; omega)
    ·refine jnv ?_
     exact ybo
  ·refine jwr e1 ?_
   refine hK8 _ _ ?_
   refine szf ?_
   refine zaf (hK7 _ _ ?_)
   refine za5 hp zai hc rfl fun K12 hK12 => ?_
   refine zkz ?_
   refine hK12 _ _ ⟨_, _, _, ?_, ⟨k + 1, by omega, rfl, rfl, rfl⟩, ?_⟩
   ·first | omega | (simp only [List.length_cons]; omega) | (dsimp only; omega)
   ·refine jnv ?_
    exact ybo
 ·refine zau (hK3 _ _ ?_)
  refine zaa fun K13 hK13 => ?_
  refine zag hp zai hc rfl fun K14 hK14 => ?_
  rcases tf ((y : Int) % 3 == 1) with e1 | e1
  ·refine zm3 e1 ?_
   refine hK14 _ _ ?_
   refine zah rfl (fun ht => ?_) (fun ht => ?_)
   ·have hw1 : 1 < w := by simp at ht; omega
    have hwm : (w : Int) - 1 = ((w - 1 : Nat) : Int) := by omega
    refine zag hp zai hc rfl fun K15 hK15 => ?_
    refine zm3 (sza hwm hdd) ?_
    refine jyk ([zdm s, .free]) ([.cells (avs (zbu b i)), .cells (scV s), .cells [.d (iD w), .d (iD (d + 2 : Nat)), .d (iD y)], .cells [.d (iD 0), .d nS, .d (iD 0), .d nS, .d (iD 0), .d nS, .d (.val (.slice none 0 0)), .d (.val (.slice none 0 0)), .d (iD 0)]]) (hT C s b i (w - 1) hC hs hb hl (by omega) (by omega) hi) ?_
    rintro _ _ ⟨e, j, he, hj1, hj2, rfl, g, rfl⟩
    refine ⟨rfl, ?_⟩
    obtain ⟨xo, xk, xw, xc, xn, hex⟩ := zce e; unfold tyV; rw [hex]; dsimp only [List.map_cons, List.map_nil, List.cons_append, List.nil_append, zbu]
    refine zm3 (sza hwm hdd) ?_
    refine hK15 _ _ ?_
    refine szq hp (fun _ hZ => zkz hZ) ?_
    refine zbg hp (τ' := frL [(6, .op 1 0)]) (H' := [zdm s, .cells [.d (iD 13), .d nS, .d (iD 0), .d nS, .d (iD w), .d nS, .d (.fs [iD xo, nS, iD xk, nS, iD xw, nS, .fs xc xn] 1), .d (bytesD b), .d (iD j)]]) ?_ ?_
    ·refine Rt.trans (Rt.fz (id := 7) (l := [iD xo, nS, iD xk, nS, iD xw, nS, .fs xc xn]) rfl) ?_
     refine jwp [0,5] ?_
     refine jnv ?_
     refine jrf ?_; simp [bytesD, iD, nS, zb7, gcV]
    refine zal ?_
    try dsimp only [zbm, zaq]
    refine zak rfl ?_
    refine jg0 ?_
    show ∃ _, _
    exact ⟨.ext w e, j, ⟨⟨he.t, by rw [he.w]; omega, by omega⟩, rfl, by have := he.n; simp only [zbw]; omega⟩, hj1, by omega, by simp [tyV, exC, hex, exR, zbu, nS, iD, bytesD], _, rfl⟩
   ·refine zaf (hK13 _ _ ?_)
    have h22 : y / 3 % 2 < 2 := Nat.mod_lt _ (by decide)
    refine zag hp zai hc rfl fun K17 hK17 => ?_
    refine zm3 (sza hy3 (sza hy32 (sza hw2' hdd))) ?_
    refine jyk ([zdm s, .free]) ([.cells (avs (zbu b i)), .cells (scV s), .cells [.d (iD w), .d (iD (d + 2 : Nat)), .d (iD y)], .cells [.d (iD 0), .d nS, .d (iD 0), .d nS, .d (iD 0), .d nS, .d (.val (.slice none 0 0)), .d (.val (.slice none 0 0)), .d (iD 0)]]) (hT C s b i (w + y / 3 % 2) hC hs hb hl (by omega) (by omega) hi) ?_
    rintro _ _ ⟨e, j, he, hj1, hj2, rfl, g, rfl⟩
    refine ⟨rfl, ?_⟩
    obtain ⟨xo, xk, xw, xc, xn, hex⟩ := zce e; unfold tyV; rw [hex]; dsimp only [List.map_cons, List.map_nil, List.cons_append, List.nil_append, zbu]
    refine zm3 (sza hy3 (sza hy32 (sza hw2' hdd))) ?_
    refine hK17 _ _ ?_
    refine szq hp (fun _ hZ => zm3 (sza hy3 hy32) hZ) ?_
    refine zbg hp (τ' := frL [(6, .op 1 0)]) (H' := [zdm s, .cells [.d (iD 12), .d nS, .d (iD (y / 3 % 2 : Nat)), .d nS, .d (iD w), .d nS, .d (.fs [iD xo, nS, iD xk, nS, iD xw, nS, .fs xc xn] 1), .d (bytesD b), .d (iD j)]]) ?_ ?_
    ·refine Rt.trans (Rt.fz (id := 7) (l := [iD xo, nS, iD xk, nS, iD xw, nS, .fs xc xn]) rfl) ?_
     refine jwp [0,5] ?_
     refine jnv ?_
     refine jrf ?_; simp [bytesD, iD, nS, zb7, gcV]
    refine zal ?_
    try dsimp only [zbm, zaq]
    refine zak rfl ?_
    refine jg0 ?_
    show ∃ _, _
    exact ⟨.slc (y / 3 % 2) w e, j, ⟨⟨he.t, hw, by rw [he.w]; omega⟩, rfl, by have := he.n; simp only [zbw]; omega⟩, hj1, by omega, by simp [tyV, exC, hex, exR, zbu, nS, iD, bytesD], _, rfl⟩
  ·refine zm3 e1 ?_
   refine hK14 _ _ ?_
   refine szf ?_
   refine zaf (hK13 _ _ ?_)
   have h22 : y / 3 % 2 < 2 := Nat.mod_lt _ (by decide)
   refine zag hp zai hc rfl fun K19 hK19 => ?_
   refine zm3 (sza hy3 (sza hy32 (sza hw2' hdd))) ?_
   refine jyk ([zdm s, .free]) ([.cells (avs (zbu b i)), .cells (scV s), .cells [.d (iD w), .d (iD (d + 2 : Nat)), .d (iD y)], .cells [.d (iD 0), .d nS, .d (iD 0), .d nS, .d (iD 0), .d nS, .d (.val (.slice none 0 0)), .d (.val (.slice none 0 0)), .d (iD 0)]]) (hT C s b i (w + y / 3 % 2) hC hs hb hl (by omega) (by omega) hi) ?_
   rintro _ _ ⟨e, j, he, hj1, hj2, rfl, g, rfl⟩
   refine ⟨rfl, ?_⟩
   obtain ⟨xo, xk, xw, xc, xn, hex⟩ := zce e; unfold tyV; rw [hex]; dsimp only [List.map_cons, List.map_nil, List.cons_append, List.nil_append, zbu]
   refine zm3 (sza hy3 (sza hy32 (sza hw2' hdd))) ?_
   refine hK19 _ _ ?_
   refine szq hp (fun _ hZ => zm3 (sza hy3 hy32) hZ) ?_
   refine zbg hp (τ' := frL [(6, .op 1 0)]) (H' := [zdm s, .cells [.d (iD 12), .d nS, .d (iD (y / 3 % 2 : Nat)), .d nS, .d (iD w), .d nS, .d (.fs [iD xo, nS, iD xk, nS, iD xw, nS, .fs xc xn] 1), .d (bytesD b), .d (iD j)]]) ?_ ?_
   ·refine Rt.trans (Rt.fz (id := 7) (l := [iD xo, nS, iD xk, nS, iD xw, nS, .fs xc xn]) rfl) ?_
    refine jwp [0,5] ?_
    refine jnv ?_
    refine jrf ?_; simp [bytesD, iD, nS, zb7, gcV]
   refine zal ?_
   try dsimp only [zbm, zaq]
   refine zak rfl ?_
   refine jg0 ?_
   show ∃ _, _
   exact ⟨.slc (y / 3 % 2) w e, j, ⟨⟨he.t, hw, by rw [he.w]; omega⟩, rfl, by have := he.n; simp only [zbw]; omega⟩, hj1, by omega, by simp [tyV, exC, hex, exR, zbu, nS, iD, bytesD], _, rfl⟩
end Go.Proofs.Ytapjobndmmkanaa
