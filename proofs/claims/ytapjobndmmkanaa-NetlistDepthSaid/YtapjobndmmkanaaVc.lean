/- Expressions that bytes describe. -/
import Derived.Test.YtapjobndmmkanaaQr
import Derived.Test.YtapjobndmmkanaaVb
set_option linter.unusedVariables false
set_option linter.unusedSimpArgs false
set_option maxRecDepth 100000
set_option maxHeartbeats 4000000
namespace Go.Proofs.Ytapjobndmmkanaa
open Go Go.RowKit
theorem jgg : ((((((type_of% @zgc) ∧ (type_of% @zgd)) ∧ ((type_of% @zg8) ∧ (type_of% @zg9))) ∧ (((type_of% @jjq) ∧ (type_of% @ziq)) ∧ ((type_of% @zmd) ∧ ((type_of% @zqi) ∧ (type_of% @zew))))) ∧ ((((type_of% @zex) ∧ (type_of% @zqj)) ∧ ((type_of% @zjf) ∧ (type_of% @zjh))) ∧ (((type_of% @zjy) ∧ (type_of% @zjd)) ∧ ((type_of% @zk1) ∧ ((type_of% @zk2) ∧ (type_of% @zms)))))) ∧ (((((type_of% @zga) ∧ (type_of% @ztq)) ∧ ((type_of% @zik) ∧ (type_of% @zil))) ∧ (((type_of% @ztp) ∧ (type_of% @zpn)) ∧ ((type_of% @zgx) ∧ ((type_of% @zpm) ∧ (type_of% @zje))))) ∧ ((((type_of% @zdj) ∧ (type_of% @zdz)) ∧ ((type_of% @zpo) ∧ ((type_of% @zhw) ∧ (type_of% @zdr)))) ∧ (((type_of% @zen) ∧ (type_of% @zi8)) ∧ ((type_of% @zi9) ∧ ((type_of% @zhu) ∧ (type_of% @zjg))))))) := ⟨⟨⟨⟨⟨@zgc, @zgd⟩, ⟨@zg8, @zg9⟩⟩, ⟨⟨@jjq, @ziq⟩, ⟨@zmd, ⟨@zqi, @zew⟩⟩⟩⟩, ⟨⟨⟨@zex, @zqj⟩, ⟨@zjf, @zjh⟩⟩, ⟨⟨@zjy, @zjd⟩, ⟨@zk1, ⟨@zk2, @zms⟩⟩⟩⟩⟩, ⟨⟨⟨⟨@zga, @ztq⟩, ⟨@zik, @zil⟩⟩, ⟨⟨@ztp, @zpn⟩, ⟨@zgx, ⟨@zpm, @zje⟩⟩⟩⟩, ⟨⟨⟨@zdj, @zdz⟩, ⟨@zpo, ⟨@zhw, @zdr⟩⟩⟩, ⟨⟨@zen, @zi8⟩, ⟨@zi9, ⟨@zhu, @zjg⟩⟩⟩⟩⟩⟩
def zu1 : Nat → Nat
 | 0 => 0
 | 1 => 0
 | d + 2 => 3 * zu1 (d + 1) + 32
def byD : Nat → Nat
 | 0 => 1
 | 1 => 1
 | d + 2 => 3 * byD (d + 1) + 1
def jb0 (d : Nat) : Nat := 1000000 * (10 - d)
theorem yci {d : Nat} (h : d ≤ 3) : jb0 (d + 2) + 300001 ≤ jb0 (d + 1) ∧ jb0 (d + 1) ≤ 10000000 := by
 rcases (show d = 0 ∨ d = 1 ∨ d = 2 ∨ d = 3 by omega) with rfl | rfl | rfl | rfl <;> decide
theorem joa : ∀ d, 1 ≤ byD d
 | 0 => Nat.le_refl _
 | 1 => Nat.le_refl _
 | d + 2 => by rw [byD]; omega
def ze5 (b : List Int) (i : Nat) : AV := .agg [.d (bytesD b), .d (iD i)]
def tyV (e : Ex) (b : List Int) (j : Nat) : AV := .agg ((exC e ++ zbo b j).map .d)
def TyQ (C : Ct) (s : Sc) (b : List Int) (i w n m : Nat) (x : AV) (S' : zae) : Prop := ∃ (e : Ex) (j : Nat), Fit C s.q w n e ∧ i ≤ j ∧ j ≤ i + m ∧ x = tyV e b j ∧ ∃ g, S' = [zde s, .cells g]
def TyK (d : Nat) : Prop := ∀ (C : Ct) (s : Sc) (b : List Int) (i w : Nat), CtOk C → ScOk C s → zg6 b → b.length ≤ maxLen → 1 ≤ w → w + d ≤ 8 → i ≤ jb0 d →
 ScS Try.prog [0] 60 [ze5 b i, .agg (scV s), .agg [.d (iD w), .d (iD d)]] [zde s, .free] (TyQ C s b i w (zu1 d) (byD d))
theorem zb8 (e : Ex) : ∃ o k w cs n, exC e = [iD o, nS, iD k, nS, iD w, nS, .fs cs n] := by cases e <;> exact ⟨_, _, _, _, _, rfl⟩
theorem zlc {p q : Prop} (hq : q) (h : p = q := by
 conv => lhs; simp -dsimp -implicitDefEqProofs (disch := first | assumption | omega | (simp only [r_z, zb0, zbt] <;> omega) | decide) only [r_r, ↓reduceIte, Nat.reduceEqDiff, Nat.reduceAdd, D.fix, Int.reduceToNat, Nat.reduceMul, Nat.reduceBNe, Nat.reduceBEq, ze5, zbo, scV, nI, exR, zbw, zbx, jgg]) : p := h.mpr hq
theorem jwm {p q r : Prop} (e : r) (hq : q) (h : r → p = q := by
 intro hY
 conv => lhs; simp -dsimp -implicitDefEqProofs (disch := first | assumption | omega | (simp only [r_z, zb0, zbt] <;> omega) | decide) only [r_r, ↓reduceIte, Nat.reduceEqDiff, Nat.reduceAdd, D.fix, Int.reduceToNat, Nat.reduceMul, Nat.reduceBNe, Nat.reduceBEq, r_w, ze5, zbo, scV, nI, exR, zbw, zbx, jgg, hY]) : p := (h e).mpr hq
theorem jwn (k : List Nat) {m : List Nat} {τ τ1 : Fr} {H H1 : zae} (h : Rt m (fun t => gcV k (τ t)) (gcH k H) τ1 H1) (a : ∀ i ∈ m, k[i]? = some i := by decide) (b : k.Nodup := by decide) (c : ∀ i ∈ k, i < H.length := by
 simp [fzH, gcH]) : Rt m τ H τ1 H1 := Rt.trans (Rt.gc a b c) h
theorem job {m : List Nat} {τ τ' : Fr} {H H' : zae} (h2 : H = H') (h : zfq τ τ' := by
 repeat (first | exact zas _ | refine zao ?_ (by first | rfl | (simp [r_f, zb0, zbt]; done) | simp [r_f, zb0, zbt, *]))) : Rt m τ H τ' H' := Rt.end h h2
theorem jgh {p q : Prop} (hq : q) (h : p = q := by
 conv => lhs; simp -dsimp -implicitDefEqProofs (disch := first | assumption | omega | (simp only [r_z, zb0, zbt] <;> omega) | decide) only [r_r, ↓reduceIte, Nat.reduceEqDiff, Nat.reduceAdd, D.fix, Int.reduceToNat, Nat.reduceMul, Nat.reduceBNe, Nat.reduceBEq, ze5, zbo, scV, nI, exR, zbw, zbx, ziq, jf1]) : p := h.mpr hq
theorem jst {p q : Prop} (hq : q) (h : p = q := by
 conv => lhs; simp only [r_g, Nat.reduceAdd, ↓reduceIte, Nat.reduceEqDiff, ze5, zbo, scV, nI, exR, zbw, zbx]) : p := h.mpr hq
theorem jqe (C : Ct) (s : Sc) (b : List Int) (i w : Nat) (hC : CtOk C) (hs : ScOk C s) (hb : zg6 b) (hl : b.length ≤ maxLen) (hw : 1 ≤ w) (hw8 : w + 1 ≤ 8) (hi : i ≤ jb0 1) : ScS Try.prog [0] 60 [ze5 b i, .agg (scV s), .agg [.d (iD w), .d (iD 1)]] ([zde s, .free]) (TyQ C s b i w (zu1 1) (byD 1)) := by
 refine zbh (fn := Try.f60) (by kernel_rfl) Try.func60 rfl (Nat.le_of_ble_eq_true rfl) fun c hc hp => ?_
 refine ze8 ?_
 have hcp : jb0 1 = 9000000 := by decide
 obtain ⟨y, hy⟩ : ∃ y : Nat, byN b i = y := ⟨(byN b i).toNat, by have := (zjr hb i).1; omega⟩
 have hy2 := (zjr hb i).2
 have hy14 : (y : Int) / 14 = ((y / 14 : Nat) : Int) := by omega
 have hyb := zmi b i hb hl
 rw [hy] at hyb
 refine szq hp (fun _ hZ => zlc hZ) ?_
 refine za5 zak hc mixed rfl (q := 0) (by kernel_rfl) (by kernel_rfl) fun K2 hK2 => ?_
 refine zlc ?_
 refine hK2 _ _ ?_
 refine zag hp zak hc rfl fun K3 hK3 => ?_
 refine zlc ?_
 refine zbp (hyb) rfl ?_
 refine zlc ?_
 refine hK3 _ _ ?_
 refine zag hp zak hc rfl fun K4 hK4 => ?_
 refine zlc ?_
 refine zbp (jj2 b i 1 (by omega) (by omega)) rfl ?_
 refine zlc ?_
 refine hK4 _ _ ?_
 refine szq hp (fun _ hZ => zlc hZ) ?_
 refine zaa fun K6 hK6 => ?_
 refine zag hp zak hc rfl fun K7 hK7 => ?_
 simp -dsimp -implicitDefEqProofs (disch := first | assumption | omega | (simp only [r_z, zb0, zbt] <;> omega) | decide) only [r_r, ↓reduceIte, Nat.reduceEqDiff, Nat.reduceAdd, D.fix, Int.reduceToNat, Nat.reduceMul, Nat.reduceBNe, Nat.reduceBEq, ze5, zbo, scV, nI, exR, zbw, zbx, Int.reduceLE, decide_true, Bool.not_true, jgg]
 refine hK7 _ _ ?_
 refine zal rfl (fun ht => ?_) (fun ht => ?_)
 ·refine za6 zak hp hc mixed rfl [(0, []), (1, []), (2, []), (3, []), (5, []), (4, [5]), (6, []), (7, [])] [[], [], [], [2], [0, 1, 2, 3], [], [0, 1, 2, 3, 4, 5], [0, 1, 2, 3, 4, 5, 6]] 0 (by kernel_rfl) fun K8 hK8 => ?_
  refine jwm hy14 ?_
  refine zlu (S := [zde s, .free]) (T := [.cells (avs (zbo b (i + 1))), .cells (scV s), .cells [.d (iD w), .d (iD 1)], .cells [.d (iD 0), .d nS, .d (iD 0), .d nS, .d (iD 0), .d nS, .d (.val (.slice none 0 0)), .d (.val (.slice none 0 0)), .d (iD 0)]]) (jn9 C s w (y / 14) hs hw (by omega) (by omega)) rfl (Nat.le_of_ble_eq_true rfl) (by first | rfl | (simp [AV.allIs, AV.allI, zaq, zah, zai, okI, ltI, zad, zax, zbe, scV, zbo]; done) | (intro o ho; simp at ho; done)) (fun t => zbi (by first | rfl | (simp [AV.allIs, AV.allI, zaq, zah, zai, okI, ltI, zad, zax, zbe, scV, zbo]; done) | (intro o ho; simp at ho; done)) t) (fun t => zbi (by first | rfl | (simp [AV.allIs, AV.allI, zaq, zah, zai, okI, ltI, zad, zax, zbe, scV, zbo]; done) | (intro o ho; simp at ho; done)) t) (by first | rfl | (simp [AV.allIs, AV.allI, zaq, zah, zai, okI, ltI, zad, zax, zbe, scV, zbo]; done) | (intro o ho; simp at ho; done)) (by first | rfl | (simp [AV.allIs, AV.allI, zaq, zah, zai, okI, ltI, zad, zax, zbe, scV, zbo]; done) | (intro o ho; simp at ho; done)) (by first | rfl | (simp [AV.allIs, AV.allI, zaq, zah, zai, okI, ltI, zad, zax, zbe, scV, zbo]; done) | (intro o ho; simp at ho; done)) ?_
  rintro _ _ ⟨e, he, rfl, g, rfl⟩
  refine ⟨rfl, ?_⟩
  obtain ⟨xo, xk, xw, xc, xn, hex⟩ := zb8 e; unfold exV; rw [hex]
  refine jwm hy14 ?_
  refine hK8 _ _ ?_
  refine zat hp (τ' := frL [(6, .op 1 0)]) (H' := [zde s, .cells [.d (iD xo), .d nS, .d (iD xk), .d nS, .d (iD xw), .d nS, .d (.fs xc xn), .d (bytesD b), .d (iD (i + 1 : Nat))]]) ?_ ?_
  ·refine jwn [0,5] ?_
   refine job ?_
   refine jst ?_; simp [bytesD, iD]
  refine zam ?_
  try dsimp only [zco, za8]
  refine zba rfl ?_
  refine jgh ?_
  show ∃ _, _
  exact ⟨e, i + 1, he, by omega, by show i + 1 ≤ i + 1; omega, by unfold tyV; rw [hex]; simp [zbo, iD, bytesD], _, rfl⟩
 ·simp at ht
theorem yfb : TyK 1 := fun C s b i w hC hs hb hl h1 h2 hi => jqe C s b i w hC hs hb hl h1 h2 hi
theorem jwo {C : Ct} {s : Sc} (hs : ScOk C s) {k : Nat} (h : k < s.mems.length) : k < C.mems.length ∧ (nth C.mems k).2 = (nth s.mems k).w := by
 have hm := hs.m
 have hl := congrArg List.length hm
 simp only [List.length_map] at hl
 refine ⟨by omega, ?_⟩
 have : nth (C.mems.map (·.2)) k = nth (s.mems.map (·.w)) k := by rw [hm]
 rw [zkd (by omega), zkd h] at this
 exact this
theorem jwp {p q r : Prop} (e : r) (hq : q) (h : r → p = q := by
 intro hY
 conv => lhs; simp -dsimp -implicitDefEqProofs (disch := first | assumption | omega | (simp only [r_z, zb0, zbt] <;> omega) | decide) only [r_r, ↓reduceIte, Nat.reduceEqDiff, Nat.reduceAdd, D.fix, Int.reduceToNat, Nat.reduceMul, Nat.reduceBNe, Nat.reduceBEq, ze5, zbo, scV, nI, exR, zbw, zbx, yg4, zde, jgg, hY]) : p := (h e).mpr hq
theorem zmz {p q r : Prop} (e : r) (hq : q) (h : r → p = q := by
 intro hY
 conv => lhs; simp -dsimp -implicitDefEqProofs (disch := first | assumption | omega | (simp only [r_z, zb0, zbt] <;> omega) | decide) only [r_r, ↓reduceIte, Nat.reduceEqDiff, Nat.reduceAdd, D.fix, Int.reduceToNat, Nat.reduceMul, Nat.reduceBNe, Nat.reduceBEq, ze5, zbo, scV, nI, exR, zbw, zbx, jgg, hY]) : p := (h e).mpr hq
theorem yav {P : Program} {sm : List Nat} {N : Nat} {τ : Fr} {H : zae} {f : FuncId} {args : List AV} {K0 KK : AV → zae → Prop} {ks : List Nat} (S T : zae) (h : ScS P ks f args S K0) (hK : ∀ x S', K0 x S' → S'.length = S.length ∧ KK x (S' ++ T)) (hH : H = S ++ T := by
 rfl) (hm : sm.all (okI ks S.length) = true := by
 first | rfl | (simp [AV.allIs, AV.allI, zaq, zah, zai, okI, ltI, zad, zax, zbe, scV, zbo]; done) | (intro o ho; simp at ho; done)) (hτ : ∀ t, (τ t).allI (okI ks S.length) = true := by
 exact fun t => zbi (by first | rfl | (simp [AV.allIs, AV.allI, zaq, zah, zai, okI, ltI, zad, zax, zbe, scV, zbo]; done) | (intro o ho; simp at ho; done)) t) (ha : AV.allIs (ltI S.length) args = true := by
 first | rfl | (simp [AV.allIs, AV.allI, zaq, zah, zai, okI, ltI, zad, zax, zbe, scV, zbo]; done) | (intro o ho; simp at ho; done)) (hS : ∀ o ∈ S, o.allI (ltI S.length) = true := by
 first | rfl | (simp [AV.allIs, AV.allI, zaq, zah, zai, okI, ltI, zad, zax, zbe, scV, zbo]; done) | (intro o ho; simp at ho; done)) (hT : ∀ o ∈ T, o.allI (okI ks S.length) = true := by
 first | rfl | (simp [AV.allIs, AV.allI, zaq, zah, zai, okI, ltI, zad, zax, zbe, scV, zbo]; done) | (intro o ho; simp at ho; done)) : kC P sm N H τ (.d (.val (.func (.func f) #[] #[]))) args true (tg KK) := zjo h hH hm hτ ha hS hT hK
theorem yfc {p : Prop} (h : p := by
 first | rfl | (simp only [r_g, Nat.reduceAdd, ↓reduceIte, Nat.reduceEqDiff, ze5, zbo, scV, nI, exR, zbw, zbx]; first | done | rfl)) : p := h
theorem zt1 (d : Nat) (hT : TyK (d + 1)) (C : Ct) (s : Sc) (b : List Int) (i w y : Nat) (hC : CtOk C) (hs : ScOk C s) (hb : zg6 b) (hl : b.length ≤ maxLen) (hw : 1 ≤ w) (hw8 : w + (d + 2) ≤ 8) (hd : d ≤ 3) (hi : i ≤ jb0 (d + 1)) (hy : y < 1000) : ScS Try.prog [0] 96 [ze5 b i, .agg (scV s), .agg [.d (iD w), .d (iD (d + 2 : Nat)), .d (iD y)]] ([zde s, .free]) (TyQ C s b i w (zu1 (d + 2)) (byD (d + 2) - 1)) := by
 refine zbh (fn := Try.f96) (by kernel_rfl) Try.func96 rfl (Nat.le_of_ble_eq_true rfl) fun c hc hp => ?_
 refine ze8 ?_
 have hml := hs.ml
 have hy3 : (y : Int) / 3 = ((y / 3 : Nat) : Int) := by omega
 have hy33 : ((y / 3 : Nat) : Int) % 3 = ((y / 3 % 3 : Nat) : Int) := by omega
 have hy32 : ((y / 3 : Nat) : Int) % 2 = ((y / 3 % 2 : Nat) : Int) := by omega
 have hdd : ((d + 2 : Nat) : Int) - 1 = ((d + 1 : Nat) : Int) := by omega
 have hw1' : (1 : Int) + ((y / 3 % 3 : Nat) : Int) = ((1 + y / 3 % 3 : Nat) : Int) := by omega
 have hw2' : (w : Int) + ((y / 3 % 2 : Nat) : Int) = ((w + y / 3 % 2 : Nat) : Int) := by omega
 have hcs : zu1 (d + 2) = 3 * zu1 (d + 1) + 32 := rfl
 have hby : byD (d + 2) = 3 * byD (d + 1) + 1 := rfl
 have hbp := joa (d + 1)
 refine szq hp (fun _ hZ => zlc hZ) ?_
 refine za5 zak hc mixed rfl (q := 0) (by kernel_rfl) (by kernel_rfl) fun K2 hK2 => ?_
 refine zlc ?_
 refine hK2 _ _ ?_
 refine zaa fun K3 hK3 => ?_
 refine zag hp zak hc rfl fun K4 hK4 => ?_
 simp -dsimp -implicitDefEqProofs (disch := first | assumption | omega | (simp only [r_z, zb0, zbt] <;> omega) | decide) only [r_r, ↓reduceIte, Nat.reduceEqDiff, Nat.reduceAdd, D.fix, Int.reduceToNat, Nat.reduceMul, Nat.reduceBNe, Nat.reduceBEq, ze5, zbo, scV, nI, exR, zbw, zbx]
 refine hK4 _ _ ?_
 refine zaf ?_
 refine zan hp (fun τ' H' mm => ∃ (k : Nat), (k ≤ s.mems.length) ∧ mm = s.mems.length - k ∧ H' = zde s :: .free :: [.cells (avs (zbo b i)), .cells (scV s), .cells [.d (iD w), .d (iD (d + 2 : Nat)), .d (iD y)], .cells [.d (iD 0), .d nS, .d (iD 0), .d nS, .d (iD 0), .d nS, .d (.val (.slice none 0 0)), .d (.val (.slice none 0 0)), .d (iD 0)]] ∧ τ' = frL [(3, .op 2 0), (4, .op 3 0), (6, .op 5 0), (7, .d (iD w)), (8, .d (iD (d + 2 : Nat))), (9, .d (iD y)), (10, .d (iD k))]) (s.mems.length) ?_ ⟨0, Nat.zero_le _, rfl, rfl, rfl⟩ ?_
 ·refine job ?_
  refine jst ?_; simp [nS, iD, oD]
 rintro τ' H' mm ⟨k, hk, rfl, rfl, rfl⟩
 refine zaa fun K5 hK5 => ?_
 refine szq hp (fun _ hZ => zlc hZ) ?_
 refine zal rfl (fun ht => ?_) (fun ht => ?_)
 ·have hlt : k < s.mems.length := by simp at ht; omega
  obtain ⟨hk1, hk2⟩ := jwo hs hlt
  refine zaj (hK5 _ _ ?_)
  refine zaa fun K7 hK7 => ?_
  refine zaf ?_
  refine zag hp zak hc rfl fun K8 hK8 => ?_
  rcases tf (((nth s.mems k).w : Int) == (w : Int)) with e1 | e1
  ·refine jwp e1 ?_
   refine hK8 _ _ ?_
   refine zal rfl (fun ht => ?_) (fun ht => ?_)
   ·have hww : (nth s.mems k).w = w := by simp at e1; omega
    have h33 : y / 3 % 3 < 3 := Nat.mod_lt _ (by decide)
    refine zag hp zak hc rfl fun K9 hK9 => ?_
    refine zmz (sza hy3 (sza hy33 (sza hw1' hdd))) ?_
    refine yav ([zde s, .free]) ([.cells (avs (zbo b i)), .cells (scV s), .cells [.d (iD w), .d (iD (d + 2 : Nat)), .d (iD y)], .cells [.d (iD 0), .d nS, .d (iD 0), .d nS, .d (iD 0), .d nS, .d (.val (.slice none 0 0)), .d (.val (.slice none 0 0)), .d (iD 0)]]) (hT C s b i (1 + y / 3 % 3) hC hs hb hl (by omega) (by omega) hi) ?_
    rintro _ _ ⟨e, j, he, hj1, hj2, rfl, g, rfl⟩
    refine ⟨rfl, ?_⟩
    obtain ⟨xo, xk, xw, xc, xn, hex⟩ := zb8 e; unfold tyV; rw [hex]; dsimp only [List.map_cons, List.map_nil, List.cons_append, List.nil_append, zbo]
    refine zmz (sza hy3 (sza hy33 (sza hw1' hdd))) ?_
    refine hK9 _ _ ?_
    refine szq hp (fun _ hZ => zlc hZ) ?_
    refine zat hp (τ' := frL [(6, .op 1 0)]) (H' := [zde s, .cells [.d (iD 17), .d nS, .d (iD k), .d nS, .d (iD 0), .d nS, .d (.fs [iD xo, nS, iD xk, nS, iD xw, nS, .fs xc xn] 1), .d (bytesD b), .d (iD j)]]) ?_ ?_
    ·refine Rt.trans (Rt.fz (id := 7) (l := [iD xo, nS, iD xk, nS, iD xw, nS, .fs xc xn]) rfl) ?_
     refine jwn [0,5] ?_
     refine job ?_
     refine jst ?_; simp [bytesD, iD, nS, zbv, gcV]
    refine zam ?_
    try dsimp only [zco, za8]
    refine zba rfl ?_
    refine jgh ?_
    show ∃ _, _
    have hcm := hC.m k hk1
    exact ⟨.rd k e, j, ⟨⟨he.t, hk1⟩, hk2.trans hww, by have := he.n; simp only [za0]; omega⟩, hj1, by omega, by simp [tyV, exC, hex, exR, zbo, nS, iD, bytesD], _, rfl⟩
   ·refine zaj (hK7 _ _ ?_)
    refine za1 hp zak hc rfl fun K11 hK11 => ?_
    refine zlc ?_
    refine hK11 _ _ ⟨_, _, _, ?_, ⟨k + 1, by omega, rfl, rfl, rfl⟩, ?_⟩
    ·first | omega | (simp only [List.length_cons]; omega) | (dsimp only; omega)
    ·refine job ?_
     exact yfc
  ·refine jwp e1 ?_
   refine hK8 _ _ ?_
   refine szf ?_
   refine zaj (hK7 _ _ ?_)
   refine za1 hp zak hc rfl fun K12 hK12 => ?_
   refine zlc ?_
   refine hK12 _ _ ⟨_, _, _, ?_, ⟨k + 1, by omega, rfl, rfl, rfl⟩, ?_⟩
   ·first | omega | (simp only [List.length_cons]; omega) | (dsimp only; omega)
   ·refine job ?_
    exact yfc
 ·refine zau (hK3 _ _ ?_)
  refine zaa fun K13 hK13 => ?_
  refine zag hp zak hc rfl fun K14 hK14 => ?_
  rcases tf ((y : Int) % 3 == 1) with e1 | e1
  ·refine zmz e1 ?_
   refine hK14 _ _ ?_
   refine zal rfl (fun ht => ?_) (fun ht => ?_)
   ·have hw1 : 1 < w := by simp at ht; omega
    have hwm : (w : Int) - 1 = ((w - 1 : Nat) : Int) := by omega
    refine zag hp zak hc rfl fun K15 hK15 => ?_
    refine zmz (sza hwm hdd) ?_
    refine yav ([zde s, .free]) ([.cells (avs (zbo b i)), .cells (scV s), .cells [.d (iD w), .d (iD (d + 2 : Nat)), .d (iD y)], .cells [.d (iD 0), .d nS, .d (iD 0), .d nS, .d (iD 0), .d nS, .d (.val (.slice none 0 0)), .d (.val (.slice none 0 0)), .d (iD 0)]]) (hT C s b i (w - 1) hC hs hb hl (by omega) (by omega) hi) ?_
    rintro _ _ ⟨e, j, he, hj1, hj2, rfl, g, rfl⟩
    refine ⟨rfl, ?_⟩
    obtain ⟨xo, xk, xw, xc, xn, hex⟩ := zb8 e; unfold tyV; rw [hex]; dsimp only [List.map_cons, List.map_nil, List.cons_append, List.nil_append, zbo]
    refine zmz (sza hwm hdd) ?_
    refine hK15 _ _ ?_
    refine szq hp (fun _ hZ => zlc hZ) ?_
    refine zat hp (τ' := frL [(6, .op 1 0)]) (H' := [zde s, .cells [.d (iD 13), .d nS, .d (iD 0), .d nS, .d (iD w), .d nS, .d (.fs [iD xo, nS, iD xk, nS, iD xw, nS, .fs xc xn] 1), .d (bytesD b), .d (iD j)]]) ?_ ?_
    ·refine Rt.trans (Rt.fz (id := 7) (l := [iD xo, nS, iD xk, nS, iD xw, nS, .fs xc xn]) rfl) ?_
     refine jwn [0,5] ?_
     refine job ?_
     refine jst ?_; simp [bytesD, iD, nS, zbv, gcV]
    refine zam ?_
    try dsimp only [zco, za8]
    refine zba rfl ?_
    refine jgh ?_
    show ∃ _, _
    exact ⟨.ext w e, j, ⟨⟨he.t, by rw [he.w]; omega, by omega⟩, rfl, by have := he.n; simp only [za0]; omega⟩, hj1, by omega, by simp [tyV, exC, hex, exR, zbo, nS, iD, bytesD], _, rfl⟩
   ·refine zaj (hK13 _ _ ?_)
    have h22 : y / 3 % 2 < 2 := Nat.mod_lt _ (by decide)
    refine zag hp zak hc rfl fun K17 hK17 => ?_
    refine zmz (sza hy3 (sza hy32 (sza hw2' hdd))) ?_
    refine yav ([zde s, .free]) ([.cells (avs (zbo b i)), .cells (scV s), .cells [.d (iD w), .d (iD (d + 2 : Nat)), .d (iD y)], .cells [.d (iD 0), .d nS, .d (iD 0), .d nS, .d (iD 0), .d nS, .d (.val (.slice none 0 0)), .d (.val (.slice none 0 0)), .d (iD 0)]]) (hT C s b i (w + y / 3 % 2) hC hs hb hl (by omega) (by omega) hi) ?_
    rintro _ _ ⟨e, j, he, hj1, hj2, rfl, g, rfl⟩
    refine ⟨rfl, ?_⟩
    obtain ⟨xo, xk, xw, xc, xn, hex⟩ := zb8 e; unfold tyV; rw [hex]; dsimp only [List.map_cons, List.map_nil, List.cons_append, List.nil_append, zbo]
    refine zmz (sza hy3 (sza hy32 (sza hw2' hdd))) ?_
    refine hK17 _ _ ?_
    refine szq hp (fun _ hZ => zmz (sza hy3 hy32) hZ) ?_
    refine zat hp (τ' := frL [(6, .op 1 0)]) (H' := [zde s, .cells [.d (iD 12), .d nS, .d (iD (y / 3 % 2 : Nat)), .d nS, .d (iD w), .d nS, .d (.fs [iD xo, nS, iD xk, nS, iD xw, nS, .fs xc xn] 1), .d (bytesD b), .d (iD j)]]) ?_ ?_
    ·refine Rt.trans (Rt.fz (id := 7) (l := [iD xo, nS, iD xk, nS, iD xw, nS, .fs xc xn]) rfl) ?_
     refine jwn [0,5] ?_
     refine job ?_
     refine jst ?_; simp [bytesD, iD, nS, zbv, gcV]
    refine zam ?_
    try dsimp only [zco, za8]
    refine zba rfl ?_
    refine jgh ?_
    show ∃ _, _
    exact ⟨.slc (y / 3 % 2) w e, j, ⟨⟨he.t, hw, by rw [he.w]; omega⟩, rfl, by have := he.n; simp only [za0]; omega⟩, hj1, by omega, by simp [tyV, exC, hex, exR, zbo, nS, iD, bytesD], _, rfl⟩
  ·refine zmz e1 ?_
   refine hK14 _ _ ?_
   refine szf ?_
   refine zaj (hK13 _ _ ?_)
   have h22 : y / 3 % 2 < 2 := Nat.mod_lt _ (by decide)
   refine zag hp zak hc rfl fun K19 hK19 => ?_
   refine zmz (sza hy3 (sza hy32 (sza hw2' hdd))) ?_
   refine yav ([zde s, .free]) ([.cells (avs (zbo b i)), .cells (scV s), .cells [.d (iD w), .d (iD (d + 2 : Nat)), .d (iD y)], .cells [.d (iD 0), .d nS, .d (iD 0), .d nS, .d (iD 0), .d nS, .d (.val (.slice none 0 0)), .d (.val (.slice none 0 0)), .d (iD 0)]]) (hT C s b i (w + y / 3 % 2) hC hs hb hl (by omega) (by omega) hi) ?_
   rintro _ _ ⟨e, j, he, hj1, hj2, rfl, g, rfl⟩
   refine ⟨rfl, ?_⟩
   obtain ⟨xo, xk, xw, xc, xn, hex⟩ := zb8 e; unfold tyV; rw [hex]; dsimp only [List.map_cons, List.map_nil, List.cons_append, List.nil_append, zbo]
   refine zmz (sza hy3 (sza hy32 (sza hw2' hdd))) ?_
   refine hK19 _ _ ?_
   refine szq hp (fun _ hZ => zmz (sza hy3 hy32) hZ) ?_
   refine zat hp (τ' := frL [(6, .op 1 0)]) (H' := [zde s, .cells [.d (iD 12), .d nS, .d (iD (y / 3 % 2 : Nat)), .d nS, .d (iD w), .d nS, .d (.fs [iD xo, nS, iD xk, nS, iD xw, nS, .fs xc xn] 1), .d (bytesD b), .d (iD j)]]) ?_ ?_
   ·refine Rt.trans (Rt.fz (id := 7) (l := [iD xo, nS, iD xk, nS, iD xw, nS, .fs xc xn]) rfl) ?_
    refine jwn [0,5] ?_
    refine job ?_
    refine jst ?_; simp [bytesD, iD, nS, zbv, gcV]
   refine zam ?_
   try dsimp only [zco, za8]
   refine zba rfl ?_
   refine jgh ?_
   show ∃ _, _
   exact ⟨.slc (y / 3 % 2) w e, j, ⟨⟨he.t, hw, by rw [he.w]; omega⟩, rfl, by have := he.n; simp only [za0]; omega⟩, hj1, by omega, by simp [tyV, exC, hex, exR, zbo, nS, iD, bytesD], _, rfl⟩
end Go.Proofs.Ytapjobndmmkanaa
