/- Expressions that bytes describe: operators. -/
import Derived.Test.YtapjobndmmkanaaQr
import Derived.Test.YtapjobndmmkanaaVc
import Derived.Test.YtapjobndmmkanaaOg
set_option linter.unusedVariables false
set_option linter.unusedSimpArgs false
set_option maxRecDepth 100000
set_option maxHeartbeats 4000000
namespace Go.Proofs.Ytapjobndmmkanaa
open Go Go.RowKit
theorem jkc : ((((((type_of% @zgb) ∧ (type_of% @zgc)) ∧ ((type_of% @zg0) ∧ (type_of% @zg1))) ∧ (((type_of% @zmr) ∧ (type_of% @zig)) ∧ ((type_of% @zmb) ∧ ((type_of% @zq4) ∧ (type_of% @zev))))) ∧ ((((type_of% @zew) ∧ (type_of% @zq5)) ∧ ((type_of% @zi3) ∧ (type_of% @zi5))) ∧ (((type_of% @zmd) ∧ (type_of% @zgd)) ∧ ((type_of% @zge) ∧ ((type_of% @zgf) ∧ (type_of% @zmc)))))) ∧ (((((type_of% @zdh) ∧ (type_of% @zfo)) ∧ ((type_of% @zma) ∧ (type_of% @zga))) ∧ (((type_of% @zd6) ∧ (type_of% @zel)) ∧ ((type_of% @zq2) ∧ ((type_of% @zl9) ∧ (type_of% @zjd))))) ∧ ((((type_of% @zdu) ∧ (type_of% @zdv)) ∧ ((type_of% @zjc) ∧ ((type_of% @znj) ∧ (type_of% @ji2)))) ∧ (((type_of% @ji3) ∧ (type_of% @zi2)) ∧ ((type_of% @jbi) ∧ ((type_of% @zi4) ∧ (type_of% @znh))))))) := ⟨⟨⟨⟨⟨@zgb, @zgc⟩, ⟨@zg0, @zg1⟩⟩, ⟨⟨@zmr, @zig⟩, ⟨@zmb, ⟨@zq4, @zev⟩⟩⟩⟩, ⟨⟨⟨@zew, @zq5⟩, ⟨@zi3, @zi5⟩⟩, ⟨⟨@zmd, @zgd⟩, ⟨@zge, ⟨@zgf, @zmc⟩⟩⟩⟩⟩, ⟨⟨⟨⟨@zdh, @zfo⟩, ⟨@zma, @zga⟩⟩, ⟨⟨@zd6, @zel⟩, ⟨@zq2, ⟨@zl9, @zjd⟩⟩⟩⟩, ⟨⟨⟨@zdu, @zdv⟩, ⟨@zjc, ⟨@znj, @ji2⟩⟩⟩, ⟨⟨@ji3, @zi2⟩, ⟨@jbi, ⟨@zi4, @znh⟩⟩⟩⟩⟩⟩
theorem jp5 {i : Nat} (h : i < 10) : ([.d (.val (.int .i64 2)), .d (.val (.int .i64 3)), .d (.val (.int .i64 4)), .d (.val (.int .i64 5)), .d (.val (.int .i64 6)), .d (.val (.int .i64 7)), .d (.val (.int .i64 10)), .d (.val (.int .i64 8)), .d (.val (.int .i64 9)), .d (.val (.int .i64 11))] : List AV)[i]? = some (.d (.val (.int .i64 (nth ([2, 3, 4, 5, 6, 7, 10, 8, 9, 11] : List Int) i)))) := by
 rcases (show i = 0 ∨ i = 1 ∨ i = 2 ∨ i = 3 ∨ i = 4 ∨ i = 5 ∨ i = 6 ∨ i = 7 ∨ i = 8 ∨ i = 9 by omega) with rfl | rfl | rfl | rfl | rfl | rfl | rfl | rfl | rfl | rfl <;> rfl
def byK (m k : Nat) : Nat := k * m
theorem jz7 (m : Nat) : byK m 0 = 0 := Nat.zero_mul m
theorem jz8 (m k : Nat) : byK m (k + 1) = byK m k + m := Nat.succ_mul k m
theorem jws {m k : Nat} (h : k ≤ 3) : byK m k ≤ 3 * m := Nat.mul_le_mul_right m h
def OpW (w : Nat) (o : Int) (ws : List Nat) : Prop := (o = 2 ∧ ws = [w]) ∨ ((o = 3 ∨ o = 4 ∨ o = 5 ∨ o = 6 ∨ o = 7) ∧ ws = [w, w]) ∨ (o = 10 ∧ ws = [1, w, w]) ∨ ((o = 8 ∨ o = 9) ∧ w = 1 ∧ ∃ u, 1 ≤ u ∧ u ≤ 3 ∧ ws = [u, u]) ∨ (o = 11 ∧ 1 < w ∧ ws = [w - 1, 1])
theorem jwt {w : Nat} {o : Int} {ws : List Nat} (h : OpW w o ws) (hw : 1 ≤ w) : ws.length ≤ 3 ∧ ∀ k, k < ws.length → 1 ≤ nth ws k ∧ (nth ws k ≤ w ∨ nth ws k ≤ 3) := by
 rcases h with ⟨_, rfl⟩ | ⟨_, rfl⟩ | ⟨_, rfl⟩ | ⟨_, _, u, h1, h2, rfl⟩ | ⟨_, h1, rfl⟩ <;> refine ⟨by simp, fun k hk => ?_⟩ <;> simp only [List.length_cons, List.length_nil] at hk <;> rcases (show k = 0 ∨ k = 1 ∨ k = 2 by omega) with rfl | rfl | rfl <;> simp [nth] <;> omega
theorem jz9 {l : List Ex} (h : l.length = 1) : l = [nth l 0] := by
 match l, h with
 | [a], _ => rfl
theorem jg1 {l : List Ex} (h : l.length = 2) : l = [nth l 0, nth l 1] := by
 match l, h with
 | [a, b], _ => rfl
theorem jwu {l : List Ex} (h : l.length = 3) : l = [nth l 0, nth l 1, nth l 2] := by
 match l, h with
 | [a, b, c], _ => rfl
theorem jwv {C : Ct} {q : Bool} (hC : CtOk C) {w n : Nat} {o : Int} {ws : List Nat} {l : List Ex} (h : OpW w o ws) (hl : l.length = ws.length) (hf : ∀ k, k < ws.length → Fit C q (nth ws k) n (nth l k)) (hw8 : w ≤ 8) : ∃ e, Fit C q w (3 * n + 32) e ∧ exC e = exR o 0 0 (l.flatMap exC) l.length := by
 rcases h with ⟨rfl, rfl⟩ | ⟨ho, rfl⟩ | ⟨rfl, rfl⟩ | ⟨ho, rfl, u, h1, h2, rfl⟩ | ⟨rfl, h1, rfl⟩
 ·have f0 := hf 0 (by simp)
  have el := jz9 hl
  obtain ⟨t0, w0, n0⟩ := f0
  refine ⟨.not (nth l 0), ⟨t0, w0, ?_⟩, by rw [el]; simp [exC, nth]⟩
  simp only [zbw]
  simp [nth] at w0 n0 ⊢
  omega
 ·obtain ⟨t0, w0, n0⟩ := hf 0 (by simp)
  obtain ⟨t1, w1, n1⟩ := hf 1 (by simp)
  have el := jg1 hl
  have w0' : zck C (nth l 0) = w := w0
  have w1' : zck C (nth l 1) = w := w1
  rcases ho with rfl | rfl | rfl | rfl | rfl
  ·exact ⟨.two 3 (nth l 0) (nth l 1), ⟨⟨by simp, t0, t1, by rw [w0', w1']⟩, w0', by simp only [zbw]; omega⟩, by rw [el]; simp [exC, nth]⟩
  ·exact ⟨.two 4 (nth l 0) (nth l 1), ⟨⟨by simp, t0, t1, by rw [w0', w1']⟩, w0', by simp only [zbw]; omega⟩, by rw [el]; simp [exC, nth]⟩
  ·exact ⟨.two 5 (nth l 0) (nth l 1), ⟨⟨by simp, t0, t1, by rw [w0', w1']⟩, w0', by simp only [zbw]; omega⟩, by rw [el]; simp [exC, nth]⟩
  ·exact ⟨.add (nth l 0) (nth l 1), ⟨⟨t0, t1, by rw [w0', w1']⟩, w0', by simp only [zbw]; omega⟩, by rw [el]; simp [exC, nth]⟩
  ·exact ⟨.sub (nth l 0) (nth l 1), ⟨⟨t0, t1, by rw [w0', w1']⟩, w0', by simp only [zbw]; omega⟩, by rw [el]; simp [exC, nth]⟩
 ·obtain ⟨t0, w0, n0⟩ := hf 0 (by simp)
  obtain ⟨t1, w1, n1⟩ := hf 1 (by simp)
  obtain ⟨t2, w2, n2⟩ := hf 2 (by simp)
  have el := jwu hl
  have w0' : zck C (nth l 0) = 1 := w0
  have w1' : zck C (nth l 1) = w := w1
  have w2' : zck C (nth l 2) = w := w2
  exact ⟨.mux (nth l 0) (nth l 1) (nth l 2), ⟨⟨t0, t1, t2, w0', by rw [w1', w2']⟩, w1', by simp only [zbw]; omega⟩, by rw [el]; simp [exC, nth]⟩
 ·obtain ⟨t0, w0, n0⟩ := hf 0 (by simp)
  obtain ⟨t1, w1, n1⟩ := hf 1 (by simp)
  have el := jg1 hl
  have w0' : zck C (nth l 0) = u := w0
  have w1' : zck C (nth l 1) = u := w1
  rcases ho with rfl | rfl
  ·exact ⟨.eq (nth l 0) (nth l 1), ⟨⟨t0, t1, by rw [w0', w1']⟩, rfl, by simp only [zbw]; omega⟩, by rw [el]; simp [exC, nth]⟩
  ·exact ⟨.lt (nth l 0) (nth l 1), ⟨⟨t0, t1, by rw [w0', w1']⟩, rfl, by simp only [zbw]; omega⟩, by rw [el]; simp [exC, nth]⟩
 ·obtain ⟨t0, w0, n0⟩ := hf 0 (by simp)
  obtain ⟨t1, w1, n1⟩ := hf 1 (by simp)
  have el := jg1 hl
  have w0' : zck C (nth l 0) = w - 1 := w0
  have w1' : zck C (nth l 1) = 1 := w1
  exact ⟨.cat (nth l 0) (nth l 1), ⟨⟨t0, t1, by rw [w0', w1']; omega⟩, by show zck C (nth l 0) + zck C (nth l 1) = w; rw [w0', w1']; omega, by simp only [zbw]; omega⟩, by rw [el]; simp [exC, nth]⟩
def zd1 : AObj := .cells [.d (iD 0), .d nS, .d (iD 0), .d nS, .d (iD 0), .d nS, .d (.val (.slice none 0 0)), .d (.val (.slice none 0 0)), .d (iD 0)]
theorem ze7 {p q : Prop} (hq : q) (h : p = q := by
 conv => lhs; simp -dsimp -implicitDefEqProofs (disch := first | assumption | omega | (simp only [r_z, zb6, zb3] <;> omega) | decide) only [r_r, ↓reduceIte, Nat.reduceEqDiff, Nat.reduceAdd, D.fix, Int.reduceToNat, Nat.reduceMul, Nat.reduceBNe, Nat.reduceBEq, ze8, zbu, scV, nI, exR, zd1, zb4, zb5, Int.reduceBEq, Int.reduceToNat, Bool.not_true, Bool.not_false, jkc]) : p := h.mpr hq
theorem zlz {p q r : Prop} (e : r) (hq : q) (h : r → p = q := by
 intro hY
 conv => lhs; simp -dsimp -implicitDefEqProofs (disch := first | assumption | omega | (simp only [r_z, zb6, zb3] <;> omega) | decide) only [r_r, ↓reduceIte, Nat.reduceEqDiff, Nat.reduceAdd, D.fix, Int.reduceToNat, Nat.reduceMul, Nat.reduceBNe, Nat.reduceBEq, ze8, zbu, scV, nI, exR, zd1, zb4, zb5, Int.reduceBEq, Int.reduceToNat, Bool.not_true, Bool.not_false, jkc, hY]) : p := (h e).mpr hq
theorem jww {p q r : Prop} (e : r) (hq : q) (h : r → p = q := by
 intro hY
 conv => lhs; simp -dsimp -implicitDefEqProofs (disch := first | assumption | omega | (simp only [r_z, zb6, zb3] <;> omega) | decide) only [r_r, ↓reduceIte, Nat.reduceEqDiff, Nat.reduceAdd, D.fix, Int.reduceToNat, Nat.reduceMul, Nat.reduceBNe, Nat.reduceBEq, r_w, ze8, zbu, scV, nI, exR, zd1, zb4, zb5, Int.reduceBEq, Int.reduceToNat, Bool.not_true, Bool.not_false, jkc, hY]) : p := (h e).mpr hq
theorem ybp {P : Program} {sm : List Nat} {N : Nat} {τ0 τ : Fr} {H : zad} {f : FuncId} {args : List AV} {K0 KK : AV → zad → Prop} {ks : List Nat} (S T : zad) (h : ScS P ks f args S K0) (hK : ∀ x S', K0 x S' → S'.length = S.length ∧ KK x (S' ++ T)) (hH : H = S ++ T := by
 rfl) (hN : S.length ≤ N := by
 exact Nat.le_of_ble_eq_true rfl) (hm : sm.all (okI ks S.length) = true := by
 first | rfl | (simp [AV.allIs, AV.allI, zbi, za3, za4, okI, ltI, zat, zb2, zd1, zba, scV, zbu]; done) | (intro o ho; simp at ho; done)) (hτ : ∀ t, (τ t).allI (okI ks S.length) = true := by
 exact fun t => zc8 (by first | rfl | (simp [AV.allIs, AV.allI, zbi, za3, za4, okI, ltI, zat, zb2, zd1, zba, scV, zbu]; done) | (intro o ho; simp at ho; done)) t) (h0 : ∀ t, (τ0 t).allI (okI ks S.length) = true := by
 exact fun t => zc8 (by first | rfl | (simp [AV.allIs, AV.allI, zbi, za3, za4, okI, ltI, zat, zb2, zd1, zba, scV, zbu]; done) | (intro o ho; simp at ho; done)) t) (ha : AV.allIs (ltI S.length) args = true := by
 first | rfl | (simp [AV.allIs, AV.allI, zbi, za3, za4, okI, ltI, zat, zb2, zd1, zba, scV, zbu]; done) | (intro o ho; simp at ho; done)) (hS : ∀ o ∈ S, o.allI (ltI S.length) = true := by
 first | rfl | (simp [AV.allIs, AV.allI, zbi, za3, za4, okI, ltI, zat, zb2, zd1, zba, scV, zbu]; done) | (intro o ho; simp at ho; done)) (hT : ∀ o ∈ T, o.allI (okI ks S.length) = true := by
 first | rfl | (simp [AV.allIs, AV.allI, zbi, za3, za4, okI, ltI, zat, zb2, zd1, zba, scV, zbu]; done) | (intro o ho; simp at ho; done)) : kE P sm N τ0 τ H (.d (.val (.func (.func f) #[] #[]))) args (tg KK) := jba h hH hN hm hτ h0 ha hS hT hK
theorem jao (k : List Nat) {m : List Nat} {τ τ1 : Fr} {H H1 : zad} (h : Rt m (fun t => gcV k (τ t)) (gcH k H) τ1 H1) (a : ∀ i ∈ m, k[i]? = some i := by decide) (b : k.Nodup := by decide) (c : ∀ i ∈ k, i < H.length := by
 simp [fzH, gcH]) : Rt m τ H τ1 H1 := Rt.trans (Rt.gc a b c) h
theorem zwt {m : List Nat} {τ τ' : Fr} {H H' : zad} (h2 : H = H') (h : zgu τ τ' := by
 repeat (first | exact zar _ | refine zam ?_ (by first | rfl | (simp [r_f, zb6, zb3]; done) | simp [r_f, zb6, zb3, *]))) : Rt m τ H τ' H' := Rt.end h h2
theorem jkd {p q : Prop} (hq : q) (h : p = q := by
 conv => lhs; simp -dsimp -implicitDefEqProofs (disch := first | assumption | omega | (simp only [r_z, zb6, zb3] <;> omega) | decide) only [r_r, ↓reduceIte, Nat.reduceEqDiff, Nat.reduceAdd, D.fix, Int.reduceToNat, Nat.reduceMul, Nat.reduceBNe, Nat.reduceBEq, ze8, zbu, scV, nI, exR, zd1, zb4, zb5, Int.reduceBEq, Int.reduceToNat, Bool.not_true, Bool.not_false, zig, jff]) : p := h.mpr hq
theorem ybq {P : Program} {sm : List Nat} {N : Nat} {τ : Fr} {H : zad} {f : FuncId} {args : List AV} {K0 KK : AV → zad → Prop} {ks : List Nat} (S T : zad) (h : ScS P ks f args S K0) (hK : ∀ x S', K0 x S' → S'.length = S.length ∧ KK x (S' ++ T)) (hH : H = S ++ T := by
 rfl) (hm : sm.all (okI ks S.length) = true := by
 first | rfl | (simp [AV.allIs, AV.allI, zbi, za3, za4, okI, ltI, zat, zb2, zd1, zba, scV, zbu]; done) | (intro o ho; simp at ho; done)) (hτ : ∀ t, (τ t).allI (okI ks S.length) = true := by
 exact fun t => zc8 (by first | rfl | (simp [AV.allIs, AV.allI, zbi, za3, za4, okI, ltI, zat, zb2, zd1, zba, scV, zbu]; done) | (intro o ho; simp at ho; done)) t) (ha : AV.allIs (ltI S.length) args = true := by
 first | rfl | (simp [AV.allIs, AV.allI, zbi, za3, za4, okI, ltI, zat, zb2, zd1, zba, scV, zbu]; done) | (intro o ho; simp at ho; done)) (hS : ∀ o ∈ S, o.allI (ltI S.length) = true := by
 first | rfl | (simp [AV.allIs, AV.allI, zbi, za3, za4, okI, ltI, zat, zb2, zd1, zba, scV, zbu]; done) | (intro o ho; simp at ho; done)) (hT : ∀ o ∈ T, o.allI (okI ks S.length) = true := by
 first | rfl | (simp [AV.allIs, AV.allI, zbi, za3, za4, okI, ltI, zat, zb2, zd1, zba, scV, zbu]; done) | (intro o ho; simp at ho; done)) : kC P sm N H τ (.d (.val (.func (.func f) #[] #[]))) args true (tg KK) := zwb h hH hm hτ ha hS hT hK
theorem jwx {p q r : Prop} (e : r) (hq : q) (h : r → p = q := by
 intro hY
 conv => lhs; simp -dsimp -implicitDefEqProofs (disch := first | assumption | omega | (simp only [r_z, zb6, zb3] <;> omega) | decide) only [r_r, ↓reduceIte, Nat.reduceEqDiff, Nat.reduceAdd, D.fix, Int.reduceToNat, Nat.reduceMul, Nat.reduceBNe, Nat.reduceBEq, r_w, ze8, zbu, scV, nI, exR, zd1, zb4, zb5, Int.reduceBEq, Int.reduceToNat, Bool.not_true, Bool.not_false, zay, jkc, hY]) : p := (h e).mpr hq
theorem jrg {p q : Prop} (hq : q) (h : p = q := by
 conv => lhs; simp only [r_g, Nat.reduceAdd, ↓reduceIte, Nat.reduceEqDiff, ze8, zbu, scV, nI, exR, zd1, zb4, zb5, Int.reduceBEq, Int.reduceToNat, Bool.not_true, Bool.not_false]) : p := h.mpr hq
theorem jke {p : Prop} (h : p := by
 first | rfl | (simp only [r_g, Nat.reduceAdd, ↓reduceIte, Nat.reduceEqDiff, ze8, zbu, scV, nI, exR, zd1, zb4, zb5, Int.reduceBEq, Int.reduceToNat, Bool.not_true, Bool.not_false]; first | done | rfl)) : p := h
theorem jg2 (d : Nat) (hT : TyK (d + 1)) (C : Ct) (s : Sc) (b : List Int) (i w : Nat) (hC : CtOk C) (hs : ScOk C s) (hb : zfx b) (hl : b.length ≤ maxLen) (hw : 1 ≤ w) (hw8 : w + (d + 2) ≤ 8) (hd : d ≤ 3) (hi : i ≤ jb0 (d + 2)) : ScS Try.prog [0] 60 [ze8 b i, .agg (scV s), .agg [.d (iD w), .d (iD (d + 2 : Nat))]] ([zdm s, .free]) (TyQ C s b i w (zvm (d + 2)) (byD (d + 2))) := by
 refine zeo (fn := Try.f60) (by kernel_rfl) Try.func60 rfl (Nat.le_of_ble_eq_true rfl) fun c hc hp => ?_
 refine zle ?_
 obtain ⟨hcp, hcp2⟩ := jz6 hd
 have hbd : byD (d + 1) ≤ 100000 := by
  rcases (show d = 0 ∨ d = 1 ∨ d = 2 ∨ d = 3 by omega) with rfl | rfl | rfl | rfl <;> decide
 obtain ⟨y, hy⟩ : ∃ y : Nat, byN b i = y := ⟨(byN b i).toNat, by have := (zjj hb i).1; omega⟩
 have hy2 := (zjj hb i).2
 have hy14 : (y : Int) / 14 = ((y / 14 : Nat) : Int) := by omega
 have hy14r : (y : Int) % 14 = ((y % 14 : Nat) : Int) := by omega
 have hyb := zmi b i hb hl
 rw [hy] at hyb
 have hdd : ((d + 2 : Nat) : Int) - 1 = ((d + 1 : Nat) : Int) := by omega
 have hd1 : decide (((d + 2 : Nat) : Int) ≤ 1) = false := decide_eq_false (by omega)
 have hcs : zvm (d + 2) = 3 * zvm (d + 1) + 32 := rfl
 have hby : byD (d + 2) = 3 * byD (d + 1) + 1 := rfl
 have hbp := jnu (d + 1)
 refine szq hp (fun _ hZ => ze7 hZ) ?_
 refine zas zai hc za8 rfl (q := 0) (by kernel_rfl) (by kernel_rfl) fun K2 hK2 => ?_
 refine ze7 ?_
 refine hK2 _ _ ?_
 refine zag hp zai hc rfl fun K3 hK3 => ?_
 refine ze7 ?_
 refine za1 (hyb) rfl ?_
 refine ze7 ?_
 refine hK3 _ _ ?_
 refine zag hp zai hc rfl fun K4 hK4 => ?_
 refine ze7 ?_
 refine za1 (jj7 b i 1 (by omega) (by omega)) rfl ?_
 refine ze7 ?_
 refine hK4 _ _ ?_
 refine szq hp (fun _ hZ => zlz hy14r hZ) ?_
 refine zaa fun K6 hK6 => ?_
 refine szq hp (fun _ hZ => zlz hd1 hZ) ?_
 refine zah rfl (fun ht => ?_) (fun ht => ?_)
 ·have hk2 : y % 14 < 2 := by simp at ht; omega
  refine zcj zai hp hc za8 rfl [(0, []), (1, []), (2, []), (3, []), (5, []), (4, [5]), (6, []), (7, [])] [[], [], [], [2], [0, 1, 2, 3], [], [0, 1, 2, 3, 4, 5], [0, 1, 2, 3, 4, 5, 6]] 0 (by kernel_rfl) fun K8 hK8 => ?_
  refine jww hy14 ?_
  refine ybp ([zdm s, .free]) ([.cells (avs (zbu b (i + 1))), .cells (scV s), .cells [.d (iD w), .d (iD (d + 2 : Nat))], zd1]) (jnt C s w (y / 14) hs hw (by omega) (by omega)) ?_
  rintro _ _ ⟨e, he, rfl, g, rfl⟩
  refine ⟨rfl, ?_⟩
  obtain ⟨xo, xk, xw, xc, xn, hex⟩ := zce e; unfold exV; rw [hex]
  refine jww hy14 ?_
  refine hK8 _ _ ?_
  refine zbg hp (τ' := frL [(6, .op 1 0)]) (H' := [zdm s, .cells [.d (iD xo), .d nS, .d (iD xk), .d nS, .d (iD xw), .d nS, .d (.fs xc xn), .d (bytesD b), .d (iD (i + 1 : Nat))]]) ?_ ?_
  ·refine jao [0,5] ?_
   refine zwt ?_
   refine jrg ?_; simp [bytesD, iD]
  refine zal ?_
  try dsimp only [zbm, zaq]
  refine zak rfl ?_
  refine jkd ?_
  show ∃ _, _
  exact ⟨e, i + 1, ⟨he.t, he.w, by have := he.n; omega⟩, by omega, by omega, by unfold tyV; rw [hex]; simp [zbu, iD, bytesD], _, rfl⟩
 ·have hk2 : 2 ≤ y % 14 := by simp at ht; omega
  refine zaf (hK6 _ _ ?_)
  refine zaa fun K9 hK9 => ?_
  refine zag hp zai hc rfl fun K10 hK10 => ?_
  rcases (show y % 14 = 2 ∨ y % 14 = 3 ∨ 4 ≤ y % 14 by omega) with e2 | e2 | e2
  ·have q7 : (((y % 14 : Nat) : Int) == 2) = true := by rw [e2]; rfl
   have q8 := q7
   refine zlz (sza q7 q8) ?_
   refine hK10 _ _ ?_
   refine szt ?_
   refine zag hp zai hc rfl fun K11 hK11 => ?_
   refine zlz hy14 ?_
   refine ybq ([zdm s, .free]) ([.cells (avs (zbu b (i + 1))), .cells (scV s), .cells [.d (iD w), .d (iD (d + 2 : Nat))], zd1]) (zvb d hT C s b (i + 1) w (y / 14) hC hs hb hl hw hw8 hd (by omega) (by omega)) ?_
   rintro _ _ ⟨e, j, he, hj1, hj2, rfl, g, rfl⟩
   refine ⟨rfl, ?_⟩
   obtain ⟨xo, xk, xw, xc, xn, hex⟩ := zce e; unfold tyV; rw [hex]; dsimp only [List.map_cons, List.map_nil, List.cons_append, List.nil_append, zbu]
   refine zlz hy14 ?_
   refine hK11 _ _ ?_
   refine zbg hp (τ' := frL [(6, .op 1 0)]) (H' := [zdm s, .cells [.d (iD xo), .d nS, .d (iD xk), .d nS, .d (iD xw), .d nS, .d (.fs xc xn), .d (bytesD b), .d (iD j)]]) ?_ ?_
   ·refine jao [0,5] ?_
    refine zwt ?_
    refine jrg ?_; simp [bytesD, iD]
   refine zal ?_
   try dsimp only [zbm, zaq]
   refine zak rfl ?_
   refine jkd ?_
   show ∃ _, _
   exact ⟨e, j, he, by omega, by omega, by unfold tyV; rw [hex]; simp [zbu, iD, bytesD], _, rfl⟩
  ·have q7 : (((y % 14 : Nat) : Int) == 2) = false := by rw [e2]; rfl
   have q8 : (((y % 14 : Nat) : Int) == 3) = true := by rw [e2]; rfl
   refine zlz (sza q7 q8) ?_
   refine hK10 _ _ ?_
   refine szt ?_
   refine zag hp zai hc rfl fun K12 hK12 => ?_
   refine zlz hy14 ?_
   refine ybq ([zdm s, .free]) ([.cells (avs (zbu b (i + 1))), .cells (scV s), .cells [.d (iD w), .d (iD (d + 2 : Nat))], zd1]) (zvb d hT C s b (i + 1) w (y / 14) hC hs hb hl hw hw8 hd (by omega) (by omega)) ?_
   rintro _ _ ⟨e, j, he, hj1, hj2, rfl, g, rfl⟩
   refine ⟨rfl, ?_⟩
   obtain ⟨xo, xk, xw, xc, xn, hex⟩ := zce e; unfold tyV; rw [hex]; dsimp only [List.map_cons, List.map_nil, List.cons_append, List.nil_append, zbu]
   refine zlz hy14 ?_
   refine hK12 _ _ ?_
   refine zbg hp (τ' := frL [(6, .op 1 0)]) (H' := [zdm s, .cells [.d (iD xo), .d nS, .d (iD xk), .d nS, .d (iD xw), .d nS, .d (.fs xc xn), .d (bytesD b), .d (iD j)]]) ?_ ?_
   ·refine jao [0,5] ?_
    refine zwt ?_
    refine jrg ?_; simp [bytesD, iD]
   refine zal ?_
   try dsimp only [zbm, zaq]
   refine zak rfl ?_
   refine jkd ?_
   show ∃ _, _
   exact ⟨e, j, he, by omega, by omega, by unfold tyV; rw [hex]; simp [zbu, iD, bytesD], _, rfl⟩
  ·have q7 : (((y % 14 : Nat) : Int) == 2) = false := by rw [beq_eq_false_iff_ne]; omega
   have q8 : (((y % 14 : Nat) : Int) == 3) = false := by rw [beq_eq_false_iff_ne]; omega
   refine zlz (sza q7 q8) ?_
   refine hK10 _ _ ?_
   refine szf ?_
   refine zaf (hK9 _ _ ?_)
   obtain ⟨o0, ho0, hoo⟩ : ∃ o : Int, o = nth ([2, 3, 4, 5, 6, 7, 10, 8, 9, 11] : List Int) (y % 14 - 4) ∧ (o = 2 ∨ o = 3 ∨ o = 4 ∨ o = 5 ∨ o = 6 ∨ o = 7 ∨ o = 10 ∨ o = 8 ∨ o = 9 ∨ o = 11) := by
    refine ⟨_, rfl, ?_⟩
    rcases (show y % 14 = 4 ∨ y % 14 = 5 ∨ y % 14 = 6 ∨ y % 14 = 7 ∨ y % 14 = 8 ∨ y % 14 = 9 ∨ y % 14 = 10 ∨ y % 14 = 11 ∨ y % 14 = 12 ∨ y % 14 = 13 by omega) with e | e | e | e | e | e | e | e | e | e <;> rw [e] <;> decide
   have hog := jp5 (i := y % 14 - 4) (by omega)
   rw [← ho0] at hog
   have hy4 : ((y % 14 : Nat) : Int) - 4 = ((y % 14 - 4 : Nat) : Int) := by omega
   have hy143 : ((y / 14 : Nat) : Int) % 3 = ((y / 14 % 3 : Nat) : Int) := by omega
   have h1y : (1 : Int) + ((y / 14 % 3 : Nat) : Int) = ((1 + y / 14 % 3 : Nat) : Int) := by omega
   clear ho0
   refine szq hp (fun _ hZ => zlz (sza hy4 hog) hZ) ?_
   refine szq hp (fun _ hZ => ze7 hZ) ?_
   refine zaa fun K15 hK15 => ?_
   have hJ15 : ∀ τ' H', (∃ τ1 H1, ∃ (o : Int) (ws : List Nat), (OpW w o ws) ∧ H1 = [zdm s, .free, .cells (avs (zbu b (i + 1))), .cells (scV s), .cells [.d (iD w), .d (iD (d + 2 : Nat))], zd1, .cells [.d (iD o), .d nS, .d (iD 0), .d nS, .d (iD 0), .d nS, .d (.val (.slice none 0 0))], .cells (avs (ws.map fun n : Nat => iD n))] ∧ τ1 = frL [(3, .op 2 0), (4, .op 3 0), (6, .op 5 0), (8, .d (iD (d + 2 : Nat))), (11, .op 6 0), (12, .os 1 7 0 ws.length)] ∧ Rt [0] τ' H' τ1 H1) → K15 τ' H' := by
    rintro τ' H' ⟨_, _, o, ws, how, rfl, rfl, hrt⟩
    refine hK15 _ _ (zbg hp hrt ?_)
    clear hrt
    refine zaa fun K16 hK16 => ?_
    refine zag hp zai hc rfl fun K17 hK17 => ?_
    simp -dsimp -implicitDefEqProofs (disch := first | assumption | omega | (simp only [r_z, zb6, zb3] <;> omega) | decide) only [r_r, ↓reduceIte, Nat.reduceEqDiff, Nat.reduceAdd, D.fix, Int.reduceToNat, Nat.reduceMul, Nat.reduceBNe, Nat.reduceBEq, ze8, zbu, scV, nI, exR, zd1, zb4, zb5, Int.reduceBEq, Int.reduceToNat, Bool.not_true, Bool.not_false]
    refine hK17 _ _ ?_
    refine zac ?_
    refine zan hp (fun τ' H' mm => ∃ (k j : Nat) (l : List Ex), (k ≤ ws.length ∧ l.length = k ∧ (∀ q, q < k → Fit C s.q (nth ws q) (zvm (d + 1)) (nth l q)) ∧ i + 1 ≤ j ∧ j ≤ i + 1 + byK (byD (d + 1)) k) ∧ mm = ws.length - k ∧ H' = [zdm s, .free, .cells (avs (zbu b j)), .cells (scV s), .cells [.d (iD w), .d (iD (d + 2 : Nat))], zd1, .cells [.d (iD o), .d nS, .d (iD 0), .d nS, .d (iD 0), .d nS, .os 7 8 0 l.length], .cells (avs (ws.map fun n : Nat => iD n)), .cells (avs (l.flatMap exC))] ∧ τ' = frL [(3, .op 2 0), (4, .op 3 0), (6, .op 5 0), (8, .d (iD (d + 2 : Nat))), (11, .op 6 0), (12, .os 1 7 0 ws.length), (13, .d (iD k))]) (ws.length) ?_ ⟨0, i + 1, [], ⟨Nat.zero_le _, rfl, fun q hq => by omega, Nat.le_refl _, by rw [jz7]; omega⟩, rfl, rfl, rfl⟩ ?_
    ·refine Rt.trans (Rt.nilc 6 6 7 rfl rfl) ?_
     refine zwt ?_
     exact jke
    rintro τ' H' mm ⟨k, j, l, ⟨hk, hlk, hlf, hj1, hj2⟩, rfl, rfl, rfl⟩
    obtain ⟨ow1, ow2⟩ := jwt how hw
    refine zaa fun K18 hK18 => ?_
    refine szq hp (fun _ hZ => ze7 hZ) ?_
    refine zah rfl (fun ht => ?_) (fun ht => ?_)
    ·have hlt : k < ws.length := by simp at ht; omega
     obtain ⟨ow3, ow4⟩ := ow2 k hlt
     have hkb : byK (byD (d + 1)) k ≤ 3 * byD (d + 1) := jws (by omega)
     refine zaf (hK18 _ _ ?_)
     refine zaa fun K20 hK20 => ?_
     refine zac ?_
     refine zcj zai hp hc za8 rfl [(0, []), (1, []), (2, []), (3, []), (4, []), (5, []), (6, []), (7, []), (8, []), (10, []), (9, []), (11, [])] [[], [], [], [], [2, 3], [2, 3, 4], [], [6], [2, 3, 4, 5, 6, 7], [0, 1, 2, 3, 4, 5, 6, 7, 8], [], [0, 1, 2, 3, 4, 5, 6, 7, 8, 9, 10]] 1 (by kernel_rfl) fun K21 hK21 => ?_
     refine jwx hdd ?_
     refine ybp ([zdm s, .free]) ([.cells (avs (zbu b j)), .cells (scV s), .cells [.d (iD w), .d (iD (d + 2 : Nat))], zd1, .cells [.d (iD o), .d nS, .d (iD 0), .d nS, .d (iD 0), .d nS, .os 7 8 0 l.length], .cells (avs (ws.map fun n : Nat => iD n)), .cells (avs (l.flatMap exC)), zd1]) (hT C s b j (nth ws k) hC hs hb hl ow3 (by omega) (by omega)) ?_
     rintro _ _ ⟨e, j', he, hj3, hj4, rfl, g, rfl⟩
     refine ⟨rfl, ?_⟩
     obtain ⟨xo, xk, xw, xc, xn, hex⟩ := zce e; unfold tyV; rw [hex]; dsimp only [List.map_cons, List.map_nil, List.cons_append, List.nil_append, zbu]
     refine jwx hdd ?_
     refine hK21 _ _ ?_
     refine szq hp (fun _ hZ => ze7 hZ) ?_
     refine szs hp (fun _ hZ => ze7 hZ) (hK20 _ _ ?_)
     refine za5 hp zai hc rfl fun K24 hK24 => ?_
     refine ze7 ?_
     have hlf2 : ∀ q, q < k + 1 → Fit C s.q (nth ws q) (zvm (d + 1)) (nth (l ++ [e]) q) := fun q hq => by
      rcases zhi (x := e) hlk hq with ⟨h1, h2⟩ | ⟨h1, h2⟩
      ·rw [h2]; exact hlf q h1
      ·rw [h2, h1]; exact he
     refine hK24 _ _ ⟨_, _, _, ?_, ⟨k + 1, j', l ++ [e], ⟨by omega, by simp [hlk], hlf2, by omega, by rw [jz8]; omega⟩, rfl, rfl, rfl⟩, ?_⟩
     ·first | omega | (simp only [List.length_cons]; omega) | (dsimp only; omega)
     ·refine Rt.trans (Rt.fr1) ?_
      refine jao [0,12,2,3,4,5,6,7,11] ?_
      refine zwt ?_
      refine jrg ?_; simp [hex, exR, nS, iD, oD, bytesD]
    ·have hkk : k = ws.length := by simp at ht; omega
     subst hkk
     have hkb : byK (byD (d + 1)) ws.length ≤ 3 * byD (d + 1) := jws ow1
     obtain ⟨e, he, hex⟩ := jwv hC how hlk hlf (by omega)
     have htk : zb7 (l.flatMap exC) 0 (l.length * 7) = some (l.flatMap exC) := za2 (by rw [zb3])
     refine zau (hK16 _ _ ?_)
     refine szq hp (fun _ hZ => ze7 hZ) ?_
     refine zbg hp (τ' := frL [(6, .op 1 0)]) (H' := [zdm s, .cells [.d (iD o), .d nS, .d (iD 0), .d nS, .d (iD 0), .d nS, .d (.fs (l.flatMap exC) l.length), .d (bytesD b), .d (iD j)]]) ?_ ?_
     ·refine Rt.trans (Rt.fz (id := 8) (l := (l.flatMap exC)) rfl) ?_
      refine jao [0,5] ?_
      refine zwt ?_
      refine jrg ?_; simp [bytesD, iD, nS, htk, gcV]
     refine zal ?_
     try dsimp only [zbm, zaq]
     refine zak rfl ?_
     refine jkd ?_
     show ∃ _, _
     exact ⟨e, j, by rw [hcs]; exact he, by omega, by omega, by unfold tyV; rw [hex]; simp [exR, zbu, nS, iD, bytesD], _, rfl⟩
   refine szq hp (fun _ hZ => ze7 hZ) ?_
   refine zac ?_
   refine szq hp (fun _ hZ => ze7 hZ) ?_
   refine zah rfl (fun ht => ?_) (fun ht => ?_)
   ·have h2 : o0 = 2 := by simpa using ht
    subst h2
    refine za5 hp zai hc rfl fun K28 hK28 => ?_
    refine ze7 ?_
    refine hK28 _ _ (hJ15 _ _ ⟨_, _, 2, [w], .inl ⟨rfl, rfl⟩, rfl, rfl, ?_⟩)
    refine jao [0,1,2,3,4,5,7,9] ?_
    refine zwt ?_
    exact jke
   ·have h2 : o0 ≠ 2 := by simpa using ht
    refine szq hp (fun _ hZ => ze7 hZ) ?_
    refine zah rfl (fun ht => ?_) (fun ht => ?_)
    ·have h3 : o0 = 10 := by simpa using ht
     subst h3
     refine za5 hp zai hc rfl fun K30 hK30 => ?_
     refine ze7 ?_
     refine hK30 _ _ (hJ15 _ _ ⟨_, _, 10, [1, w, w], .inr (.inr (.inl ⟨rfl, rfl⟩)), rfl, rfl, ?_⟩)
     refine jao [0,1,2,3,4,5,7,9] ?_
     refine zwt ?_
     exact jke
    ·have h3 : o0 ≠ 10 := by simpa using ht
     refine zaa fun K31 hK31 => ?_
     refine szq hp (fun _ hZ => ze7 hZ) ?_
     refine zah rfl (fun ht => ?_) (fun ht => ?_)
     ·have h4 : o0 = 8 := by simpa using ht
      refine zaf (hK31 _ _ ?_)
      refine zah rfl (fun ht => ?_) (fun ht => ?_)
      ·refine szq hp (fun _ hZ => ze7 hZ) ?_
       refine zah rfl (fun ht => ?_) (fun ht => ?_)
       ·have hw1 : 1 < w := by simp at ht; omega
        refine za5 hp zai hc rfl fun K34 hK34 => ?_
        refine ze7 ?_
        refine hK34 _ _ (hJ15 _ _ ⟨_, _, 5, [w, w], .inr (.inl ⟨by simp, rfl⟩), rfl, rfl, ?_⟩)
        refine jao [0,1,2,3,4,5,7,8] ?_
        refine zwt ?_
        exact jke
       ·have hw1 : w = 1 := by simp at ht; omega
        refine za5 hp zai hc rfl fun K35 hK35 => ?_
        refine zlz (sza hy14 (sza hy143 h1y)) ?_
        refine hK35 _ _ (hJ15 _ _ ⟨_, _, o0, [1 + y / 14 % 3, 1 + y / 14 % 3], .inr (.inr (.inr (.inl ⟨.inl h4, hw1, _, by omega, by omega, rfl⟩))), rfl, rfl, ?_⟩)
        refine jao [0,1,2,3,4,5,7,9] ?_
        refine zwt ?_
        exact jke
      ·rw [h4] at ht
       cases ht
     ·have h4 : o0 ≠ 8 := by simpa using ht
      refine szs hp (fun _ hZ => ze7 hZ) (hK31 _ _ ?_)
      refine zah rfl (fun ht => ?_) (fun ht => ?_)
      ·have h5 : o0 = 9 := by simpa using ht
       refine szq hp (fun _ hZ => ze7 hZ) ?_
       refine zah rfl (fun ht => ?_) (fun ht => ?_)
       ·have hw1 : 1 < w := by simp at ht; omega
        refine za5 hp zai hc rfl fun K38 hK38 => ?_
        refine ze7 ?_
        refine hK38 _ _ (hJ15 _ _ ⟨_, _, 5, [w, w], .inr (.inl ⟨by simp, rfl⟩), rfl, rfl, ?_⟩)
        refine jao [0,1,2,3,4,5,7,8] ?_
        refine zwt ?_
        exact jke
       ·have hw1 : w = 1 := by simp at ht; omega
        refine za5 hp zai hc rfl fun K39 hK39 => ?_
        refine zlz (sza hy14 (sza hy143 h1y)) ?_
        refine hK39 _ _ (hJ15 _ _ ⟨_, _, o0, [1 + y / 14 % 3, 1 + y / 14 % 3], .inr (.inr (.inr (.inl ⟨.inr h5, hw1, _, by omega, by omega, rfl⟩))), rfl, rfl, ?_⟩)
        refine jao [0,1,2,3,4,5,7,9] ?_
        refine zwt ?_
        exact jke
      ·have h5 : o0 ≠ 9 := by simpa using ht
       refine szq hp (fun _ hZ => ze7 hZ) ?_
       refine zah rfl (fun ht => ?_) (fun ht => ?_)
       ·have h7 : o0 = 11 := by simpa using ht
        refine szq hp (fun _ hZ => ze7 hZ) ?_
        refine zah rfl (fun ht => ?_) (fun ht => ?_)
        ·have hw1 : w = 1 := by simp at ht; omega
         refine za5 hp zai hc rfl fun K42 hK42 => ?_
         refine ze7 ?_
         refine hK42 _ _ (hJ15 _ _ ⟨_, _, 3, [w, w], .inr (.inl ⟨by simp, rfl⟩), rfl, rfl, ?_⟩)
         refine jao [0,1,2,3,4,5,7,8] ?_
         refine zwt ?_
         exact jke
        ·have hw1 : 1 < w := by simp at ht; omega
         have hwm : (w : Int) - 1 = ((w - 1 : Nat) : Int) := by omega
         refine za5 hp zai hc rfl fun K43 hK43 => ?_
         refine zlz hwm ?_
         refine hK43 _ _ (hJ15 _ _ ⟨_, _, 11, [w - 1, 1], .inr (.inr (.inr (.inr ⟨rfl, hw1, rfl⟩))), rfl, rfl, ?_⟩)
         refine jao [0,1,2,3,4,5,7,9] ?_
         refine zwt ?_
         refine jrg ?_; subst h7; rfl
       ·have h7 : o0 ≠ 11 := by simpa using ht
        refine zaf (hJ15 _ _ ⟨_, _, o0, [w, w], .inr (.inl ⟨by omega, rfl⟩), rfl, rfl, ?_⟩)
        refine jao [0,1,2,3,4,5,7,8] ?_
        refine zwt ?_
        exact jke
theorem jwy : TyK 2 := fun C s b i w hC hs hb hl h1 h2 hi => jg2 0 ybn C s b i w hC hs hb hl h1 h2 (by decide) hi
theorem ycx : TyK 3 := fun C s b i w hC hs hb hl h1 h2 hi => jg2 1 jwy C s b i w hC hs hb hl h1 h2 (by decide) hi
end Go.Proofs.Ytapjobndmmkanaa
