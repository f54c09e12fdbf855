/- Of no program: an entry of a map that is there already is set anew. -/
import Derived.Test.YtapjobndmmkanaaAZ
import Derived.Test.YtapjobndmmkanaaOe
import Derived.Test.YtapjobndmmkanaaDb
import Derived.Test.YtapjobndmmkanaaTy
import Derived.Test.YtapjobndmmkanaaQr
import Derived.Test.YtapjobndmmkanaaVc
set_option linter.unusedVariables false
set_option linter.unusedSimpArgs false
namespace Go.Proofs.Ytapjobndmmkanaa
open Go Go.RowKit
section
section
variable {P : Program} {KT : TypeId → Bool} {H : zae}
end
/- Copies and comparisons of rows. -/
end
/- netsim: effects. -/
set_option maxRecDepth 100000
set_option maxHeartbeats 4000000
theorem yg5 : (type_of% @zd1) := @zd1
/- netsim: Effect. -/
theorem yg6 : (type_of% @zfr) := @zfr
theorem Rt.fr1 {m : List Nat} {τ : Fr} {H : zae} : Rt m τ H τ (H ++ [.free]) := fun c a w _ h => R.reserve 1 H h
/- Expressions that bytes describe: operators. -/
theorem jj7 : ((((((type_of% @zgc) ∧ (type_of% @zgd)) ∧ ((type_of% @zg8) ∧ (type_of% @zg9))) ∧ (((type_of% @jjq) ∧ (type_of% @ziq)) ∧ ((type_of% @zmd) ∧ ((type_of% @zqi) ∧ (type_of% @zew))))) ∧ ((((type_of% @zex) ∧ (type_of% @zqj)) ∧ ((type_of% @zjf) ∧ (type_of% @zjh))) ∧ (((type_of% @zzv) ∧ (type_of% @znu)) ∧ ((type_of% @znv) ∧ ((type_of% @znw) ∧ (type_of% @zzt)))))) ∧ (((((type_of% @zc2) ∧ (type_of% @zee)) ∧ ((type_of% @zhw) ∧ (type_of% @zdr))) ∧ (((type_of% @zdj) ∧ (type_of% @zdz)) ∧ ((type_of% @zhv) ∧ ((type_of% @zhu) ∧ (type_of% @ztq))))) ∧ ((((type_of% @zik) ∧ (type_of% @zil)) ∧ ((type_of% @ztp) ∧ ((type_of% @zng) ∧ (type_of% @jjv)))) ∧ (((type_of% @jjw) ∧ (type_of% @zje)) ∧ ((type_of% @zpo) ∧ ((type_of% @zjg) ∧ (type_of% @znf))))))) := ⟨⟨⟨⟨⟨@zgc, @zgd⟩, ⟨@zg8, @zg9⟩⟩, ⟨⟨@jjq, @ziq⟩, ⟨@zmd, ⟨@zqi, @zew⟩⟩⟩⟩, ⟨⟨⟨@zex, @zqj⟩, ⟨@zjf, @zjh⟩⟩, ⟨⟨@zzv, @znu⟩, ⟨@znv, ⟨@znw, @zzt⟩⟩⟩⟩⟩, ⟨⟨⟨⟨@zc2, @zee⟩, ⟨@zhw, @zdr⟩⟩, ⟨⟨@zdj, @zdz⟩, ⟨@zhv, ⟨@zhu, @ztq⟩⟩⟩⟩, ⟨⟨⟨@zik, @zil⟩, ⟨@ztp, ⟨@zng, @jjv⟩⟩⟩, ⟨⟨@jjw, @zje⟩, ⟨@zpo, ⟨@zjg, @znf⟩⟩⟩⟩⟩⟩
theorem jqf {i : Nat} (h : i < 10) : ([.d (.val (.int .i64 2)), .d (.val (.int .i64 3)), .d (.val (.int .i64 4)), .d (.val (.int .i64 5)), .d (.val (.int .i64 6)), .d (.val (.int .i64 7)), .d (.val (.int .i64 10)), .d (.val (.int .i64 8)), .d (.val (.int .i64 9)), .d (.val (.int .i64 11))] : List AV)[i]? = some (.d (.val (.int .i64 (nth ([2, 3, 4, 5, 6, 7, 10, 8, 9, 11] : List Int) i)))) := by
 rcases (show i = 0 ∨ i = 1 ∨ i = 2 ∨ i = 3 ∨ i = 4 ∨ i = 5 ∨ i = 6 ∨ i = 7 ∨ i = 8 ∨ i = 9 by omega) with rfl | rfl | rfl | rfl | rfl | rfl | rfl | rfl | rfl | rfl <;> rfl
def byK (m k : Nat) : Nat := k * m
theorem ycj (m : Nat) : byK m 0 = 0 := Nat.zero_mul m
theorem yck (m k : Nat) : byK m (k + 1) = byK m k + m := Nat.succ_mul k m
theorem jwq {m k : Nat} (h : k ≤ 3) : byK m k ≤ 3 * m := Nat.mul_le_mul_right m h
def OpW (w : Nat) (o : Int) (ws : List Nat) : Prop := (o = 2 ∧ ws = [w]) ∨ ((o = 3 ∨ o = 4 ∨ o = 5 ∨ o = 6 ∨ o = 7) ∧ ws = [w, w]) ∨ (o = 10 ∧ ws = [1, w, w]) ∨ ((o = 8 ∨ o = 9) ∧ w = 1 ∧ ∃ u, 1 ≤ u ∧ u ≤ 3 ∧ ws = [u, u]) ∨ (o = 11 ∧ 1 < w ∧ ws = [w - 1, 1])
theorem jwr {w : Nat} {o : Int} {ws : List Nat} (h : OpW w o ws) (hw : 1 ≤ w) : ws.length ≤ 3 ∧ ∀ k, k < ws.length → 1 ≤ nth ws k ∧ (nth ws k ≤ w ∨ nth ws k ≤ 3) := by
 rcases h with ⟨_, rfl⟩ | ⟨_, rfl⟩ | ⟨_, rfl⟩ | ⟨_, _, u, h1, h2, rfl⟩ | ⟨_, h1, rfl⟩ <;> refine ⟨by simp, fun k hk => ?_⟩ <;> simp only [List.length_cons, List.length_nil] at hk <;> rcases (show k = 0 ∨ k = 1 ∨ k = 2 by omega) with rfl | rfl | rfl <;> simp [nth] <;> omega
theorem ycl {l : List Ex} (h : l.length = 1) : l = [nth l 0] := by
 match l, h with
 | [a], _ => rfl
theorem jgi {l : List Ex} (h : l.length = 2) : l = [nth l 0, nth l 1] := by
 match l, h with
 | [a, b], _ => rfl
theorem jws {l : List Ex} (h : l.length = 3) : l = [nth l 0, nth l 1, nth l 2] := by
 match l, h with
 | [a, b, c], _ => rfl
theorem jwt {C : Ct} {q : Bool} (hC : CtOk C) {w n : Nat} {o : Int} {ws : List Nat} {l : List Ex} (h : OpW w o ws) (hl : l.length = ws.length) (hf : ∀ k, k < ws.length → Fit C q (nth ws k) n (nth l k)) (hw8 : w ≤ 8) : ∃ e, Fit C q w (3 * n + 32) e ∧ exC e = exR o 0 0 (l.flatMap exC) l.length := by
 rcases h with ⟨rfl, rfl⟩ | ⟨ho, rfl⟩ | ⟨rfl, rfl⟩ | ⟨ho, rfl, u, h1, h2, rfl⟩ | ⟨rfl, h1, rfl⟩
 ·have f0 := hf 0 (by simp)
  have el := ycl hl
  obtain ⟨t0, w0, n0⟩ := f0
  refine ⟨.not (nth l 0), ⟨t0, w0, ?_⟩, by rw [el]; simp [exC, nth]⟩
  simp only [za0]
  simp [nth] at w0 n0 ⊢
  omega
 ·obtain ⟨t0, w0, n0⟩ := hf 0 (by simp)
  obtain ⟨t1, w1, n1⟩ := hf 1 (by simp)
  have el := jgi hl
  have w0' : zb4 C (nth l 0) = w := w0
  have w1' : zb4 C (nth l 1) = w := w1
  rcases ho with rfl | rfl | rfl | rfl | rfl
  ·exact ⟨.two 3 (nth l 0) (nth l 1), ⟨⟨by simp, t0, t1, by rw [w0', w1']⟩, w0', by simp only [za0]; omega⟩, by rw [el]; simp [exC, nth]⟩
  ·exact ⟨.two 4 (nth l 0) (nth l 1), ⟨⟨by simp, t0, t1, by rw [w0', w1']⟩, w0', by simp only [za0]; omega⟩, by rw [el]; simp [exC, nth]⟩
  ·exact ⟨.two 5 (nth l 0) (nth l 1), ⟨⟨by simp, t0, t1, by rw [w0', w1']⟩, w0', by simp only [za0]; omega⟩, by rw [el]; simp [exC, nth]⟩
  ·exact ⟨.add (nth l 0) (nth l 1), ⟨⟨t0, t1, by rw [w0', w1']⟩, w0', by simp only [za0]; omega⟩, by rw [el]; simp [exC, nth]⟩
  ·exact ⟨.sub (nth l 0) (nth l 1), ⟨⟨t0, t1, by rw [w0', w1']⟩, w0', by simp only [za0]; omega⟩, by rw [el]; simp [exC, nth]⟩
 ·obtain ⟨t0, w0, n0⟩ := hf 0 (by simp)
  obtain ⟨t1, w1, n1⟩ := hf 1 (by simp)
  obtain ⟨t2, w2, n2⟩ := hf 2 (by simp)
  have el := jws hl
  have w0' : zb4 C (nth l 0) = 1 := w0
  have w1' : zb4 C (nth l 1) = w := w1
  have w2' : zb4 C (nth l 2) = w := w2
  exact ⟨.mux (nth l 0) (nth l 1) (nth l 2), ⟨⟨t0, t1, t2, w0', by rw [w1', w2']⟩, w1', by simp only [za0]; omega⟩, by rw [el]; simp [exC, nth]⟩
 ·obtain ⟨t0, w0, n0⟩ := hf 0 (by simp)
  obtain ⟨t1, w1, n1⟩ := hf 1 (by simp)
  have el := jgi hl
  have w0' : zb4 C (nth l 0) = u := w0
  have w1' : zb4 C (nth l 1) = u := w1
  rcases ho with rfl | rfl
  ·exact ⟨.eq (nth l 0) (nth l 1), ⟨⟨t0, t1, by rw [w0', w1']⟩, rfl, by simp only [za0]; omega⟩, by rw [el]; simp [exC, nth]⟩
  ·exact ⟨.lt (nth l 0) (nth l 1), ⟨⟨t0, t1, by rw [w0', w1']⟩, rfl, by simp only [za0]; omega⟩, by rw [el]; simp [exC, nth]⟩
 ·obtain ⟨t0, w0, n0⟩ := hf 0 (by simp)
  obtain ⟨t1, w1, n1⟩ := hf 1 (by simp)
  have el := jgi hl
  have w0' : zb4 C (nth l 0) = w - 1 := w0
  have w1' : zb4 C (nth l 1) = 1 := w1
  exact ⟨.cat (nth l 0) (nth l 1), ⟨⟨t0, t1, by rw [w0', w1']; omega⟩, by show zb4 C (nth l 0) + zb4 C (nth l 1) = w; rw [w0', w1']; omega, by simp only [za0]; omega⟩, by rw [el]; simp [exC, nth]⟩
def zdt : AObj := .cells [.d (iD 0), .d nS, .d (iD 0), .d nS, .d (iD 0), .d nS, .d (.val (.slice none 0 0)), .d (.val (.slice none 0 0)), .d (iD 0)]
theorem zez {p q : Prop} (hq : q) (h : p = q := by
 conv => lhs; simp -dsimp -implicitDefEqProofs (disch := first | assumption | omega | (simp only [r_z, zb0, zbt] <;> omega) | decide) only [r_r, ↓reduceIte, Nat.reduceEqDiff, Nat.reduceAdd, D.fix, Int.reduceToNat, Nat.reduceMul, Nat.reduceBNe, Nat.reduceBEq, ze5, zbo, scV, nI, exR, zdt, zbw, zbx, Int.reduceBEq, Int.reduceToNat, Bool.not_true, Bool.not_false, jj7]) : p := h.mpr hq
theorem zl0 {p q r : Prop} (e : r) (hq : q) (h : r → p = q := by
 intro hY
 conv => lhs; simp -dsimp -implicitDefEqProofs (disch := first | assumption | omega | (simp only [r_z, zb0, zbt] <;> omega) | decide) only [r_r, ↓reduceIte, Nat.reduceEqDiff, Nat.reduceAdd, D.fix, Int.reduceToNat, Nat.reduceMul, Nat.reduceBNe, Nat.reduceBEq, ze5, zbo, scV, nI, exR, zdt, zbw, zbx, Int.reduceBEq, Int.reduceToNat, Bool.not_true, Bool.not_false, jj7, hY]) : p := (h e).mpr hq
theorem jwu {p q r : Prop} (e : r) (hq : q) (h : r → p = q := by
 intro hY
 conv => lhs; simp -dsimp -implicitDefEqProofs (disch := first | assumption | omega | (simp only [r_z, zb0, zbt] <;> omega) | decide) only [r_r, ↓reduceIte, Nat.reduceEqDiff, Nat.reduceAdd, D.fix, Int.reduceToNat, Nat.reduceMul, Nat.reduceBNe, Nat.reduceBEq, r_w, ze5, zbo, scV, nI, exR, zdt, zbw, zbx, Int.reduceBEq, Int.reduceToNat, Bool.not_true, Bool.not_false, jj7, hY]) : p := (h e).mpr hq
theorem yfd {P : Program} {sm : List Nat} {N : Nat} {τ0 τ : Fr} {H : zae} {f : FuncId} {args : List AV} {K0 KK : AV → zae → Prop} {ks : List Nat} (S T : zae) (h : ScS P ks f args S K0) (hK : ∀ x S', K0 x S' → S'.length = S.length ∧ KK x (S' ++ T)) (hH : H = S ++ T := by
 rfl) (hN : S.length ≤ N := by
 exact Nat.le_of_ble_eq_true rfl) (hm : sm.all (okI ks S.length) = true := by
 first | rfl | (simp [AV.allIs, AV.allI, zaq, zah, zai, okI, ltI, zad, zax, zdt, zbe, scV, zbo]; done) | (intro o ho; simp at ho; done)) (hτ : ∀ t, (τ t).allI (okI ks S.length) = true := by
 exact fun t => zbi (by first | rfl | (simp [AV.allIs, AV.allI, zaq, zah, zai, okI, ltI, zad, zax, zdt, zbe, scV, zbo]; done) | (intro o ho; simp at ho; done)) t) (h0 : ∀ t, (τ0 t).allI (okI ks S.length) = true := by
 exact fun t => zbi (by first | rfl | (simp [AV.allIs, AV.allI, zaq, zah, zai, okI, ltI, zad, zax, zdt, zbe, scV, zbo]; done) | (intro o ho; simp at ho; done)) t) (ha : AV.allIs (ltI S.length) args = true := by
 first | rfl | (simp [AV.allIs, AV.allI, zaq, zah, zai, okI, ltI, zad, zax, zdt, zbe, scV, zbo]; done) | (intro o ho; simp at ho; done)) (hS : ∀ o ∈ S, o.allI (ltI S.length) = true := by
 first | rfl | (simp [AV.allIs, AV.allI, zaq, zah, zai, okI, ltI, zad, zax, zdt, zbe, scV, zbo]; done) | (intro o ho; simp at ho; done)) (hT : ∀ o ∈ T, o.allI (okI ks S.length) = true := by
 first | rfl | (simp [AV.allIs, AV.allI, zaq, zah, zai, okI, ltI, zad, zax, zdt, zbe, scV, zbo]; done) | (intro o ho; simp at ho; done)) : kE P sm N τ0 τ H (.d (.val (.func (.func f) #[] #[]))) args (tg KK) := zlu h hH hN hm hτ h0 ha hS hT hK
theorem jaa (k : List Nat) {m : List Nat} {τ τ1 : Fr} {H H1 : zae} (h : Rt m (fun t => gcV k (τ t)) (gcH k H) τ1 H1) (a : ∀ i ∈ m, k[i]? = some i := by decide) (b : k.Nodup := by decide) (c : ∀ i ∈ k, i < H.length := by
 simp [fzH, gcH]) : Rt m τ H τ1 H1 := Rt.trans (Rt.gc a b c) h
theorem zv5 {m : List Nat} {τ τ' : Fr} {H H' : zae} (h2 : H = H') (h : zfq τ τ' := by
 repeat (first | exact zas _ | refine zao ?_ (by first | rfl | (simp [r_f, zb0, zbt]; done) | simp [r_f, zb0, zbt, *]))) : Rt m τ H τ' H' := Rt.end h h2
theorem jj8 {p q : Prop} (hq : q) (h : p = q := by
 conv => lhs; simp -dsimp -implicitDefEqProofs (disch := first | assumption | omega | (simp only [r_z, zb0, zbt] <;> omega) | decide) only [r_r, ↓reduceIte, Nat.reduceEqDiff, Nat.reduceAdd, D.fix, Int.reduceToNat, Nat.reduceMul, Nat.reduceBNe, Nat.reduceBEq, ze5, zbo, scV, nI, exR, zdt, zbw, zbx, Int.reduceBEq, Int.reduceToNat, Bool.not_true, Bool.not_false, ziq, jf1]) : p := h.mpr hq
theorem yfe {P : Program} {sm : List Nat} {N : Nat} {τ : Fr} {H : zae} {f : FuncId} {args : List AV} {K0 KK : AV → zae → Prop} {ks : List Nat} (S T : zae) (h : ScS P ks f args S K0) (hK : ∀ x S', K0 x S' → S'.length = S.length ∧ KK x (S' ++ T)) (hH : H = S ++ T := by
 rfl) (hm : sm.all (okI ks S.length) = true := by
 first | rfl | (simp [AV.allIs, AV.allI, zaq, zah, zai, okI, ltI, zad, zax, zdt, zbe, scV, zbo]; done) | (intro o ho; simp at ho; done)) (hτ : ∀ t, (τ t).allI (okI ks S.length) = true := by
 exact fun t => zbi (by first | rfl | (simp [AV.allIs, AV.allI, zaq, zah, zai, okI, ltI, zad, zax, zdt, zbe, scV, zbo]; done) | (intro o ho; simp at ho; done)) t) (ha : AV.allIs (ltI S.length) args = true := by
 first | rfl | (simp [AV.allIs, AV.allI, zaq, zah, zai, okI, ltI, zad, zax, zdt, zbe, scV, zbo]; done) | (intro o ho; simp at ho; done)) (hS : ∀ o ∈ S, o.allI (ltI S.length) = true := by
 first | rfl | (simp [AV.allIs, AV.allI, zaq, zah, zai, okI, ltI, zad, zax, zdt, zbe, scV, zbo]; done) | (intro o ho; simp at ho; done)) (hT : ∀ o ∈ T, o.allI (okI ks S.length) = true := by
 first | rfl | (simp [AV.allIs, AV.allI, zaq, zah, zai, okI, ltI, zad, zax, zdt, zbe, scV, zbo]; done) | (intro o ho; simp at ho; done)) : kC P sm N H τ (.d (.val (.func (.func f) #[] #[]))) args true (tg KK) := zjo h hH hm hτ ha hS hT hK
theorem jwv {p q r : Prop} (e : r) (hq : q) (h : r → p = q := by
 intro hY
 conv => lhs; simp -dsimp -implicitDefEqProofs (disch := first | assumption | omega | (simp only [r_z, zb0, zbt] <;> omega) | decide) only [r_r, ↓reduceIte, Nat.reduceEqDiff, Nat.reduceAdd, D.fix, Int.reduceToNat, Nat.reduceMul, Nat.reduceBNe, Nat.reduceBEq, r_w, ze5, zbo, scV, nI, exR, zdt, zbw, zbx, Int.reduceBEq, Int.reduceToNat, Bool.not_true, Bool.not_false, zbj, jj7, hY]) : p := (h e).mpr hq
theorem jsu {p q : Prop} (hq : q) (h : p = q := by
 conv => lhs; simp only [r_g, Nat.reduceAdd, ↓reduceIte, Nat.reduceEqDiff, ze5, zbo, scV, nI, exR, zdt, zbw, zbx, Int.reduceBEq, Int.reduceToNat, Bool.not_true, Bool.not_false]) : p := h.mpr hq
theorem jj9 {p : Prop} (h : p := by
 first | rfl | (simp only [r_g, Nat.reduceAdd, ↓reduceIte, Nat.reduceEqDiff, ze5, zbo, scV, nI, exR, zdt, zbw, zbx, Int.reduceBEq, Int.reduceToNat, Bool.not_true, Bool.not_false]; first | done | rfl)) : p := h
theorem jgj (d : Nat) (hT : TyK (d + 1)) (C : Ct) (s : Sc) (b : List Int) (i w : Nat) (hC : CtOk C) (hs : ScOk C s) (hb : zg6 b) (hl : b.length ≤ maxLen) (hw : 1 ≤ w) (hw8 : w + (d + 2) ≤ 8) (hd : d ≤ 3) (hi : i ≤ jb0 (d + 2)) : ScS Try.prog [0] 60 [ze5 b i, .agg (scV s), .agg [.d (iD w), .d (iD (d + 2 : Nat))]] ([zde s, .free]) (TyQ C s b i w (zu1 (d + 2)) (byD (d + 2))) := by
 refine zbh (fn := Try.f60) (by kernel_rfl) Try.func60 rfl (Nat.le_of_ble_eq_true rfl) fun c hc hp => ?_
 refine ze8 ?_
 obtain ⟨hcp, hcp2⟩ := yci hd
 have hbd : byD (d + 1) ≤ 100000 := by
  rcases (show d = 0 ∨ d = 1 ∨ d = 2 ∨ d = 3 by omega) with rfl | rfl | rfl | rfl <;> decide
 obtain ⟨y, hy⟩ : ∃ y : Nat, byN b i = y := ⟨(byN b i).toNat, by have := (zjr hb i).1; omega⟩
 have hy2 := (zjr hb i).2
 have hy14 : (y : Int) / 14 = ((y / 14 : Nat) : Int) := by omega
 have hy14r : (y : Int) % 14 = ((y % 14 : Nat) : Int) := by omega
 have hyb := zmi b i hb hl
 rw [hy] at hyb
 have hdd : ((d + 2 : Nat) : Int) - 1 = ((d + 1 : Nat) : Int) := by omega
 have hd1 : decide (((d + 2 : Nat) : Int) ≤ 1) = false := decide_eq_false (by omega)
 have hcs : zu1 (d + 2) = 3 * zu1 (d + 1) + 32 := rfl
 have hby : byD (d + 2) = 3 * byD (d + 1) + 1 := rfl
 have hbp := joa (d + 1)
 refine szq hp (fun _ hZ => zez hZ) ?_
 refine za5 zak hc mixed rfl (q := 0) (by kernel_rfl) (by kernel_rfl) fun K2 hK2 => ?_
 refine zez ?_
 refine hK2 _ _ ?_
 refine zag hp zak hc rfl fun K3 hK3 => ?_
 refine zez ?_
 refine zbp (hyb) rfl ?_
 refine zez ?_
 refine hK3 _ _ ?_
 refine zag hp zak hc rfl fun K4 hK4 => ?_
 refine zez ?_
 refine zbp (jj2 b i 1 (by omega) (by omega)) rfl ?_
 refine zez ?_
 refine hK4 _ _ ?_
 refine szq hp (fun _ hZ => zl0 hy14r hZ) ?_
 refine zaa fun K6 hK6 => ?_
 refine szq hp (fun _ hZ => zl0 hd1 hZ) ?_
 refine zal rfl (fun ht => ?_) (fun ht => ?_)
 ·have hk2 : y % 14 < 2 := by simp at ht; omega
  refine za6 zak hp hc mixed rfl [(0, []), (1, []), (2, []), (3, []), (5, []), (4, [5]), (6, []), (7, [])] [[], [], [], [2], [0, 1, 2, 3], [], [0, 1, 2, 3, 4, 5], [0, 1, 2, 3, 4, 5, 6]] 0 (by kernel_rfl) fun K8 hK8 => ?_
  refine jwu hy14 ?_
  refine yfd ([zde s, .free]) ([.cells (avs (zbo b (i + 1))), .cells (scV s), .cells [.d (iD w), .d (iD (d + 2 : Nat))], zdt]) (jn9 C s w (y / 14) hs hw (by omega) (by omega)) ?_
  rintro _ _ ⟨e, he, rfl, g, rfl⟩
  refine ⟨rfl, ?_⟩
  obtain ⟨xo, xk, xw, xc, xn, hex⟩ := zb8 e; unfold exV; rw [hex]
  refine jwu hy14 ?_
  refine hK8 _ _ ?_
  refine zat hp (τ' := frL [(6, .op 1 0)]) (H' := [zde s, .cells [.d (iD xo), .d nS, .d (iD xk), .d nS, .d (iD xw), .d nS, .d (.fs xc xn), .d (bytesD b), .d (iD (i + 1 : Nat))]]) ?_ ?_
  ·refine jaa [0,5] ?_
   refine zv5 ?_
   refine jsu ?_; simp [bytesD, iD]
  refine zam ?_
  try dsimp only [zco, za8]
  refine zba rfl ?_
  refine jj8 ?_
  show ∃ _, _
  exact ⟨e, i + 1, ⟨he.t, he.w, by have := he.n; omega⟩, by omega, by omega, by unfold tyV; rw [hex]; simp [zbo, iD, bytesD], _, rfl⟩
 ·have hk2 : 2 ≤ y % 14 := by simp at ht; omega
  refine zaj (hK6 _ _ ?_)
  refine zaa fun K9 hK9 => ?_
  refine zag hp zak hc rfl fun K10 hK10 => ?_
  rcases (show y % 14 = 2 ∨ y % 14 = 3 ∨ 4 ≤ y % 14 by omega) with e2 | e2 | e2
  ·have q7 : (((y % 14 : Nat) : Int) == 2) = true := by rw [e2]; rfl
   have q8 := q7
   refine zl0 (sza q7 q8) ?_
   refine hK10 _ _ ?_
   refine szt ?_
   refine zag hp zak hc rfl fun K11 hK11 => ?_
   refine zl0 hy14 ?_
   refine yfe ([zde s, .free]) ([.cells (avs (zbo b (i + 1))), .cells (scV s), .cells [.d (iD w), .d (iD (d + 2 : Nat))], zdt]) (zt1 d hT C s b (i + 1) w (y / 14) hC hs hb hl hw hw8 hd (by omega) (by omega)) ?_
   rintro _ _ ⟨e, j, he, hj1, hj2, rfl, g, rfl⟩
   refine ⟨rfl, ?_⟩
   obtain ⟨xo, xk, xw, xc, xn, hex⟩ := zb8 e; unfold tyV; rw [hex]; dsimp only [List.map_cons, List.map_nil, List.cons_append, List.nil_append, zbo]
   refine zl0 hy14 ?_
   refine hK11 _ _ ?_
   refine zat hp (τ' := frL [(6, .op 1 0)]) (H' := [zde s, .cells [.d (iD xo), .d nS, .d (iD xk), .d nS, .d (iD xw), .d nS, .d (.fs xc xn), .d (bytesD b), .d (iD j)]]) ?_ ?_
   ·refine jaa [0,5] ?_
    refine zv5 ?_
    refine jsu ?_; simp [bytesD, iD]
   refine zam ?_
   try dsimp only [zco, za8]
   refine zba rfl ?_
   refine jj8 ?_
   show ∃ _, _
   exact ⟨e, j, he, by omega, by omega, by unfold tyV; rw [hex]; simp [zbo, iD, bytesD], _, rfl⟩
  ·have q7 : (((y % 14 : Nat) : Int) == 2) = false := by rw [e2]; rfl
   have q8 : (((y % 14 : Nat) : Int) == 3) = true := by rw [e2]; rfl
   refine zl0 (sza q7 q8) ?_
   refine hK10 _ _ ?_
   refine szt ?_
   refine zag hp zak hc rfl fun K12 hK12 => ?_
   refine zl0 hy14 ?_
   refine yfe ([zde s, .free]) ([.cells (avs (zbo b (i + 1))), .cells (scV s), .cells [.d (iD w), .d (iD (d + 2 : Nat))], zdt]) (zt1 d hT C s b (i + 1) w (y / 14) hC hs hb hl hw hw8 hd (by omega) (by omega)) ?_
   rintro _ _ ⟨e, j, he, hj1, hj2, rfl, g, rfl⟩
   refine ⟨rfl, ?_⟩
   obtain ⟨xo, xk, xw, xc, xn, hex⟩ := zb8 e; unfold tyV; rw [hex]; dsimp only [List.map_cons, List.map_nil, List.cons_append, List.nil_append, zbo]
   refine zl0 hy14 ?_
   refine hK12 _ _ ?_
   refine zat hp (τ' := frL [(6, .op 1 0)]) (H' := [zde s, .cells [.d (iD xo), .d nS, .d (iD xk), .d nS, .d (iD xw), .d nS, .d (.fs xc xn), .d (bytesD b), .d (iD j)]]) ?_ ?_
   ·refine jaa [0,5] ?_
    refine zv5 ?_
    refine jsu ?_; simp [bytesD, iD]
   refine zam ?_
   try dsimp only [zco, za8]
   refine zba rfl ?_
   refine jj8 ?_
   show ∃ _, _
   exact ⟨e, j, he, by omega, by omega, by unfold tyV; rw [hex]; simp [zbo, iD, bytesD], _, rfl⟩
  ·have q7 : (((y % 14 : Nat) : Int) == 2) = false := by rw [beq_eq_false_iff_ne]; omega
   have q8 : (((y % 14 : Nat) : Int) == 3) = false := by rw [beq_eq_false_iff_ne]; omega
   refine zl0 (sza q7 q8) ?_
   refine hK10 _ _ ?_
   refine szf ?_
   refine zaj (hK9 _ _ ?_)
   obtain ⟨o0, ho0, hoo⟩ : ∃ o : Int, o = nth ([2, 3, 4, 5, 6, 7, 10, 8, 9, 11] : List Int) (y % 14 - 4) ∧ (o = 2 ∨ o = 3 ∨ o = 4 ∨ o = 5 ∨ o = 6 ∨ o = 7 ∨ o = 10 ∨ o = 8 ∨ o = 9 ∨ o = 11) := by
    refine ⟨_, rfl, ?_⟩
    rcases (show y % 14 = 4 ∨ y % 14 = 5 ∨ y % 14 = 6 ∨ y % 14 = 7 ∨ y % 14 = 8 ∨ y % 14 = 9 ∨ y % 14 = 10 ∨ y % 14 = 11 ∨ y % 14 = 12 ∨ y % 14 = 13 by omega) with e | e | e | e | e | e | e | e | e | e <;> rw [e] <;> decide
   have hog := jqf (i := y % 14 - 4) (by omega)
   rw [← ho0] at hog
   have hy4 : ((y % 14 : Nat) : Int) - 4 = ((y % 14 - 4 : Nat) : Int) := by omega
   have hy143 : ((y / 14 : Nat) : Int) % 3 = ((y / 14 % 3 : Nat) : Int) := by omega
   have h1y : (1 : Int) + ((y / 14 % 3 : Nat) : Int) = ((1 + y / 14 % 3 : Nat) : Int) := by omega
   clear ho0
   refine szq hp (fun _ hZ => zl0 (sza hy4 hog) hZ) ?_
   refine szq hp (fun _ hZ => zez hZ) ?_
   refine zaa fun K15 hK15 => ?_
   have hJ15 : ∀ τ' H', (∃ τ1 H1, ∃ (o : Int) (ws : List Nat), (OpW w o ws) ∧ H1 = [zde s, .free, .cells (avs (zbo b (i + 1))), .cells (scV s), .cells [.d (iD w), .d (iD (d + 2 : Nat))], zdt, .cells [.d (iD o), .d nS, .d (iD 0), .d nS, .d (iD 0), .d nS, .d (.val (.slice none 0 0))], .cells (avs (ws.map fun n : Nat => iD n))] ∧ τ1 = frL [(3, .op 2 0), (4, .op 3 0), (6, .op 5 0), (8, .d (iD (d + 2 : Nat))), (11, .op 6 0), (12, .os 1 7 0 ws.length)] ∧ Rt [0] τ' H' τ1 H1) → K15 τ' H' := by
    rintro τ' H' ⟨_, _, o, ws, how, rfl, rfl, hrt⟩
    refine hK15 _ _ (zat hp hrt ?_)
    clear hrt
    refine zaa fun K16 hK16 => ?_
    refine zag hp zak hc rfl fun K17 hK17 => ?_
    simp -dsimp -implicitDefEqProofs (disch := first | assumption | omega | (simp only [r_z, zb0, zbt] <;> omega) | decide) only [r_r, ↓reduceIte, Nat.reduceEqDiff, Nat.reduceAdd, D.fix, Int.reduceToNat, Nat.reduceMul, Nat.reduceBNe, Nat.reduceBEq, ze5, zbo, scV, nI, exR, zdt, zbw, zbx, Int.reduceBEq, Int.reduceToNat, Bool.not_true, Bool.not_false]
    refine hK17 _ _ ?_
    refine zaf ?_
    refine zan hp (fun τ' H' mm => ∃ (k j : Nat) (l : List Ex), (k ≤ ws.length ∧ l.length = k ∧ (∀ q, q < k → Fit C s.q (nth ws q) (zu1 (d + 1)) (nth l q)) ∧ i + 1 ≤ j ∧ j ≤ i + 1 + byK (byD (d + 1)) k) ∧ mm = ws.length - k ∧ H' = [zde s, .free, .cells (avs (zbo b j)), .cells (scV s), .cells [.d (iD w), .d (iD (d + 2 : Nat))], zdt, .cells [.d (iD o), .d nS, .d (iD 0), .d nS, .d (iD 0), .d nS, .os 7 8 0 l.length], .cells (avs (ws.map fun n : Nat => iD n)), .cells (avs (l.flatMap exC))] ∧ τ' = frL [(3, .op 2 0), (4, .op 3 0), (6, .op 5 0), (8, .d (iD (d + 2 : Nat))), (11, .op 6 0), (12, .os 1 7 0 ws.length), (13, .d (iD k))]) (ws.length) ?_ ⟨0, i + 1, [], ⟨Nat.zero_le _, rfl, fun q hq => by omega, Nat.le_refl _, by rw [ycj]; omega⟩, rfl, rfl, rfl⟩ ?_
    ·refine Rt.trans (Rt.nilc 6 6 7 rfl rfl) ?_
     refine zv5 ?_
     exact jj9
    rintro τ' H' mm ⟨k, j, l, ⟨hk, hlk, hlf, hj1, hj2⟩, rfl, rfl, rfl⟩
    obtain ⟨ow1, ow2⟩ := jwr how hw
    refine zaa fun K18 hK18 => ?_
    refine szq hp (fun _ hZ => zez hZ) ?_
    refine zal rfl (fun ht => ?_) (fun ht => ?_)
    ·have hlt : k < ws.length := by simp at ht; omega
     obtain ⟨ow3, ow4⟩ := ow2 k hlt
     have hkb : byK (byD (d + 1)) k ≤ 3 * byD (d + 1) := jwq (by omega)
     refine zaj (hK18 _ _ ?_)
     refine zaa fun K20 hK20 => ?_
     refine zaf ?_
     refine za6 zak hp hc mixed rfl [(0, []), (1, []), (2, []), (3, []), (4, []), (5, []), (6, []), (7, []), (8, []), (10, []), (9, []), (11, [])] [[], [], [], [], [2, 3], [2, 3, 4], [], [6], [2, 3, 4, 5, 6, 7], [0, 1, 2, 3, 4, 5, 6, 7, 8], [], [0, 1, 2, 3, 4, 5, 6, 7, 8, 9, 10]] 1 (by kernel_rfl) fun K21 hK21 => ?_
     refine jwv hdd ?_
     refine yfd ([zde s, .free]) ([.cells (avs (zbo b j)), .cells (scV s), .cells [.d (iD w), .d (iD (d + 2 : Nat))], zdt, .cells [.d (iD o), .d nS, .d (iD 0), .d nS, .d (iD 0), .d nS, .os 7 8 0 l.length], .cells (avs (ws.map fun n : Nat => iD n)), .cells (avs (l.flatMap exC)), zdt]) (hT C s b j (nth ws k) hC hs hb hl ow3 (by omega) (by omega)) ?_
     rintro _ _ ⟨e, j', he, hj3, hj4, rfl, g, rfl⟩
     refine ⟨rfl, ?_⟩
     obtain ⟨xo, xk, xw, xc, xn, hex⟩ := zb8 e; unfold tyV; rw [hex]; dsimp only [List.map_cons, List.map_nil, List.cons_append, List.nil_append, zbo]
     refine jwv hdd ?_
     refine hK21 _ _ ?_
     refine szq hp (fun _ hZ => zez hZ) ?_
     refine szs hp (fun _ hZ => zez hZ) (hK20 _ _ ?_)
     refine za1 hp zak hc rfl fun K24 hK24 => ?_
     refine zez ?_
     have hlf2 : ∀ q, q < k + 1 → Fit C s.q (nth ws q) (zu1 (d + 1)) (nth (l ++ [e]) q) := fun q hq => by
      rcases zgk (x := e) hlk hq with ⟨h1, h2⟩ | ⟨h1, h2⟩
      ·rw [h2]; exact hlf q h1
      ·rw [h2, h1]; exact he
     refine hK24 _ _ ⟨_, _, _, ?_, ⟨k + 1, j', l ++ [e], ⟨by omega, by simp [hlk], hlf2, by omega, by rw [yck]; omega⟩, rfl, rfl, rfl⟩, ?_⟩
     ·first | omega | (simp only [List.length_cons]; omega) | (dsimp only; omega)
     ·refine Rt.trans (Rt.fr1) ?_
      refine jaa [0,12,2,3,4,5,6,7,11] ?_
      refine zv5 ?_
      refine jsu ?_; simp [hex, exR, nS, iD, oD, bytesD]
    ·have hkk : k = ws.length := by simp at ht; omega
     subst hkk
     have hkb : byK (byD (d + 1)) ws.length ≤ 3 * byD (d + 1) := jwq ow1
     obtain ⟨e, he, hex⟩ := jwt hC how hlk hlf (by omega)
     have htk : zbv (l.flatMap exC) 0 (l.length * 7) = some (l.flatMap exC) := zbf (by rw [zbt])
     refine zau (hK16 _ _ ?_)
     refine szq hp (fun _ hZ => zez hZ) ?_
     refine zat hp (τ' := frL [(6, .op 1 0)]) (H' := [zde s, .cells [.d (iD o), .d nS, .d (iD 0), .d nS, .d (iD 0), .d nS, .d (.fs (l.flatMap exC) l.length), .d (bytesD b), .d (iD j)]]) ?_ ?_
     ·refine Rt.trans (Rt.fz (id := 8) (l := (l.flatMap exC)) rfl) ?_
      refine jaa [0,5] ?_
      refine zv5 ?_
      refine jsu ?_; simp [bytesD, iD, nS, htk, gcV]
     refine zam ?_
     try dsimp only [zco, za8]
     refine zba rfl ?_
     refine jj8 ?_
     show ∃ _, _
     exact ⟨e, j, by rw [hcs]; exact he, by omega, by omega, by unfold tyV; rw [hex]; simp [exR, zbo, nS, iD, bytesD], _, rfl⟩
   refine szq hp (fun _ hZ => zez hZ) ?_
   refine zaf ?_
   refine szq hp (fun _ hZ => zez hZ) ?_
   refine zal rfl (fun ht => ?_) (fun ht => ?_)
   ·have h2 : o0 = 2 := by simpa using ht
    subst h2
    refine za1 hp zak hc rfl fun K28 hK28 => ?_
    refine zez ?_
    refine hK28 _ _ (hJ15 _ _ ⟨_, _, 2, [w], .inl ⟨rfl, rfl⟩, rfl, rfl, ?_⟩)
    refine jaa [0,1,2,3,4,5,7,9] ?_
    refine zv5 ?_
    exact jj9
   ·have h2 : o0 ≠ 2 := by simpa using ht
    refine szq hp (fun _ hZ => zez hZ) ?_
    refine zal rfl (fun ht => ?_) (fun ht => ?_)
    ·have h3 : o0 = 10 := by simpa using ht
     subst h3
     refine za1 hp zak hc rfl fun K30 hK30 => ?_
     refine zez ?_
     refine hK30 _ _ (hJ15 _ _ ⟨_, _, 10, [1, w, w], .inr (.inr (.inl ⟨rfl, rfl⟩)), rfl, rfl, ?_⟩)
     refine jaa [0,1,2,3,4,5,7,9] ?_
     refine zv5 ?_
     exact jj9
    ·have h3 : o0 ≠ 10 := by simpa using ht
     refine zaa fun K31 hK31 => ?_
     refine szq hp (fun _ hZ => zez hZ) ?_
     refine zal rfl (fun ht => ?_) (fun ht => ?_)
     ·have h4 : o0 = 8 := by simpa using ht
      refine zaj (hK31 _ _ ?_)
      refine zal rfl (fun ht => ?_) (fun ht => ?_)
      ·refine szq hp (fun _ hZ => zez hZ) ?_
       refine zal rfl (fun ht => ?_) (fun ht => ?_)
       ·have hw1 : 1 < w := by simp at ht; omega
        refine za1 hp zak hc rfl fun K34 hK34 => ?_
        refine zez ?_
        refine hK34 _ _ (hJ15 _ _ ⟨_, _, 5, [w, w], .inr (.inl ⟨by simp, rfl⟩), rfl, rfl, ?_⟩)
        refine jaa [0,1,2,3,4,5,7,8] ?_
        refine zv5 ?_
        exact jj9
       ·have hw1 : w = 1 := by simp at ht; omega
        refine za1 hp zak hc rfl fun K35 hK35 => ?_
        refine zl0 (sza hy14 (sza hy143 h1y)) ?_
        refine hK35 _ _ (hJ15 _ _ ⟨_, _, o0, [1 + y / 14 % 3, 1 + y / 14 % 3], .inr (.inr (.inr (.inl ⟨.inl h4, hw1, _, by omega, by omega, rfl⟩))), rfl, rfl, ?_⟩)
        refine jaa [0,1,2,3,4,5,7,9] ?_
        refine zv5 ?_
        exact jj9
      ·rw [h4] at ht
       cases ht
     ·have h4 : o0 ≠ 8 := by simpa using ht
      refine szs hp (fun _ hZ => zez hZ) (hK31 _ _ ?_)
      refine zal rfl (fun ht => ?_) (fun ht => ?_)
      ·have h5 : o0 = 9 := by simpa using ht
       refine szq hp (fun _ hZ => zez hZ) ?_
       refine zal rfl (fun ht => ?_) (fun ht => ?_)
       ·have hw1 : 1 < w := by simp at ht; omega
        refine za1 hp zak hc rfl fun K38 hK38 => ?_
        refine zez ?_
        refine hK38 _ _ (hJ15 _ _ ⟨_, _, 5, [w, w], .inr (.inl ⟨by simp, rfl⟩), rfl, rfl, ?_⟩)
        refine jaa [0,1,2,3,4,5,7,8] ?_
        refine zv5 ?_
        exact jj9
       ·have hw1 : w = 1 := by simp at ht; omega
        refine za1 hp zak hc rfl fun K39 hK39 => ?_
        refine zl0 (sza hy14 (sza hy143 h1y)) ?_
        refine hK39 _ _ (hJ15 _ _ ⟨_, _, o0, [1 + y / 14 % 3, 1 + y / 14 % 3], .inr (.inr (.inr (.inl ⟨.inr h5, hw1, _, by omega, by omega, rfl⟩))), rfl, rfl, ?_⟩)
        refine jaa [0,1,2,3,4,5,7,9] ?_
        refine zv5 ?_
        exact jj9
      ·have h5 : o0 ≠ 9 := by simpa using ht
       refine szq hp (fun _ hZ => zez hZ) ?_
       refine zal rfl (fun ht => ?_) (fun ht => ?_)
       ·have h7 : o0 = 11 := by simpa using ht
        refine szq hp (fun _ hZ => zez hZ) ?_
        refine zal rfl (fun ht => ?_) (fun ht => ?_)
        ·have hw1 : w = 1 := by simp at ht; omega
         refine za1 hp zak hc rfl fun K42 hK42 => ?_
         refine zez ?_
         refine hK42 _ _ (hJ15 _ _ ⟨_, _, 3, [w, w], .inr (.inl ⟨by simp, rfl⟩), rfl, rfl, ?_⟩)
         refine jaa [0,1,2,3,4,5,7,8] ?_
         refine zv5 ?_
         exact jj9
        ·have hw1 : 1 < w := by simp at ht; omega
         have hwm : (w : Int) - 1 = ((w - 1 : Nat) : Int) := by omega
         refine za1 hp zak hc rfl fun K43 hK43 => ?_
         refine zl0 hwm ?_
         refine hK43 _ _ (hJ15 _ _ ⟨_, _, 11, [w - 1, 1], .inr (.inr (.inr (.inr ⟨rfl, hw1, rfl⟩))), rfl, rfl, ?_⟩)
         refine jaa [0,1,2,3,4,5,7,9] ?_
         refine zv5 ?_
         refine jsu ?_; subst h7; rfl
       ·have h7 : o0 ≠ 11 := by simpa using ht
        refine zaj (hJ15 _ _ ⟨_, _, o0, [w, w], .inr (.inl ⟨by omega, rfl⟩), rfl, rfl, ?_⟩)
        refine jaa [0,1,2,3,4,5,7,8] ?_
        refine zv5 ?_
        exact jj9
theorem jww : TyK 2 := fun C s b i w hC hs hb hl h1 h2 hi => jgj 0 yfb C s b i w hC hs hb hl h1 h2 (by decide) hi
theorem yg7 : TyK 3 := fun C s b i w hC hs hb hl h1 h2 hi => jgj 1 jww C s b i w hC hs hb hl h1 h2 (by decide) hi
end Go.Proofs.Ytapjobndmmkanaa
