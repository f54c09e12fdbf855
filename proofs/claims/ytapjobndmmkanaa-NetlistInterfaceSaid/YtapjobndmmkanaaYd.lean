/- netlist's builder: operands, complements, pairs. -/
import Derived.Test.YtapjobndmmkanaaQr
import Derived.Test.YtapjobndmmkanaaYb
set_option linter.unusedVariables false
set_option linter.unusedSimpArgs false
set_option maxRecDepth 100000
set_option maxHeartbeats 4000000
namespace Go.Proofs.Ytapjobndmmkanaa
open Go Go.RowKit
section
theorem jgt : (((((type_of% @zew) ∧ (type_of% @zex)) ∧ ((type_of% @zgg) ∧ (type_of% @zcq))) ∧ (((type_of% @zf0) ∧ (type_of% @zf1)) ∧ ((type_of% @zg7) ∧ (type_of% @zc7)))) ∧ ((((type_of% @zh0) ∧ (type_of% @zh1)) ∧ ((type_of% @zh2) ∧ (type_of% @zlx))) ∧ (((type_of% @zin) ∧ (type_of% @zk7)) ∧ ((type_of% @zd8) ∧ ((type_of% @zd9) ∧ (type_of% @zk6)))))) := ⟨⟨⟨⟨@zew, @zex⟩, ⟨@zgg, @zcq⟩⟩, ⟨⟨@zf0, @zf1⟩, ⟨@zg7, @zc7⟩⟩⟩, ⟨⟨⟨@zh0, @zh1⟩, ⟨@zh2, @zlx⟩⟩, ⟨⟨@zin, @zk7⟩, ⟨@zd8, ⟨@zd9, @zk6⟩⟩⟩⟩⟩
section
variable {e : BE} {gs : Gs} {μ : Mp}
theorem BOk.nd64 (h : BOk e gs μ) {x : Int} (hx : NdB (mE2 e) gs x) : I64 x := by
 have h1 := hx.1; have h2 := hx.2; have h3 := h.i; have h4 := h.l
 unfold mE2 at h2
 exact zpp (by omega) (by omega)
theorem BOk.g64 (h : BOk e gs μ) {o x y z : Int} (o0 : 0 ≤ o) (o1 : o ≤ 10) (hx : NdB (mE2 e) gs x) (hy : NdB (mE2 e) gs y) (hz : NdB (mE2 e) gs z) : G64 ⟨o, x, y, z, 0⟩ :=
 ⟨zpp (by simp only; omega) (by simp only; omega), h.nd64 hx, h.nd64 hy, h.nd64 hz, (zpp (by decide) (by decide) : I64 0)⟩
theorem BOk.z (h : BOk e gs μ) : NdB (mE2 e) gs 0 := ⟨by omega, by unfold mE2; omega⟩
theorem zf2 : 2 ≤ mE2 e := by unfold mE2; omega
theorem BOk.next (h : BOk e gs μ) {n : Nat} {r : Re} (hr : Rs (mE2 e) n gs r) {μ' : Mp} (hn : NdM (mE2 e) r.1 μ') (hl : gs.length + n ≤ 100000) : BOk e r.1 μ' := ⟨hn, hr.gi, h.i, by have := hr.len; omega⟩
end
def yfr (e : BE) (gs : Gs) (μ : Mp) (y x : AV) (S' : zae) : Prop := ∃ z, z = y ∧ x = z ∧ S' = bH e gs μ
theorem jkj {p q : Prop} (hq : q) (h : p = q := by
 conv => lhs; simp -dsimp -implicitDefEqProofs (disch := first | assumption | omega | (simp only [r_z, zab, zac] <;> omega) | decide) only [r_r, ↓reduceIte, Nat.reduceEqDiff, Nat.reduceAdd, D.fix, Int.reduceToNat, Nat.reduceMul, Nat.reduceBNe, Nat.reduceBEq, r_m, bH, bO, zar]) : p := h.mpr hq
theorem jqr {p q r : Prop} (e : r) (hq : q) (h : r → p = q := by
 intro hY
 conv => lhs; simp -dsimp -implicitDefEqProofs (disch := first | assumption | omega | (simp only [r_z, zab, zac] <;> omega) | decide) only [r_r, ↓reduceIte, Nat.reduceEqDiff, Nat.reduceAdd, D.fix, Int.reduceToNat, Nat.reduceMul, Nat.reduceBNe, Nat.reduceBEq, r_m, bH, bO, zar, zke, jny, jgt, hY]) : p := (h e).mpr hq
theorem jom (k : List Nat) {m : List Nat} {τ τ1 : Fr} {H H1 : zae} (h : Rt m (fun t => gcV k (τ t)) (gcH k H) τ1 H1) (a : ∀ i ∈ m, k[i]? = some i := by decide) (b : k.Nodup := by decide) (c : ∀ i ∈ k, i < H.length := by
 simp [fzH, gcH]) : Rt m τ H τ1 H1 := Rt.trans (Rt.gc a b c) h
theorem jon {m : List Nat} {τ τ' : Fr} {H H' : zae} (h2 : H = H') (h : zfq τ τ' := by
 repeat (first | exact zas _ | refine zao ?_ (by first | rfl | (simp [r_f, zab, zac]; done) | simp [r_f, zab, zac, *]))) : Rt m τ H τ' H' := Rt.end h h2
theorem jxj {p : Prop} (h : p := by
 first | rfl | (simp only [r_g, Nat.reduceAdd, ↓reduceIte, Nat.reduceEqDiff, r_m, bH, bO, zar]; first | done | rfl)) : p := h
theorem zrn (e : BE) (gs : Gs) (μ : Mp) (x : Int) (h : BOk e gs μ) (hx : NdB (mE2 e) gs x) : ScS Try.prog [0, 1, 2, 3, 4, 5, 6, 7] 140 [.op 0 0, .d (iD x)] (bH e gs μ) (yfr e gs μ (.d (iD (zfy (mE2 e) gs x)))) := by
 refine zbh (fn := Try.f140) (by kernel_rfl) Try.func140 rfl (Nat.le_of_ble_eq_true rfl) fun c hc hp => ?_
 refine zc1 ?_
 have x0 := hx.1; have x1 := hx.2; have i1 := h.i; have l1 := h.l
 have hm : ((mE2 e : Nat) : Int) = 2 + e.ins.length := by unfold mE2; omega
 rw [hm] at x1
 refine szq hp (fun _ hZ => jkj hZ) ?_
 refine zaa fun K2 hK2 => ?_
 refine zag hp zak hc rfl fun K3 hK3 => ?_
 simp -dsimp -implicitDefEqProofs (disch := first | assumption | omega | (simp only [r_z, zab, zac] <;> omega) | decide) only [r_r, ↓reduceIte, Nat.reduceEqDiff, Nat.reduceAdd, D.fix, Int.reduceToNat, Nat.reduceMul, Nat.reduceBNe, Nat.reduceBEq, r_m, bH, bO, zar, jgt]
 refine hK3 _ _ ?_
 refine zag hp zak hc rfl fun K4 hK4 => ?_
 rcases (show ¬ (0 ≤ x - 2 - (e.ins.length : Int)) ∨ (0 ≤ x - 2 - (e.ins.length : Int) ∧ (nth gs (x - 2 - (e.ins.length : Int)).toNat).op = 1) ∨ (0 ≤ x - 2 - (e.ins.length : Int) ∧ (nth gs (x - 2 - (e.ins.length : Int)).toNat).op ≠ 1) by omega) with q | ⟨q, q'⟩ | ⟨q, q'⟩
 ·have q1 : decide (0 ≤ x - 2 - (e.ins.length : Int)) = false := decide_eq_false q
  have q2 := q1
  have hin : zfy (mE2 e) gs x = -1 := by unfold zfy; rw [if_neg (fun hh => q (by have := hh.1; omega))]
  refine jqr (sza q1 q2) ?_
  refine hK4 _ _ ?_
  refine szf ?_
  refine zaj (hK2 _ _ ?_)
  refine szq hp (fun _ hZ => jkj hZ) ?_
  refine zat hp (τ' := frL [(4, .d (iD (-1)))]) (H' := bH e gs μ) ?_ ?_
  ·refine jom [0,1,2,3,4,5,6,7] ?_
   refine jon ?_
   exact jxj
  refine zam ?_
  refine zap (t := 4) rfl ?_
  show ∃ _, _
  exact ⟨_, rfl, by rw [hin]; rfl, rfl⟩
 ·have q1 : decide (0 ≤ x - 2 - (e.ins.length : Int)) = true := decide_eq_true q
  have q2 : ((nth gs (x - 2 - (e.ins.length : Int)).toNat).op == 1) = true := by simpa using q'
  have hk : (x - 2 - (e.ins.length : Int)).toNat < gs.length := by omega
  have hin : zfy (mE2 e) gs x = (nth gs (x - 2 - (e.ins.length : Int)).toNat).a := by unfold zfy; rw [hm, show x - (2 + (e.ins.length : Int)) = x - 2 - e.ins.length by omega, if_pos ⟨by omega, q'⟩]
  refine jqr (sza q1 q2) ?_
  refine hK4 _ _ ?_
  refine szt ?_
  refine zag hp zak hc rfl fun K6 hK6 => ?_
  simp -dsimp -implicitDefEqProofs (disch := first | assumption | omega | (simp only [r_z, zab, zac] <;> omega) | decide) only [r_r, ↓reduceIte, Nat.reduceEqDiff, Nat.reduceAdd, D.fix, Int.reduceToNat, Nat.reduceMul, Nat.reduceBNe, Nat.reduceBEq, r_m, bH, bO, zar, zke, jnz, jgt]
  refine hK6 _ _ ?_
  refine zat hp (τ' := frL [(4, .d (iD (nth gs (x - 2 - (e.ins.length : Int)).toNat).a))]) (H' := bH e gs μ) ?_ ?_
  ·refine jom [0,1,2,3,4,5,6,7] ?_
   refine jon ?_
   exact jxj
  refine zam ?_
  refine zap (t := 4) rfl ?_
  show ∃ _, _
  exact ⟨_, rfl, by rw [hin]; rfl, rfl⟩
 ·have q1 : decide (0 ≤ x - 2 - (e.ins.length : Int)) = true := decide_eq_true q
  have q2 : ((nth gs (x - 2 - (e.ins.length : Int)).toNat).op == 1) = false := by simpa using q'
  have hk : (x - 2 - (e.ins.length : Int)).toNat < gs.length := by omega
  have hin : zfy (mE2 e) gs x = -1 := by unfold zfy; rw [hm, show x - (2 + (e.ins.length : Int)) = x - 2 - e.ins.length by omega, if_neg (fun hh => q' hh.2)]
  refine jqr (sza q1 q2) ?_
  refine hK4 _ _ ?_
  refine szf ?_
  refine zaj (hK2 _ _ ?_)
  refine szq hp (fun _ hZ => jkj hZ) ?_
  refine zat hp (τ' := frL [(4, .d (iD (-1)))]) (H' := bH e gs μ) ?_ ?_
  ·refine jom [0,1,2,3,4,5,6,7] ?_
   refine jon ?_
   exact jxj
  refine zam ?_
  refine zap (t := 4) rfl ?_
  show ∃ _, _
  exact ⟨_, rfl, by rw [hin]; rfl, rfl⟩
theorem jxk {p q : Prop} (hq : q) (h : p = q := by
 conv => lhs; simp -dsimp -implicitDefEqProofs (disch := first | assumption | omega | (simp only [r_z, zab, zac] <;> omega) | decide) only [r_r, ↓reduceIte, Nat.reduceEqDiff, Nat.reduceAdd, D.fix, Int.reduceToNat, Nat.reduceMul, Nat.reduceBNe, Nat.reduceBEq, r_m, bH, bO, zar, zav]) : p := h.mpr hq
theorem zwc {p q : Prop} (hq : q) (h : p = q := by
 conv => lhs; simp -dsimp -implicitDefEqProofs (disch := first | assumption | omega | (simp only [r_z, zab, zac] <;> omega) | decide) only [r_r, ↓reduceIte, Nat.reduceEqDiff, Nat.reduceAdd, D.fix, Int.reduceToNat, Nat.reduceMul, Nat.reduceBNe, Nat.reduceBEq, r_m, bH, bO, zar, zav, jgt]) : p := h.mpr hq
theorem jxl {P : Program} {sm : List Nat} {N : Nat} {τ : Fr} {H : zae} {f : FuncId} {args : List AV} {K0 KK : AV → zae → Prop} {ks : List Nat} (S T : zae) (h : ScS P ks f args S K0) (hK : ∀ x S', K0 x S' → S'.length = S.length ∧ KK x (S' ++ T)) (hH : H = S ++ T := by
 rfl) (hm : sm.all (okI ks S.length) = true := by
 first | rfl | (simp [AV.allIs, AV.allI, zaq, zah, zai, okI, ltI, zad, zax, bH, bO]; done) | (intro o ho; simp at ho; done)) (hτ : ∀ t, (τ t).allI (okI ks S.length) = true := by
 exact fun t => zbi (by first | rfl | (simp [AV.allIs, AV.allI, zaq, zah, zai, okI, ltI, zad, zax, bH, bO]; done) | (intro o ho; simp at ho; done)) t) (ha : AV.allIs (ltI S.length) args = true := by
 first | rfl | (simp [AV.allIs, AV.allI, zaq, zah, zai, okI, ltI, zad, zax, bH, bO]; done) | (intro o ho; simp at ho; done)) (hS : ∀ o ∈ S, o.allI (ltI S.length) = true := by
 first | rfl | (simp [AV.allIs, AV.allI, zaq, zah, zai, okI, ltI, zad, zax, bH, bO]; done) | (intro o ho; simp at ho; done)) (hT : ∀ o ∈ T, o.allI (okI ks S.length) = true := by
 first | rfl | (simp [AV.allIs, AV.allI, zaq, zah, zai, okI, ltI, zad, zax, bH, bO]; done) | (intro o ho; simp at ho; done)) : kC P sm N H τ (.d (.val (.func (.func f) #[] #[]))) args true (tg KK) := zjo h hH hm hτ ha hS hT hK
theorem ycy {p : Prop} (h : p := by
 first | rfl | (simp only [r_g, Nat.reduceAdd, ↓reduceIte, Nat.reduceEqDiff, r_m, bH, bO, zar, zav]; first | done | rfl)) : p := h
theorem zml (e : BE) (gs : Gs) (μ : Mp) (x : Int) (h : BOk e gs μ) (hx : NdB (mE2 e) gs x) : ScS Try.prog [0, 1, 3, 4, 5, 6, 7] 123 [.op 0 0, .d (iD x)] (bH e gs μ) (jkg e (zdk (mE2 e) gs x)) := by
 refine zbh (fn := Try.f123) (by kernel_rfl) Try.func123 rfl (Nat.le_of_ble_eq_true rfl) fun c hc hp => ?_
 refine zc1 ?_
 have x0 := hx.1; have x1 := hx.2; have i1 := h.i; have l1 := h.l
 unfold mE2 at x1
 refine szq hp (fun _ hZ => jxk hZ) ?_
 refine zaa fun K2 hK2 => ?_
 refine szq hp (fun _ hZ => zwc hZ) ?_
 refine zal rfl (fun ht => ?_) (fun ht => ?_)
 ·have hlt : x < 2 := by simpa using ht
  refine szq hp (fun _ hZ => zwc hZ) ?_
  refine zat hp (τ' := frL [(4, .d (iD (1 - x)))]) (H' := bH e gs μ) ?_ ?_
  ·refine jom [0,1,2,3,4,5,6,7] ?_
   refine jon ?_
   exact ycy
  refine zam ?_
  refine zap (t := 4) rfl ?_
  show ∃ _, _
  exact ⟨μ, by unfold zdk; rw [if_pos hlt]; exact h.n, by unfold zdk; rw [if_pos hlt]; rfl, by unfold zdk; rw [if_pos hlt]⟩
 ·have hlt : ¬ x < 2 := by simpa using ht
  refine zaj (hK2 _ _ ?_)
  refine zaa fun K5 hK5 => ?_
  refine zag hp zak hc rfl fun K6 hK6 => ?_
  refine zwc ?_
  refine jxl (bH e gs μ) ([]) (zrn e gs μ x h hx) ?_
  rintro _ _ ⟨_, rfl, rfl, rfl⟩
  refine ⟨rfl, ?_⟩
  refine zwc ?_
  refine hK6 _ _ ?_
  refine szq hp (fun _ hZ => zwc hZ) ?_
  refine zal rfl (fun ht => ?_) (fun ht => ?_)
  ·have hin : 0 ≤ zfy (mE2 e) gs x := by simpa using ht
   refine szq hp (fun _ hZ => jxk hZ) ?_
   refine zat hp (τ' := frL [(4, .d (iD (zfy (mE2 e) gs x)))]) (H' := bH e gs μ) ?_ ?_
   ·refine jom [0,1,2,3,4,5,6,7] ?_
    refine jon ?_
    exact ycy
   refine zam ?_
   refine zap (t := 4) rfl ?_
   show ∃ _, _
   exact ⟨μ, by unfold zdk; rw [if_neg hlt, if_pos hin]; exact h.n, by unfold zdk; rw [if_neg hlt, if_pos hin]; rfl, by unfold zdk; rw [if_neg hlt, if_pos hin]⟩
  ·have hin : ¬ 0 ≤ zfy (mE2 e) gs x := by simpa using ht
   refine zaj (hK5 _ _ ?_)
   refine zag hp zak hc rfl fun K9 hK9 => ?_
   refine zwc ?_
   refine jxl (bH e gs μ) ([]) (zki e gs μ ⟨1, x, 0, 0, 0⟩ h.n (h.g64 (by decide) (by decide) hx h.z h.z) h.i h.l) ?_
   rintro _ _ ⟨μ2, hn2, rfl, rfl⟩
   refine ⟨rfl, ?_⟩
   refine zwc ?_
   refine hK9 _ _ ?_
   refine zat hp (τ' := frL [(4, .d (iD (zct (mE2 e) gs ⟨1, x, 0, 0, 0⟩).2))]) (H' := bH e (zct (mE2 e) gs ⟨1, x, 0, 0, 0⟩).1 μ2) ?_ ?_
   ·refine jom [0,1,2,3,4,5,6,7] ?_
    refine jon ?_
    exact ycy
   refine zam ?_
   refine zap (t := 4) rfl ?_
   show ∃ _, _
   exact ⟨μ2, by unfold zdk; rw [if_neg hlt, if_neg hin]; exact hn2, by unfold zdk; rw [if_neg hlt, if_neg hin]; rfl, by unfold zdk; rw [if_neg hlt, if_neg hin]⟩
theorem jgu {p q r : Prop} (e : r) (hq : q) (h : r → p = q := by
 intro hY
 conv => lhs; simp -dsimp -implicitDefEqProofs (disch := first | assumption | omega | (simp only [r_z, zab, zac] <;> omega) | decide) only [r_r, ↓reduceIte, Nat.reduceEqDiff, Nat.reduceAdd, D.fix, Int.reduceToNat, Nat.reduceMul, Nat.reduceBNe, Nat.reduceBEq, r_m, bH, bO, zar, jgt, hY]) : p := (h e).mpr hq
theorem jgv (e : BE) (gs : Gs) (μ : Mp) (x y : Int) (h : BOk e gs μ) (hx : NdB (mE2 e) gs x) (hy : NdB (mE2 e) gs y) : ScS Try.prog [0, 1, 2, 3, 4, 5, 6, 7] 136 [.op 0 0, .d (iD x), .d (iD y)] (bH e gs μ) (yfr e gs μ (.tup [.d (iD (min x y)), .d (iD (max x y)), .d (oD (zlj (mE2 e) gs x y))])) := by
 refine zbh (fn := Try.f136) (by kernel_rfl) Try.func136 rfl (Nat.le_of_ble_eq_true rfl) fun c hc hp => ?_
 refine ze8 ?_
 refine szq hp (fun _ hZ => jkj hZ) ?_
 refine zag hp zak hc rfl fun K2 hK2 => ?_
 by_cases q : zfy (mE2 e) gs x = y
 ·have q1 : (zfy (mE2 e) gs x == y) = true := by simpa using q
  have ho : zlj (mE2 e) gs x y = true := by unfold zlj; rw [decide_eq_true q]; rfl
  refine jgu q1 ?_
  refine jxl (bH e gs μ) ([]) (zrn e gs μ x h hx) ?_
  rintro _ _ ⟨_, rfl, rfl, rfl⟩
  refine ⟨rfl, ?_⟩
  refine jgu q1 ?_
  refine hK2 _ _ ?_
  refine zat hp (τ' := frL [(6, .d (iD (min x y))), (7, .d (iD (max x y))), (8, .d (oD true))]) (H' := bH e gs μ) ?_ ?_
  ·refine jom [0,1,2,3,4,5,6,7] ?_
   refine jon ?_
   exact jxj
  refine zam ?_
  try dsimp only [zco, za8]
  refine zl1 rfl ?_
  refine zmk ?_
  refine zmk ?_
  refine zmk ?_
  show ∃ _, _
  exact ⟨_, rfl, by rw [ho]; rfl, rfl⟩
 ·have q1 : (zfy (mE2 e) gs x == y) = false := by simpa using q
  have ho : zlj (mE2 e) gs x y = (zfy (mE2 e) gs y == x) := by unfold zlj; rw [decide_eq_false q, Bool.false_or]; cases hd : decide (zfy (mE2 e) gs y = x) <;> simp_all
  refine jgu q1 ?_
  refine jxl (bH e gs μ) ([]) (zrn e gs μ x h hx) ?_
  rintro _ _ ⟨_, rfl, rfl, rfl⟩
  refine ⟨rfl, ?_⟩
  refine jgu q1 ?_
  refine jxl (bH e gs μ) ([]) (zrn e gs μ y h hy) ?_
  rintro _ _ ⟨_, rfl, rfl, rfl⟩
  refine ⟨rfl, ?_⟩
  refine jgu q1 ?_
  refine hK2 _ _ ?_
  refine zat hp (τ' := frL [(6, .d (iD (min x y))), (7, .d (iD (max x y))), (8, .d (oD (zfy (mE2 e) gs y == x)))]) (H' := bH e gs μ) ?_ ?_
  ·refine jom [0,1,2,3,4,5,6,7] ?_
   refine jon ?_
   exact jxj
  refine zam ?_
  try dsimp only [zco, za8]
  refine zl1 rfl ?_
  refine zmk ?_
  refine zmk ?_
  refine zmk ?_
  show ∃ _, _
  exact ⟨_, rfl, by rw [ho]; rfl, rfl⟩
/- netlist's builder: and, or, exclusive or. -/
end
theorem jxm : (((type_of% @zk7) ∧ (type_of% @zd8)) ∧ ((type_of% @zd9) ∧ ((type_of% @zgw) ∧ (type_of% @zk6)))) := ⟨⟨@zk7, @zd8⟩, ⟨@zd9, ⟨@zgw, @zk6⟩⟩⟩
theorem jgw (m : Nat) (gs : Gs) (x y : Int) : zlj m gs (min x y) (max x y) = zlj m gs x y := by
 rcases Int.le_total x y with h | h
 ·rw [Int.min_eq_left h, Int.max_eq_right h]
 ·rw [Int.min_eq_right h, Int.max_eq_left h]; unfold zlj; rw [Bool.or_comm]
theorem jxn (m : Nat) (gs : Gs) (x y : Int) : zda m gs x y = if min x y = 0 ∨ zlj m gs x y = true then (gs, 0) else if min x y = 1 ∨ min x y = max x y then (gs, max x y) else zct m gs ⟨2, min x y, max x y, 0, 0⟩ := by
 unfold zda jn0; rw [jgw]
theorem ycz (m : Nat) (gs : Gs) (x y : Int) : orB m gs x y = if min x y = 1 ∨ zlj m gs x y = true then (gs, 1) else if min x y = 0 ∨ min x y = max x y then (gs, max x y) else zct m gs ⟨3, min x y, max x y, 0, 0⟩ := by
 unfold orB orS; rw [jgw]
theorem jxo (m : Nat) (gs : Gs) (x y : Int) : zhj m gs x y = if min x y = 0 then (gs, max x y) else if min x y = 1 then zdk m gs (max x y) else if min x y = max x y then (gs, 0) else if zlj m gs x y = true then (gs, 1) else zct m gs ⟨4, min x y, max x y, 0, 0⟩ := by
 unfold zhj jn1; rw [jgw]
theorem zpr {a b : Int} (h : a = b) : (a == b) = true := by simpa using h
theorem zha {a b : Int} (h : a ≠ b) : (a == b) = false := by simpa using h
theorem zkj {p q : Prop} (hq : q) (h : p = q := by
 conv => lhs; simp -dsimp -implicitDefEqProofs (disch := first | assumption | omega | (simp only [r_z, zab, zac] <;> omega) | decide) only [r_r, ↓reduceIte, Nat.reduceEqDiff, Nat.reduceAdd, D.fix, Int.reduceToNat, Nat.reduceMul, Nat.reduceBNe, Nat.reduceBEq, r_m, bH, bO, zar, zav]) : p := h.mpr hq
theorem zix {p q : Prop} (hq : q) (h : p = q := by
 conv => lhs; simp -dsimp -implicitDefEqProofs (disch := first | assumption | omega | (simp only [r_z, zab, zac] <;> omega) | decide) only [r_r, ↓reduceIte, Nat.reduceEqDiff, Nat.reduceAdd, D.fix, Int.reduceToNat, Nat.reduceMul, Nat.reduceBNe, Nat.reduceBEq, r_m, bH, bO, zar, zav, jxm]) : p := h.mpr hq
theorem jqs {P : Program} {sm : List Nat} {N : Nat} {τ : Fr} {H : zae} {f : FuncId} {args : List AV} {K0 KK : AV → zae → Prop} {ks : List Nat} (S T : zae) (h : ScS P ks f args S K0) (hK : ∀ x S', K0 x S' → S'.length = S.length ∧ KK x (S' ++ T)) (hH : H = S ++ T := by
 rfl) (hm : sm.all (okI ks S.length) = true := by
 first | rfl | (simp [AV.allIs, AV.allI, zaq, zah, zai, okI, ltI, zad, zax, bH, bO]; done) | (intro o ho; simp at ho; done)) (hτ : ∀ t, (τ t).allI (okI ks S.length) = true := by
 exact fun t => zbi (by first | rfl | (simp [AV.allIs, AV.allI, zaq, zah, zai, okI, ltI, zad, zax, bH, bO]; done) | (intro o ho; simp at ho; done)) t) (ha : AV.allIs (ltI S.length) args = true := by
 first | rfl | (simp [AV.allIs, AV.allI, zaq, zah, zai, okI, ltI, zad, zax, bH, bO]; done) | (intro o ho; simp at ho; done)) (hS : ∀ o ∈ S, o.allI (ltI S.length) = true := by
 first | rfl | (simp [AV.allIs, AV.allI, zaq, zah, zai, okI, ltI, zad, zax, bH, bO]; done) | (intro o ho; simp at ho; done)) (hT : ∀ o ∈ T, o.allI (okI ks S.length) = true := by
 first | rfl | (simp [AV.allIs, AV.allI, zaq, zah, zai, okI, ltI, zad, zax, bH, bO]; done) | (intro o ho; simp at ho; done)) : kC P sm N H τ (.d (.val (.func (.func f) #[] #[]))) args true (tg KK) := zjo h hH hm hτ ha hS hT hK
theorem zjs {p q r : Prop} (e : r) (hq : q) (h : r → p = q := by
 intro hY
 conv => lhs; simp -dsimp -implicitDefEqProofs (disch := first | assumption | omega | (simp only [r_z, zab, zac] <;> omega) | decide) only [r_r, ↓reduceIte, Nat.reduceEqDiff, Nat.reduceAdd, D.fix, Int.reduceToNat, Nat.reduceMul, Nat.reduceBNe, Nat.reduceBEq, r_m, bH, bO, zar, zav, jxm, hY]) : p := (h e).mpr hq
theorem zwd (k : List Nat) {m : List Nat} {τ τ1 : Fr} {H H1 : zae} (h : Rt m (fun t => gcV k (τ t)) (gcH k H) τ1 H1) (a : ∀ i ∈ m, k[i]? = some i := by decide) (b : k.Nodup := by decide) (c : ∀ i ∈ k, i < H.length := by
 simp [fzH, gcH]) : Rt m τ H τ1 H1 := Rt.trans (Rt.gc a b c) h
theorem zwe {m : List Nat} {τ τ' : Fr} {H H' : zae} (h2 : H = H') (h : zfq τ τ' := by
 repeat (first | exact zas _ | refine zao ?_ (by first | rfl | (simp [r_f, zab, zac]; done) | simp [r_f, zab, zac, *]))) : Rt m τ H τ' H' := Rt.end h h2
theorem zwf {p : Prop} (h : p := by
 first | rfl | (simp only [r_g, Nat.reduceAdd, ↓reduceIte, Nat.reduceEqDiff, r_m, bH, bO, zar, zav]; first | done | rfl)) : p := h
theorem ziy (e : BE) (gs : Gs) (μ : Mp) (x y : Int) (h : BOk e gs μ) (hx : NdB (mE2 e) gs x) (hy : NdB (mE2 e) gs y) : ScS Try.prog [0, 1, 3, 4, 5, 6, 7] 102 [.op 0 0, .d (iD x), .d (iD y)] (bH e gs μ) (jkg e (zda (mE2 e) gs x y)) := by
 refine zbh (fn := Try.f102) (by kernel_rfl) Try.func102 rfl (Nat.le_of_ble_eq_true rfl) fun c hc hp => ?_
 refine ze8 ?_
 have hd := jxn (mE2 e) gs x y
 have hX := zk9 hx hy; have hY := zla hx hy
 have hs := jgv e gs μ x y h hx hy
 obtain ⟨X, eX⟩ : ∃ X, X = min x y := ⟨_, rfl⟩
 obtain ⟨Y, eY⟩ : ∃ Y, Y = max x y := ⟨_, rfl⟩
 obtain ⟨O, eO⟩ : ∃ O, O = zlj (mE2 e) gs x y := ⟨_, rfl⟩
 rw [← eX, ← eY, ← eO] at hs
 simp only [← eX, ← eY, ← eO] at hd
 rw [← eX] at hX
 rw [← eY] at hY
 have x0 := hX.1; have x1 := hX.2; have y0 := hY.1; have y1 := hY.2; have i1 := h.i; have l1 := h.l
 unfold mE2 at x1 y1
 refine szq hp (fun _ hZ => zkj hZ) ?_
 refine zag hp zak hc rfl fun K2 hK2 => ?_
 refine zix ?_
 refine jqs (bH e gs μ) ([]) (hs) ?_
 rintro _ _ ⟨_, rfl, rfl, rfl⟩
 refine ⟨rfl, ?_⟩
 refine zix ?_
 refine hK2 _ _ ?_
 refine zaa fun K3 hK3 => ?_
 refine zaf ?_
 refine zag hp zak hc rfl fun K4 hK4 => ?_
 rcases (show X = 0 ∨ (X ≠ 0 ∧ O = true) ∨ (X ≠ 0 ∧ O = false ∧ X = 1) ∨ (X ≠ 0 ∧ O = false ∧ X ≠ 1 ∧ X = Y) ∨ (X ≠ 0 ∧ O = false ∧ X ≠ 1 ∧ X ≠ Y) by cases O <;> simp <;> omega) with q | ⟨q, o⟩ | ⟨q, o, r⟩ | ⟨q, o, r, s⟩ | ⟨q, o, r, s⟩
 ·have q1 := zpr q
  have o := q1
  refine zjs (sza q1 o) ?_
  refine hK4 _ _ ?_
  refine szt ?_
  refine szq hp (fun _ hZ => zkj hZ) ?_
  refine zat hp (τ' := frL [(6, .d (iD 0))]) (H' := bH e gs μ) ?_ ?_
  ·refine zwd [0,1,2,3,4,5,6,7] ?_
   refine zwe ?_
   exact zwf
  refine zam ?_
  refine zap (t := 6) rfl ?_
  show ∃ _, _
  rw [hd, if_pos (.inl q)]; exact ⟨μ, h.n, rfl, rfl⟩
 ·have q1 := zha q
  refine zjs (sza q1 o) ?_
  refine hK4 _ _ ?_
  refine szt ?_
  refine szq hp (fun _ hZ => zkj hZ) ?_
  refine zat hp (τ' := frL [(6, .d (iD 0))]) (H' := bH e gs μ) ?_ ?_
  ·refine zwd [0,1,2,3,4,5,6,7] ?_
   refine zwe ?_
   exact zwf
  refine zam ?_
  refine zap (t := 6) rfl ?_
  show ∃ _, _
  rw [hd, if_pos (.inr o)]; exact ⟨μ, h.n, rfl, rfl⟩
 ·have q1 := zha q
  have q2 := zpr r
  have q3 := q2
  refine zjs (sza q1 o) ?_
  refine hK4 _ _ ?_
  refine szf ?_
  refine szq hp (fun _ hZ => zjs (sza q2 q3) hZ) ?_
  refine szt ?_
  refine szq hp (fun _ hZ => zkj hZ) ?_
  refine zat hp (τ' := frL [(6, .d (iD Y))]) (H' := bH e gs μ) ?_ ?_
  ·refine zwd [0,1,2,3,4,5,6,7] ?_
   refine zwe ?_
   exact zwf
  refine zam ?_
  refine zap (t := 6) rfl ?_
  show ∃ _, _
  rw [hd, if_neg (by rw [o]; simpa using q), if_pos (.inl r)]; exact ⟨μ, h.n, rfl, rfl⟩
 ·have q1 := zha q
  have q2 := zha r
  have q3 := zpr s
  refine zjs (sza q1 o) ?_
  refine hK4 _ _ ?_
  refine szf ?_
  refine szq hp (fun _ hZ => zjs (sza q2 q3) hZ) ?_
  refine szt ?_
  refine szq hp (fun _ hZ => zkj hZ) ?_
  refine zat hp (τ' := frL [(6, .d (iD Y))]) (H' := bH e gs μ) ?_ ?_
  ·refine zwd [0,1,2,3,4,5,6,7] ?_
   refine zwe ?_
   exact zwf
  refine zam ?_
  refine zap (t := 6) rfl ?_
  show ∃ _, _
  rw [hd, if_neg (by rw [o]; simpa using q), if_pos (.inr s)]; exact ⟨μ, h.n, rfl, rfl⟩
 ·have q1 := zha q
  have q2 := zha r
  have q3 := zha s
  refine zjs (sza q1 o) ?_
  refine hK4 _ _ ?_
  refine szf ?_
  refine szq hp (fun _ hZ => zjs (sza q2 q3) hZ) ?_
  refine szf ?_
  refine zaj (hK3 _ _ ?_)
  refine zag hp zak hc rfl fun K12 hK12 => ?_
  refine zix ?_
  refine jqs (bH e gs μ) ([]) (zki e gs μ ⟨2, X, Y, 0, 0⟩ h.n (h.g64 (by decide) (by decide) hX hY h.z) h.i h.l) ?_
  rintro _ _ ⟨μ2, hn2, rfl, rfl⟩
  refine ⟨rfl, ?_⟩
  refine zix ?_
  refine hK12 _ _ ?_
  refine zat hp (τ' := frL [(6, .d (iD (zct (mE2 e) gs ⟨2, X, Y, 0, 0⟩).2))]) (H' := bH e (zct (mE2 e) gs ⟨2, X, Y, 0, 0⟩).1 μ2) ?_ ?_
  ·refine zwd [0,1,2,3,4,5,6,7] ?_
   refine zwe ?_
   exact zwf
  refine zam ?_
  refine zap (t := 6) rfl ?_
  show ∃ _, _
  rw [hd, if_neg (by rw [o]; simpa using q), if_neg (fun hh => by rcases hh with hh | hh; exact r hh; exact s hh)]; exact ⟨μ2, hn2, rfl, rfl⟩
theorem jgx (e : BE) (gs : Gs) (μ : Mp) (x y : Int) (h : BOk e gs μ) (hx : NdB (mE2 e) gs x) (hy : NdB (mE2 e) gs y) : ScS Try.prog [0, 1, 3, 4, 5, 6, 7] 122 [.op 0 0, .d (iD x), .d (iD y)] (bH e gs μ) (jkg e (orB (mE2 e) gs x y)) := by
 refine zbh (fn := Try.f122) (by kernel_rfl) Try.func122 rfl (Nat.le_of_ble_eq_true rfl) fun c hc hp => ?_
 refine ze8 ?_
 have hd := ycz (mE2 e) gs x y
 have hX := zk9 hx hy; have hY := zla hx hy
 have hs := jgv e gs μ x y h hx hy
 obtain ⟨X, eX⟩ : ∃ X, X = min x y := ⟨_, rfl⟩
 obtain ⟨Y, eY⟩ : ∃ Y, Y = max x y := ⟨_, rfl⟩
 obtain ⟨O, eO⟩ : ∃ O, O = zlj (mE2 e) gs x y := ⟨_, rfl⟩
 rw [← eX, ← eY, ← eO] at hs
 simp only [← eX, ← eY, ← eO] at hd
 rw [← eX] at hX
 rw [← eY] at hY
 have x0 := hX.1; have x1 := hX.2; have y0 := hY.1; have y1 := hY.2; have i1 := h.i; have l1 := h.l
 unfold mE2 at x1 y1
 refine szq hp (fun _ hZ => zkj hZ) ?_
 refine zag hp zak hc rfl fun K2 hK2 => ?_
 refine zix ?_
 refine jqs (bH e gs μ) ([]) (hs) ?_
 rintro _ _ ⟨_, rfl, rfl, rfl⟩
 refine ⟨rfl, ?_⟩
 refine zix ?_
 refine hK2 _ _ ?_
 refine zaa fun K3 hK3 => ?_
 refine zaf ?_
 refine zag hp zak hc rfl fun K4 hK4 => ?_
 rcases (show X = 1 ∨ (X ≠ 1 ∧ O = true) ∨ (X ≠ 1 ∧ O = false ∧ X = 0) ∨ (X ≠ 1 ∧ O = false ∧ X ≠ 0 ∧ X = Y) ∨ (X ≠ 1 ∧ O = false ∧ X ≠ 0 ∧ X ≠ Y) by cases O <;> simp <;> omega) with q | ⟨q, o⟩ | ⟨q, o, r⟩ | ⟨q, o, r, s⟩ | ⟨q, o, r, s⟩
 ·have q1 := zpr q
  have o := q1
  refine zjs (sza q1 o) ?_
  refine hK4 _ _ ?_
  refine szt ?_
  refine szq hp (fun _ hZ => zkj hZ) ?_
  refine zat hp (τ' := frL [(6, .d (iD 1))]) (H' := bH e gs μ) ?_ ?_
  ·refine zwd [0,1,2,3,4,5,6,7] ?_
   refine zwe ?_
   exact zwf
  refine zam ?_
  refine zap (t := 6) rfl ?_
  show ∃ _, _
  rw [hd, if_pos (.inl q)]; exact ⟨μ, h.n, rfl, rfl⟩
 ·have q1 := zha q
  refine zjs (sza q1 o) ?_
  refine hK4 _ _ ?_
  refine szt ?_
  refine szq hp (fun _ hZ => zkj hZ) ?_
  refine zat hp (τ' := frL [(6, .d (iD 1))]) (H' := bH e gs μ) ?_ ?_
  ·refine zwd [0,1,2,3,4,5,6,7] ?_
   refine zwe ?_
   exact zwf
  refine zam ?_
  refine zap (t := 6) rfl ?_
  show ∃ _, _
  rw [hd, if_pos (.inr o)]; exact ⟨μ, h.n, rfl, rfl⟩
 ·have q1 := zha q
  have q2 := zpr r
  have q3 := q2
  refine zjs (sza q1 o) ?_
  refine hK4 _ _ ?_
  refine szf ?_
  refine szq hp (fun _ hZ => zjs (sza q2 q3) hZ) ?_
  refine szt ?_
  refine szq hp (fun _ hZ => zkj hZ) ?_
  refine zat hp (τ' := frL [(6, .d (iD Y))]) (H' := bH e gs μ) ?_ ?_
  ·refine zwd [0,1,2,3,4,5,6,7] ?_
   refine zwe ?_
   exact zwf
  refine zam ?_
  refine zap (t := 6) rfl ?_
  show ∃ _, _
  rw [hd, if_neg (by rw [o]; simpa using q), if_pos (.inl r)]; exact ⟨μ, h.n, rfl, rfl⟩
 ·have q1 := zha q
  have q2 := zha r
  have q3 := zpr s
  refine zjs (sza q1 o) ?_
  refine hK4 _ _ ?_
  refine szf ?_
  refine szq hp (fun _ hZ => zjs (sza q2 q3) hZ) ?_
  refine szt ?_
  refine szq hp (fun _ hZ => zkj hZ) ?_
  refine zat hp (τ' := frL [(6, .d (iD Y))]) (H' := bH e gs μ) ?_ ?_
  ·refine zwd [0,1,2,3,4,5,6,7] ?_
   refine zwe ?_
   exact zwf
  refine zam ?_
  refine zap (t := 6) rfl ?_
  show ∃ _, _
  rw [hd, if_neg (by rw [o]; simpa using q), if_pos (.inr s)]; exact ⟨μ, h.n, rfl, rfl⟩
 ·have q1 := zha q
  have q2 := zha r
  have q3 := zha s
  refine zjs (sza q1 o) ?_
  refine hK4 _ _ ?_
  refine szf ?_
  refine szq hp (fun _ hZ => zjs (sza q2 q3) hZ) ?_
  refine szf ?_
  refine zaj (hK3 _ _ ?_)
  refine zag hp zak hc rfl fun K12 hK12 => ?_
  refine zix ?_
  refine jqs (bH e gs μ) ([]) (zki e gs μ ⟨3, X, Y, 0, 0⟩ h.n (h.g64 (by decide) (by decide) hX hY h.z) h.i h.l) ?_
  rintro _ _ ⟨μ2, hn2, rfl, rfl⟩
  refine ⟨rfl, ?_⟩
  refine zix ?_
  refine hK12 _ _ ?_
  refine zat hp (τ' := frL [(6, .d (iD (zct (mE2 e) gs ⟨3, X, Y, 0, 0⟩).2))]) (H' := bH e (zct (mE2 e) gs ⟨3, X, Y, 0, 0⟩).1 μ2) ?_ ?_
  ·refine zwd [0,1,2,3,4,5,6,7] ?_
   refine zwe ?_
   exact zwf
  refine zam ?_
  refine zap (t := 6) rfl ?_
  show ∃ _, _
  rw [hd, if_neg (by rw [o]; simpa using q), if_neg (fun hh => by rcases hh with hh | hh; exact r hh; exact s hh)]; exact ⟨μ2, hn2, rfl, rfl⟩
theorem jae (e : BE) (gs : Gs) (μ : Mp) (x y : Int) (h : BOk e gs μ) (hx : NdB (mE2 e) gs x) (hy : NdB (mE2 e) gs y) : ScS Try.prog [0, 1, 3, 4, 5, 6, 7] 124 [.op 0 0, .d (iD x), .d (iD y)] (bH e gs μ) (jkg e (zhj (mE2 e) gs x y)) := by
 refine zbh (fn := Try.f124) (by kernel_rfl) Try.func124 rfl (Nat.le_of_ble_eq_true rfl) fun c hc hp => ?_
 refine ze8 ?_
 have hd := jxo (mE2 e) gs x y
 have hX := zk9 hx hy; have hY := zla hx hy
 have hs := jgv e gs μ x y h hx hy
 obtain ⟨X, eX⟩ : ∃ X, X = min x y := ⟨_, rfl⟩
 obtain ⟨Y, eY⟩ : ∃ Y, Y = max x y := ⟨_, rfl⟩
 obtain ⟨O, eO⟩ : ∃ O, O = zlj (mE2 e) gs x y := ⟨_, rfl⟩
 rw [← eX, ← eY, ← eO] at hs
 simp only [← eX, ← eY, ← eO] at hd
 rw [← eX] at hX
 rw [← eY] at hY
 have x0 := hX.1; have x1 := hX.2; have y0 := hY.1; have y1 := hY.2; have i1 := h.i; have l1 := h.l
 unfold mE2 at x1 y1
 refine szq hp (fun _ hZ => zkj hZ) ?_
 refine zag hp zak hc rfl fun K2 hK2 => ?_
 refine zix ?_
 refine jqs (bH e gs μ) ([]) (hs) ?_
 rintro _ _ ⟨_, rfl, rfl, rfl⟩
 refine ⟨rfl, ?_⟩
 refine zix ?_
 refine hK2 _ _ ?_
 refine zaa fun K3 hK3 => ?_
 refine zaf ?_
 refine szq hp (fun _ hZ => zix hZ) ?_
 refine zal rfl (fun ht => ?_) (fun ht => ?_)
 ·have q : X = 0 := by simpa using ht
  refine szq hp (fun _ hZ => zkj hZ) ?_
  refine zat hp (τ' := frL [(6, .d (iD Y))]) (H' := bH e gs μ) ?_ ?_
  ·refine zwd [0,1,2,3,4,5,6,7] ?_
   refine zwe ?_
   exact zwf
  refine zam ?_
  refine zap (t := 6) rfl ?_
  show ∃ _, _
  rw [hd, if_pos q]; exact ⟨μ, h.n, rfl, rfl⟩
 ·have q : X ≠ 0 := by simpa using ht
  refine szq hp (fun _ hZ => zix hZ) ?_
  refine zal rfl (fun ht => ?_) (fun ht => ?_)
  ·have r : X = 1 := by simpa using ht
   refine zag hp zak hc rfl fun K7 hK7 => ?_
   refine zix ?_
   refine jqs (bH e gs μ) ([]) (zml e gs μ Y h hY) ?_
   rintro _ _ ⟨μ1, hn1, rfl, rfl⟩
   refine ⟨rfl, ?_⟩
   refine zix ?_
   refine hK7 _ _ ?_
   refine zat hp (τ' := frL [(6, .d (iD (zdk (mE2 e) gs Y).2))]) (H' := bH e (zdk (mE2 e) gs Y).1 μ1) ?_ ?_
   ·refine zwd [0,1,2,3,4,5,6,7] ?_
    refine zwe ?_
    exact zwf
   refine zam ?_
   refine zap (t := 6) rfl ?_
   show ∃ _, _
   rw [hd, if_neg q, if_pos r]; exact ⟨μ1, hn1, rfl, rfl⟩
  ·have r : X ≠ 1 := by simpa using ht
   refine szq hp (fun _ hZ => zix hZ) ?_
   refine zal rfl (fun ht => ?_) (fun ht => ?_)
   ·have s : X = Y := by simpa using ht
    refine szq hp (fun _ hZ => zkj hZ) ?_
    refine zat hp (τ' := frL [(6, .d (iD 0))]) (H' := bH e gs μ) ?_ ?_
    ·refine zwd [0,1,2,3,4,5,6,7] ?_
     refine zwe ?_
     exact zwf
    refine zam ?_
    refine zap (t := 6) rfl ?_
    show ∃ _, _
    rw [hd, if_neg q, if_neg r, if_pos s]; exact ⟨μ, h.n, rfl, rfl⟩
   ·have s : X ≠ Y := by simpa using ht
    refine szq hp (fun _ hZ => zkj hZ) ?_
    refine zal rfl (fun ht => ?_) (fun ht => ?_)
    ·have o : O = true := by simpa using ht
     refine szq hp (fun _ hZ => zkj hZ) ?_
     refine zat hp (τ' := frL [(6, .d (iD 1))]) (H' := bH e gs μ) ?_ ?_
     ·refine zwd [0,1,2,3,4,5,6,7] ?_
      refine zwe ?_
      exact zwf
     refine zam ?_
     refine zap (t := 6) rfl ?_
     show ∃ _, _
     rw [hd, if_neg q, if_neg r, if_neg s, if_pos o]; exact ⟨μ, h.n, rfl, rfl⟩
    ·have o : ¬ O = true := by simpa using ht
     refine zaj (hK3 _ _ ?_)
     refine zag hp zak hc rfl fun K12 hK12 => ?_
     refine zix ?_
     refine jqs (bH e gs μ) ([]) (zki e gs μ ⟨4, X, Y, 0, 0⟩ h.n (h.g64 (by decide) (by decide) hX hY h.z) h.i h.l) ?_
     rintro _ _ ⟨μ2, hn2, rfl, rfl⟩
     refine ⟨rfl, ?_⟩
     refine zix ?_
     refine hK12 _ _ ?_
     refine zat hp (τ' := frL [(6, .d (iD (zct (mE2 e) gs ⟨4, X, Y, 0, 0⟩).2))]) (H' := bH e (zct (mE2 e) gs ⟨4, X, Y, 0, 0⟩).1 μ2) ?_ ?_
     ·refine zwd [0,1,2,3,4,5,6,7] ?_
      refine zwe ?_
      exact zwf
     refine zam ?_
     refine zap (t := 6) rfl ?_
     show ∃ _, _
     rw [hd, if_neg q, if_neg r, if_neg s, if_neg o]; exact ⟨μ2, hn2, rfl, rfl⟩
end Go.Proofs.Ytapjobndmmkanaa
