/- Depths of nets. -/
import Derived.Test.YtapjobndmmkanaaQr
import Derived.Test.YtapjobndmmkanaaMpn
set_option linter.unusedVariables false
set_option linter.unusedSimpArgs false
set_option maxRecDepth 100000
set_option maxHeartbeats 4000000
namespace Go.Proofs.Ytapjobndmmkanaa
open Go Go.RowKit
theorem zrz : (((((type_of% @zew) ∧ (type_of% @zex)) ∧ ((type_of% @zd1) ∧ (type_of% @zey))) ∧ (((type_of% @zc2) ∧ (type_of% @zee)) ∧ ((type_of% @zcq) ∧ ((type_of% @zf0) ∧ (type_of% @zf1))))) ∧ ((((type_of% @zg7) ∧ (type_of% @zc7)) ∧ ((type_of% @zh0) ∧ ((type_of% @zh1) ∧ (type_of% @zh2)))) ∧ (((type_of% @jvm) ∧ (type_of% @zmx)) ∧ ((type_of% @zmy) ∧ ((type_of% @jbu) ∧ (type_of% @ze9)))))) := ⟨⟨⟨⟨@zew, @zex⟩, ⟨@zd1, @zey⟩⟩, ⟨⟨@zc2, @zee⟩, ⟨@zcq, ⟨@zf0, @zf1⟩⟩⟩⟩, ⟨⟨⟨@zg7, @zc7⟩, ⟨@zh0, ⟨@zh1, @zh2⟩⟩⟩, ⟨⟨@jvm, @zmx⟩, ⟨@zmy, ⟨@jbu, @ze9⟩⟩⟩⟩⟩
def jct (a b : Int) : Int := if a < b then -1 else if b < a then 1 else 0
def dpG (l : List Int) (g : Gate) : Int := 1 + max (max (nth l g.a.toNat) (nth l g.b.toNat)) (nth l g.c.toNat)
def dpS (l : List Int) (gs : List Gate) : List Int := gs.foldl (fun l g => l ++ [dpG l g]) l
def dpN (n : Net) : List Int := dpS (List.replicate (2 + n.ins.length) 0) n.gates
def dpM (l : List Int) (ds : List Int) : Int := ds.foldl (fun m x => max m (nth l x.toNat)) 0
def zuo (n : Net) : Int := dpM (dpN n) n.drive
theorem jhx (l : List Int) (a b : List Gate) : dpS l (a ++ b) = dpS (dpS l a) b := by unfold dpS; rw [List.foldl_append]
theorem jav (l : List Int) {gs : List Gate} {k : Nat} (h : k < gs.length) : dpS l (gs.take (k + 1)) = dpS l (gs.take k) ++ [dpG (dpS l (gs.take k)) (nth gs k)] := by rw [zem h, jhx]; rfl
theorem zb6 : ∀ (gs : List Gate) (l : List Int), (dpS l gs).length = l.length + gs.length
 | [], l => rfl
 | g :: gs, l => by show (dpS (l ++ [dpG l g]) gs).length = _; rw [zb6 gs]; simp; omega
theorem jhy : ∀ (gs : List Gate) (l : List Int), ∃ t, dpS l gs = l ++ t
 | [], l => ⟨[], by simp [dpS]⟩
 | g :: gs, l => by
  obtain ⟨t, ht⟩ := jhy gs (l ++ [dpG l g])
  exact ⟨dpG l g :: t, by show dpS (l ++ [dpG l g]) gs = _; rw [ht]; simp⟩
theorem jaw (l : List Int) {ds : List Int} {k : Nat} (h : k < ds.length) : dpM l (ds.take (k + 1)) = max (dpM l (ds.take k)) (nth l (nth ds k).toNat) := by unfold dpM; rw [zem h, List.foldl_append]; rfl
theorem ybm (m j : Nat) : nth (List.replicate m (0 : Int)) j = 0 := by unfold nth; simp [List.getD_eq_getElem?_getD, List.getElem?_replicate]; split <;> rfl
theorem jhz {l : List Int} {j : Nat} (h : l.length ≤ j) : nth l j = 0 := by unfold nth; simp [List.getD_eq_getElem?_getD, List.getElem?_eq_none h]
theorem jzi (m : Nat) : ∀ (gs : List Gate) (l : List Int) (K : Nat), (∀ j, 0 ≤ nth l j ∧ nth l j ≤ (K : Int)) → ∀ j, 0 ≤ nth (dpS l gs) j ∧ nth (dpS l gs) j ≤ ((K + gs.length : Nat) : Int)
 | [], l, K, h, j => h j
 | g :: gs, l, K, h, j => by
  have := jzi m gs (l ++ [dpG l g]) (K + 1) (fun j => by
   have ha := h g.a.toNat; have hb := h g.b.toNat; have hc := h g.c.toNat
   by_cases e : j < l.length
   ·unfold nth; rw [List.getD_eq_getElem?_getD, List.getElem?_append_left e, ← List.getD_eq_getElem?_getD]; have := h j; unfold nth at this; omega
   ·by_cases e2 : j = l.length
    ·subst e2
     have : nth (l ++ [dpG l g]) l.length = dpG l g := by unfold nth; simp [List.getD_eq_getElem?_getD]
     rw [this]; unfold dpG; omega
    ·rw [jhz (by simp; omega)]; omega) j
  rw [show dpS l (g :: gs) = dpS (l ++ [dpG l g]) gs from rfl]
  simp only [List.length_cons]; omega
theorem jax (n : Net) (k : Nat) (j : Nat) : 0 ≤ nth (dpS (List.replicate (2 + n.ins.length) 0) (n.gates.take k)) j ∧ nth (dpS (List.replicate (2 + n.ins.length) 0) (n.gates.take k)) j ≤ (k : Int) := by
 have := jzi 0 (n.gates.take k) (List.replicate (2 + n.ins.length) 0) 0 (fun j => by rw [ybm]; simp) j
 rw [List.length_take] at this; omega
theorem jh0 {l : List Int} {K : Nat} (h : ∀ j, 0 ≤ nth l j ∧ nth l j ≤ (K : Int)) : ∀ ds : List Int, 0 ≤ dpM l ds ∧ dpM l ds ≤ (K : Int) := by
 intro ds
 have : ∀ (ds : List Int) (a : Int), 0 ≤ a ∧ a ≤ (K : Int) → 0 ≤ ds.foldl (fun m x => max m (nth l x.toNat)) a ∧ ds.foldl (fun m x => max m (nth l x.toNat)) a ≤ (K : Int) := by
  intro ds
  induction ds with
  | nil => exact fun a h => h
  | cons d ds ih => intro a ha; rw [List.foldl_cons]; exact ih _ (by have := h d.toNat; omega)
 exact this ds 0 (by omega)
theorem yeb (n : Net) (k : Nat) : nth (dpS (List.replicate (2 + n.ins.length) 0) (n.gates.take k)) 0 = 0 := by
 obtain ⟨t, ht⟩ := jhy (n.gates.take k) (List.replicate (2 + n.ins.length) 0)
 rw [ht]; unfold nth
 rw [List.getD_eq_getElem?_getD, List.getElem?_append_left (by simp; omega)]
 have := ybm (2 + n.ins.length) 0
 unfold nth at this; rwa [List.getD_eq_getElem?_getD] at this
def mxN (l us : List Int) : Nat → Int
 | 0 => nth us 0
 | k + 1 => if 0 < jct (nth l (nth us k).toNat) (nth l (mxN l us k).toNat) then nth us k else mxN l us k
structure MaxAt (l us : List Int) (k : Nat) (z : Int) : Prop where
 at' : ∃ j, j < k ∧ z = nth us j
 le : ∀ j, j < k → nth l (nth us j).toNat ≤ nth l z.toNat
theorem jr4 {l us : List Int} : ∀ k, MaxAt l us (k + 1) (mxN l us (k + 1))
 | 0 => by
  have e : mxN l us (0 + 1) = nth us 0 := by simp [mxN, jct]
  rw [e]
  exact ⟨⟨0, by omega, rfl⟩, fun j hj => by rw [show j = 0 by omega]; exact Int.le_refl _⟩
 | k + 1 => by
  have ih := jr4 (l := l) (us := us) k
  rw [mxN]
  generalize mxN l us (k + 1) = z at *
  by_cases h : 0 < jct (nth l (nth us (k + 1)).toNat) (nth l z.toNat)
  ·rw [if_pos h]
   have h3 : nth l z.toNat ≤ nth l (nth us (k + 1)).toNat := by
    unfold jct at h
    split at h
    ·omega
    ·split at h <;> omega
   refine ⟨⟨k + 1, by omega, rfl⟩, fun j hj => ?_⟩
   by_cases e : j = k + 1
   ·subst e; exact Int.le_refl _
   ·exact Int.le_trans (ih.le j (by omega)) h3
  ·rw [if_neg h]
   have h3 : nth l (nth us (k + 1)).toNat ≤ nth l z.toNat := by
    unfold jct at h
    split at h
    ·omega
    ·split at h <;> omega
   obtain ⟨j0, hj0, e0⟩ := ih.at'
   refine ⟨⟨j0, by omega, e0⟩, fun j hj => ?_⟩
   by_cases e : j = k + 1
   ·subst e; exact h3
   ·exact ih.le j (by omega)
theorem jlo {l : List Int} {g : Gate} {m : Nat} (hg : GateOk m g) (hv : GateV g) (h0 : nth l 0 = 0) (hn : ∀ j, 0 ≤ nth l j) {z : Int} (hz : MaxAt l (zdp g) (zdp g).length z) : 1 + nth l z.toNat = dpG l g ∧ 0 ≤ z ∧ z < m := by
 obtain ⟨⟨j, hj, e⟩, hle⟩ := hz
 have na := hn g.a.toNat; have nb := hn g.b.toNat; have nc := hn g.c.toNat
 have a0 := hg.a0; have a1 := hg.a1; have b0 := hg.b0; have b1 := hg.b1; have c0 := hg.c0; have c1 := hg.c1
 unfold dpG
 rcases jhn hg.o1 hg.o2 with ⟨k1, k2⟩ | ⟨k1, k3, k2⟩ | ⟨k1, k2⟩
 ·have hu : zdp g = [g.a] := by unfold zdp; rw [k2]; rfl
  rw [hu] at hj e hle
  have hb := hv.b k1; have hc := hv.c (by omega)
  have l0 := hle 0 (by simp)
  have hj0 : j = 0 := by simpa using hj
  subst hj0
  have e' : z = g.a := e
  rw [hb, hc, Int.toNat_zero, h0, ← e']
  rw [← e'] at na a0 a1
  omega
 ·have hu : zdp g = [g.a, g.b] := by unfold zdp; rw [k2]; rfl
  rw [hu] at hj e hle
  have hc := hv.c k3
  have l0 : nth l g.a.toNat ≤ nth l z.toNat := hle 0 (by simp)
  have l1 : nth l g.b.toNat ≤ nth l z.toNat := hle 1 (by simp)
  have hjj : j = 0 ∨ j = 1 := by simp at hj; omega
  rw [hc, Int.toNat_zero, h0]
  rcases hjj with rfl | rfl
  ·have e' : z = g.a := e
   subst e'; omega
  ·have e' : z = g.b := e
   subst e'; omega
 ·have hu : zdp g = [g.a, g.b, g.c] := by unfold zdp; rw [k2]; rfl
  rw [hu] at hj e hle
  have l0 : nth l g.a.toNat ≤ nth l z.toNat := hle 0 (by simp)
  have l1 : nth l g.b.toNat ≤ nth l z.toNat := hle 1 (by simp)
  have l2 : nth l g.c.toNat ≤ nth l z.toNat := hle 2 (by simp)
  have hjj : j = 0 ∨ j = 1 ∨ j = 2 := by simp at hj; omega
  rcases hjj with rfl | rfl | rfl
  ·have e' : z = g.a := e
   subst e'; omega
  ·have e' : z = g.b := e
   subst e'; omega
  ·have e' : z = g.c := e
   subst e'; omega
theorem zo3 {p q : Prop} (hq : q) (h : p = q := by
 conv => lhs; simp -dsimp -implicitDefEqProofs (disch := first | assumption | omega | (simp only [r_z] <;> omega) | decide) only [r_r, ↓reduceIte, Nat.reduceEqDiff, Nat.reduceAdd, D.fix, Int.reduceToNat, Nat.reduceMul, Nat.reduceBNe, Nat.reduceBEq]) : p := h.mpr hq
theorem yec {p : Prop} (h : p := by
 simp (disch := first | assumption | omega | (simp only [r_z] <;> omega) | decide) only [r_c, Nat.reduceAdd, D.fix, ↓reduceIte, Nat.reduceEqDiff]) : p := h
theorem jzj (a : Int) : zbg Try.prog 105 [iD a] (.d (oD false)) := by
 refine za4 (fn := Try.f105) (by kernel_rfl) Try.func105 rfl (Nat.le_of_ble_eq_true rfl) fun c hc hp => ?_
 refine za9 (τ' := frL [(0, .d (iD a))]) (by repeat (first | exact zas _ | refine zao ?_ (by first | rfl | (simp [r_f]; done) | simp [r_f, *]))) ?_
 refine szq hp (fun _ hZ => zo3 hZ) ?_
 refine zag hp zak hc rfl fun K2 hK2 => ?_
 simp -dsimp -implicitDefEqProofs (disch := first | assumption | omega | (simp only [r_z] <;> omega) | decide) only [r_r, ↓reduceIte, Nat.reduceEqDiff, Nat.reduceAdd, D.fix, Int.reduceToNat, Nat.reduceMul, Nat.reduceBNe, Nat.reduceBEq, bne_self_eq_false, zrz]
 refine hK2 _ _ ?_
 refine zam ?_
 show closeA _ _ = _
 exact yec
theorem zr0 {p q : Prop} (hq : q) (h : p = q := by
 conv => lhs; simp -dsimp -implicitDefEqProofs (disch := first | assumption | omega | (simp only [r_z] <;> omega) | decide) only [r_r, ↓reduceIte, Nat.reduceEqDiff, Nat.reduceAdd, D.fix, Int.reduceToNat, Nat.reduceMul, Nat.reduceBNe, Nat.reduceBEq, zrz]) : p := h.mpr hq
theorem yed {p q : Prop} (hq : q) (h : p = q := by
 conv => lhs; simp (disch := first | assumption | omega | (simp only [r_z] <;> omega) | decide) only [r_c, Nat.reduceAdd, D.fix, ↓reduceIte, Nat.reduceEqDiff]) : p := h.mpr hq
theorem jh1 (a b : Int) : zbg Try.prog 74 [iD a, iD b] (.d (iD (jct a b))) := by
 refine za4 (fn := Try.f74) (by kernel_rfl) Try.func74 rfl (Nat.le_of_ble_eq_true rfl) fun c hc hp => ?_
 refine za9 (τ' := frL [(0, .d (iD a)), (1, .d (iD b))]) (by repeat (first | exact zas _ | refine zao ?_ (by first | rfl | (simp [r_f]; done) | simp [r_f, *]))) ?_
 refine szq hp (fun _ hZ => zo3 hZ) ?_
 refine zag hp zak hc rfl fun K2 hK2 => ?_
 refine zr0 ?_
 refine zbp (jzj a) rfl ?_
 refine zr0 ?_
 refine hK2 _ _ ?_
 refine zag hp zak hc rfl fun K3 hK3 => ?_
 refine zr0 ?_
 refine zbp (jzj b) rfl ?_
 refine zr0 ?_
 refine hK3 _ _ ?_
 refine zaa fun K4 hK4 => ?_
 refine szq hp (fun _ hZ => zo3 hZ) ?_
 refine szf ?_
 refine zaj (hK4 _ _ ?_)
 refine zaa fun K6 hK6 => ?_
 refine szq hp (fun _ hZ => zo3 hZ) ?_
 refine szf ?_
 refine zaj (hK6 _ _ ?_)
 refine zaa fun K8 hK8 => ?_
 refine szq hp (fun _ hZ => zr0 hZ) ?_
 refine zal rfl (fun ht => ?_) (fun ht => ?_)
 ·refine szq hp (fun _ hZ => zo3 hZ) ?_
  refine zam ?_
  show closeA _ _ = _
  refine yed ?_
  have h := of_decide_eq_true ht; simp [jct, h]
 ·refine zaj (hK8 _ _ ?_)
  refine zaa fun K11 hK11 => ?_
  refine szq hp (fun _ hZ => zr0 hZ) ?_
  refine zal rfl (fun ht => ?_) (fun ht => ?_)
  ·refine szq hp (fun _ hZ => zo3 hZ) ?_
   refine zam ?_
   show closeA _ _ = _
   refine yed ?_
   have h := of_decide_eq_true ht
   have h2 : ¬ a < b := by omega
   simp [jct, h, h2]
  ·refine zaj (hK11 _ _ ?_)
   refine szq hp (fun _ hZ => zo3 hZ) ?_
   refine zam ?_
   show closeA _ _ = _
   refine yed ?_
   rename_i hq
   simp at ht hq; have e : a = b := by omega
   simp [jct, e]
theorem jr5 {p q r : Prop} (e : r) (hq : q) (h : r → p = q := by
 intro hY
 conv => lhs; simp -dsimp -implicitDefEqProofs (disch := first | assumption | omega | (simp only [r_z] <;> omega) | decide) only [r_r, ↓reduceIte, Nat.reduceEqDiff, Nat.reduceAdd, D.fix, Int.reduceToNat, Nat.reduceMul, Nat.reduceBNe, Nat.reduceBEq, zrz, hY]) : p := (h e).mpr hq
theorem jzk (l : List Int) (x y : Int) (hl : l.length ≤ maxLen) (hx : 0 ≤ x ∧ x < l.length) (hy : 0 ≤ y ∧ y < l.length) : zbg Try.prog 73 [iD x, iD y, .fp [intsD l] 0] (.d (iD (jct (nth l x.toNat) (nth l y.toNat)))) := by
 unfold maxLen at hl
 have hgx : (l.map iD)[x.toNat]? = some (iD (nth l x.toNat)) := zbj (by omega)
 have hgy : (l.map iD)[y.toNat]? = some (iD (nth l y.toNat)) := zbj (by omega)
 refine za4 (fn := Try.f73) (by kernel_rfl) Try.func73 rfl (Nat.le_of_ble_eq_true rfl) fun c hc hp => ?_
 refine za9 (τ' := frL [(0, .d (iD x)), (1, .d (iD y)), (2, .d (.fp [intsD l] 0))]) (by repeat (first | exact zas _ | refine zao ?_ (by first | rfl | (simp [r_f]; done) | simp [r_f, *]))) ?_
 refine szq hp (fun _ hZ => zo3 hZ) ?_
 refine za5 zak hc mixed rfl (q := 0) (by kernel_rfl) (by kernel_rfl) fun K2 hK2 => ?_
 refine jr5 (sza hgx hgy) ?_
 refine zbp (jh1 (nth l x.toNat) (nth l y.toNat)) rfl ?_
 refine jr5 (sza hgx hgy) ?_
 refine hK2 _ _ ?_
 refine zam ?_
 show closeA _ _ = _
 exact yec
theorem jlp {p q : Prop} (hq : q) (h : p = q := by
 conv => lhs; simp -dsimp -implicitDefEqProofs (disch := first | assumption | omega | (simp only [r_z] <;> omega) | decide) only [r_r, ↓reduceIte, Nat.reduceEqDiff, Nat.reduceAdd, D.fix, Int.reduceToNat, Nat.reduceMul, Nat.reduceBNe, Nat.reduceBEq, zbj, zrz]) : p := h.mpr hq
theorem yee {m : List Nat} {τ τ' : Fr} {H H' : zae} (h2 : H = H') (h : zfq τ τ' := by
 repeat (first | exact zas _ | refine zao ?_ (by first | rfl | (simp [r_f]; done) | simp [r_f, *]))) : Rt m τ H τ' H' := Rt.end h h2
theorem yef {p : Prop} (h : p := by
 first | rfl | (simp only [r_g, Nat.reduceAdd, ↓reduceIte, Nat.reduceEqDiff]; first | done | rfl)) : p := h
theorem jzl (us : List Int) (l : List Int) (hl : l.length ≤ maxLen) (hu1 : 1 ≤ us.length) (hu3 : us.length ≤ 3) (hu : ∀ k, k < us.length → 0 ≤ nth us k ∧ nth us k < l.length) : zbg Try.prog 72 [intsD us, .clo (.func 73) [] [.fp [intsD l] 0]] (.d (iD (mxN l us us.length))) := by
 have q0 : decide ((us.length : Int) < 1) = false := decide_eq_false (by omega)
 have e1 : mxN l us 1 = nth us 0 := by simp [mxN, jct]
 refine za4 (fn := Try.f72) (by kernel_rfl) Try.func72 rfl (Nat.le_of_ble_eq_true rfl) fun c hc hp => ?_
 refine za9 (τ' := frL [(0, .d (intsD us)), (1, .d (.clo (.func 73) [] [.fp [intsD l] 0]))]) (by repeat (first | exact zas _ | refine zao ?_ (by first | rfl | (simp [r_f]; done) | simp [r_f, *]))) ?_
 refine szq hp (fun _ hZ => zo3 hZ) ?_
 refine zaa fun K2 hK2 => ?_
 refine szq hp (fun _ hZ => jr5 q0 hZ) ?_
 refine szf ?_
 refine zaj (hK2 _ _ ?_)
 refine szq hp (fun _ hZ => jlp hZ) ?_
 refine zaa fun K5 hK5 => ?_
 refine szq hp (fun _ hZ => zo3 hZ) ?_
 refine zaf ?_
 refine zan hp (fun τ' H' mm => ∃ (k : Nat), (1 ≤ k ∧ k ≤ us.length) ∧ mm = us.length - k ∧ H' = [] ∧ τ' = frL [(0, .d (intsD us)), (1, .d (.clo (.func 73) [] [.fp [intsD l] 0])), (5, .d (iD (mxN l us k))), (6, .d (iD k))]) (us.length - 1) ?_ ⟨1, ⟨Nat.le_refl _, hu1⟩, rfl, rfl, rfl⟩ ?_
 ·refine yee ?_
  exact yef
 rintro τ' H' mm ⟨k, ⟨hk1, hk⟩, rfl, rfl, rfl⟩
 refine zaa fun K7 hK7 => ?_
 refine szq hp (fun _ hZ => zr0 hZ) ?_
 refine zal rfl (fun ht => ?_) (fun ht => ?_)
 ·have hlt : k < us.length := by simp at ht; omega
  have hzr : 0 ≤ mxN l us k ∧ mxN l us k < l.length := by
   obtain ⟨j, hj, e⟩ := (jr4 (l := l) (us := us) (k - 1)).at'
   rw [show k - 1 + 1 = k by omega] at e
   rw [e]; exact hu j (by omega)
  have hst : mxN l us (k + 1) = if 0 < jct (nth l (nth us k).toNat) (nth l (mxN l us k).toNat) then nth us k else mxN l us k := rfl
  generalize mxN l us k = z at *
  refine zaj (hK7 _ _ ?_)
  refine zaa fun K9 hK9 => ?_
  refine zaf ?_
  refine zag hp zak hc rfl fun K10 hK10 => ?_
  refine jlp ?_
  refine jet (fi := []) (ca := [.fp [intsD l] 0]) (ds := [iD (nth us k), iD z]) (jzk l (nth us k) z hl (hu k hlt) hzr) rfl ?_
  refine jlp ?_
  refine hK10 _ _ ?_
  refine zal rfl (fun ht => ?_) (fun ht => ?_)
  ·rw [if_pos (of_decide_eq_true ht)] at hst
   refine szs hp (fun _ hZ => jlp hZ) (hK9 _ _ ?_)
   refine za1 hp zak hc rfl fun K12 hK12 => ?_
   refine zr0 ?_
   refine hK12 _ _ ⟨_, _, _, ?_, ⟨k + 1, ⟨by omega, by omega⟩, rfl, rfl, rfl⟩, ?_⟩
   ·first | omega | (simp only [List.length_cons]; omega) | (dsimp only; omega)
   ·refine yee ?_
    exact yef
  ·rw [if_neg (of_decide_eq_false ht)] at hst
   refine zaj (hK9 _ _ ?_)
   refine za1 hp zak hc rfl fun K13 hK13 => ?_
   refine zr0 ?_
   refine hK13 _ _ ⟨_, _, _, ?_, ⟨k + 1, ⟨by omega, by omega⟩, rfl, rfl, rfl⟩, ?_⟩
   ·first | omega | (simp only [List.length_cons]; omega) | (dsimp only; omega)
   ·refine yee ?_
    exact yef
 ·have hkk : k = us.length := by simp at ht; omega
  subst hkk
  refine zau (hK5 _ _ ?_)
  refine szq hp (fun _ hZ => zo3 hZ) ?_
  refine zam ?_
  show closeA _ _ = _
  exact yec
theorem zo4 {p q : Prop} (hq : q) (h : p = q := by
 conv => lhs; simp -dsimp -implicitDefEqProofs (disch := first | assumption | omega | (simp only [r_z, zab, zac, zb6, List.length_replicate, List.length_take] <;> omega) | decide) only [r_r, ↓reduceIte, Nat.reduceEqDiff, Nat.reduceAdd, D.fix, Int.reduceToNat, Nat.reduceMul, Nat.reduceBNe, Nat.reduceBEq, zcb, zb7, zay, za3, zav, zrz]) : p := h.mpr hq
theorem ybn (k : List Nat) {m : List Nat} {τ τ1 : Fr} {H H1 : zae} (h : Rt m (fun t => gcV k (τ t)) (gcH k H) τ1 H1) (a : ∀ i ∈ m, k[i]? = some i := by decide) (b : k.Nodup := by decide) (c : ∀ i ∈ k, i < H.length := by
 simp [fzH, gcH]) : Rt m τ H τ1 H1 := Rt.trans (Rt.gc a b c) h
theorem ybo {m : List Nat} {τ τ' : Fr} {H H' : zae} (h2 : H = H') (h : zfq τ τ' := by
 repeat (first | exact zas _ | refine zao ?_ (by first | rfl | (simp [r_f, zab, zac, zb6, List.length_replicate, List.length_take]; done) | simp [r_f, zab, zac, zb6, List.length_replicate, List.length_take, *]))) : Rt m τ H τ' H' := Rt.end h h2
theorem jzm {p q r : Prop} (e : r) (hq : q) (h : r → p = q := by
 intro hY
 conv => lhs; simp -dsimp -implicitDefEqProofs (disch := first | assumption | omega | (simp only [r_z, zab, zac, zb6, List.length_replicate, List.length_take] <;> omega) | decide) only [r_r, ↓reduceIte, Nat.reduceEqDiff, Nat.reduceAdd, D.fix, Int.reduceToNat, Nat.reduceMul, Nat.reduceBNe, Nat.reduceBEq, zcb, zb7, zay, za3, zav, zrz, hY]) : p := (h e).mpr hq
theorem jzn {p q : Prop} (hq : q) (h : p = q := by
 conv => lhs; simp -dsimp -implicitDefEqProofs (disch := first | assumption | omega | (simp only [r_z, zab, zac, zb6, List.length_replicate, List.length_take] <;> omega) | decide) only [r_r, ↓reduceIte, Nat.reduceEqDiff, Nat.reduceAdd, D.fix, Int.reduceToNat, Nat.reduceMul, Nat.reduceBNe, Nat.reduceBEq, zcb, zb7, zay, za3, zav]) : p := h.mpr hq
theorem ygl {p : Prop} (h : p := by
 first | rfl | (simp only [r_g, Nat.reduceAdd, ↓reduceIte, Nat.reduceEqDiff, zcb, zb7, zay, za3, zav]; first | done | rfl)) : p := h
theorem zwt (n : Net) (h : NetV n) : zbg Try.prog 38 [zcb n] (.d (iD (zuo n))) := by
 have hlen := h.len
 have hd0 := h.d0
 have hdl := h.dl
 refine za4 (fn := Try.f38) (by kernel_rfl) Try.func38 rfl (Nat.le_of_ble_eq_true rfl) fun c hc hp => ?_
 refine za9 (τ' := frL [(0, .d (zcb n))]) (by repeat (first | exact zas _ | refine zao ?_ (by first | rfl | (simp [r_f, zab, zac, zb6, List.length_replicate, List.length_take]; done) | simp [r_f, zab, zac, zb6, List.length_replicate, List.length_take, *]))) ?_
 refine szq hp (fun _ hZ => zo4 hZ) ?_
 refine zag hp zak hc rfl fun K2 hK2 => ?_
 simp -dsimp -implicitDefEqProofs (disch := first | assumption | omega | (simp only [r_z, zab, zac, zb6, List.length_replicate, List.length_take] <;> omega) | decide) only [r_r, ↓reduceIte, Nat.reduceEqDiff, Nat.reduceAdd, D.fix, Int.reduceToNat, Nat.reduceMul, Nat.reduceBNe, Nat.reduceBEq, zcb, zb7, zay, za3, zav, jmt, zrz]
 refine hK2 _ _ ?_
 refine zaa fun K3 hK3 => ?_
 refine szq hp (fun _ hZ => zo4 hZ) ?_
 refine zaf ?_
 refine zan hp (fun τ' H' mm => ∃ (k : Nat), (k ≤ n.gates.length) ∧ mm = n.gates.length - k ∧ H' = [.cells (avs (zb7 n)), .cells [.os 1 2 0 (2 + n.ins.length + k)], .cells (avs ((dpS (List.replicate (2 + n.ins.length) 0) (n.gates.take k)).map iD))] ∧ τ' = frL [(1, .op 0 0), (3, .op 1 0), (26, .d (za3 n.gates)), (27, .d (iD n.gates.length)), (28, .d (iD k))]) (n.gates.length) ?_ ⟨0, Nat.zero_le _, rfl, rfl, rfl⟩ ?_
 ·refine ybn [0,2,1] ?_
  refine ybo ?_
  simp only [r_g, Nat.reduceAdd, ↓reduceIte, Nat.reduceEqDiff, zcb, zb7, zay, za3, zav]; simp [dpS, avs, iD]; omega
 rintro τ' H' mm ⟨k, hk, rfl, rfl, rfl⟩
 refine szq hp (fun _ hZ => zo4 hZ) ?_
 refine zaa fun K6 hK6 => ?_
 refine zal rfl (fun ht => ?_) (fun ht => ?_)
 ·have hlt : k < n.gates.length := by simp at ht; omega
  have hg := jaq h.g2 hlt
  have hv := h.gv _ (zb3 hlt)
  obtain ⟨l, hl⟩ : ∃ l, l = dpS (List.replicate (2 + n.ins.length) 0) (n.gates.take k) := ⟨_, rfl⟩
  have hll : l.length = 2 + n.ins.length + k := by rw [hl, zb6, List.length_replicate, List.length_take]; omega
  have hst := jav (List.replicate (2 + n.ins.length) 0) hlt
  rw [← hl] at hst
  have h0 := yeb n k
  have hrg := jax n k
  rw [← hl] at h0 hrg
  rw [← hl]
  have hml : l.length ≤ maxLen := by unfold maxLen; omega
  have hu1 : 1 ≤ (zdp (nth n.gates k)).length := by rcases jhn hg.o1 hg.o2 with ⟨k1, k2⟩ | ⟨k1, k3, k2⟩ | ⟨k1, k2⟩ <;> (unfold zdp; rw [k2]; simp)
  have hu3 : (zdp (nth n.gates k)).length ≤ 3 := by unfold zdp; rw [List.length_take]; exact Nat.min_le_right _ _
  have hur : ∀ j, j < (zdp (nth n.gates k)).length → 0 ≤ nth (zdp (nth n.gates k)) j ∧ nth (zdp (nth n.gates k)) j < l.length := fun j hj => by
   obtain ⟨u, hu⟩ : ∃ u, u = nth (zdp (nth n.gates k)) j := ⟨_, rfl⟩
   have hx : u ∈ [(nth n.gates k).a, (nth n.gates k).b, (nth n.gates k).c] := by rw [hu]; exact List.mem_of_mem_take (zb3 hj)
   rw [← hu]
   have a0 := hg.a0; have a1 := hg.a1; have b0 := hg.b0; have b1 := hg.b1; have c0 := hg.c0; have c1 := hg.c1
   simp only [List.mem_cons, List.not_mem_nil, or_false] at hx
   rcases hx with e | e | e <;> rw [e] <;> omega
  have hmax := jzl (zdp (nth n.gates k)) l hml hu1 hu3 hur
  clear hl
  refine zaj (hK6 _ _ ?_)
  refine zaa fun K7 hK7 => ?_
  refine zaf ?_
  refine zag hp zak hc rfl fun K8 hK8 => ?_
  simp -dsimp -implicitDefEqProofs (disch := first | assumption | omega | (simp only [r_z, zab, zac, zb6, List.length_replicate, List.length_take] <;> omega) | decide) only [r_r, ↓reduceIte, Nat.reduceEqDiff, Nat.reduceAdd, D.fix, Int.reduceToNat, Nat.reduceMul, Nat.reduceBNe, Nat.reduceBEq, zcb, zb7, zay, za3, zav, zjj, zjz, zrz]
  refine hK8 _ _ ?_
  refine zag hp zak hc rfl fun K9 hK9 => ?_
  refine zo4 ?_
  have hmu := jlo hg hv h0 (fun j => (hrg j).1) (z := mxN l (zdp (nth n.gates k)) (zdp (nth n.gates k)).length) (by
   have := jr4 (l := l) (us := zdp (nth n.gates k)) ((zdp (nth n.gates k)).length - 1)
   rwa [show (zdp (nth n.gates k)).length - 1 + 1 = (zdp (nth n.gates k)).length by omega] at this)
  obtain ⟨z, hz⟩ : ∃ z, z = mxN l (zdp (nth n.gates k)) (zdp (nth n.gates k)).length := ⟨_, rfl⟩
  rw [← hz] at hmax hmu
  clear hz
  have hgz : (l.map iD)[z.toNat]? = some (iD (nth l z.toNat)) := zbj (by omega)
  have hzr := hrg z.toNat
  refine zbp (zqn (nth n.gates k) hg.o1 hg.o2) rfl ?_
  refine zo4 ?_
  refine hK9 _ _ ?_
  refine zag hp zak hc rfl fun K10 hK10 => ?_
  refine zo4 ?_
  refine jes (hmax) ?_ ?_
  ·simp (disch := first | assumption | omega | (simp only [r_z, zab, zac, zb6, List.length_replicate, List.length_take] <;> omega) | decide) only [r_c, Nat.reduceAdd, D.fix, ↓reduceIte, Nat.reduceEqDiff, zcb, zb7, zay, za3, zav, hll]
  refine zo4 ?_
  refine hK10 _ _ ?_
  refine zs5 zak hc mixed rfl (q := 2) (by kernel_rfl) (by kernel_rfl) fun K11 hK11 => ?_
  refine jzm hgz ?_
  refine hK11 _ _ (hK7 _ _ ?_)
  refine za1 hp zak hc rfl fun K12 hK12 => ?_
  refine zo4 ?_
  refine hK12 _ _ ⟨_, _, _, ?_, ⟨k + 1, by omega, rfl, rfl, rfl⟩, ?_⟩
  ·first | omega | (simp only [List.length_cons]; omega) | (dsimp only; omega)
  ·refine ybn [0,1,5] ?_
   refine ybo ?_
   simp only [r_g, Nat.reduceAdd, ↓reduceIte, Nat.reduceEqDiff, zcb, zb7, zay, za3, zav]; rw [hst, ← hmu.1]; simp [iD]; omega
 ·have hkk : k = n.gates.length := by simp at ht; omega
  subst hkk
  rw [List.take_length]
  have hll : (dpN n).length = 2 + n.ins.length + n.gates.length := by unfold dpN; rw [zb6, List.length_replicate]
  have hrg : ∀ j, 0 ≤ nth (dpN n) j ∧ nth (dpN n) j ≤ ((n.gates.length : Nat) : Int) := fun j => by
   have := jax n n.gates.length j
   rwa [List.take_length] at this
  rw [show dpS (List.replicate (2 + n.ins.length) 0) n.gates = dpN n from rfl]
  refine zau (hK3 _ _ ?_)
  refine szq hp (fun _ hZ => jzn hZ) ?_
  refine zaa fun K14 hK14 => ?_
  refine szq hp (fun _ hZ => zo4 hZ) ?_
  refine zaf ?_
  refine zan hp (fun τ' H' mm => ∃ (k : Nat), (k ≤ n.drive.length) ∧ mm = n.drive.length - k ∧ H' = [.cells (avs (zb7 n)), .cells [.os 1 2 0 (2 + n.ins.length + n.gates.length)], .cells (avs ((dpN n).map iD))] ∧ τ' = frL [(1, .op 0 0), (3, .op 1 0), (9, .d (iD (dpM (dpN n) (n.drive.take k)))), (50, .d (intsD n.drive)), (51, .d (iD n.drive.length)), (52, .d (iD k))]) (n.drive.length) ?_ ⟨0, Nat.zero_le _, rfl, rfl, rfl⟩ ?_
  ·refine ybn [0,1,2] ?_
   refine ybo ?_
   exact ygl
  rintro τ' H' mm ⟨k, hk, rfl, rfl, rfl⟩
  refine szq hp (fun _ hZ => zo4 hZ) ?_
  refine zaa fun K17 hK17 => ?_
  refine zal rfl (fun ht => ?_) (fun ht => ?_)
  ·have hlt : k < n.drive.length := by simp at ht; omega
   have hdk := h.d2 k hlt
   have hst := jaw (dpN n) hlt
   have hgz : ((dpN n).map iD)[(nth n.drive k).toNat]? = some (iD (nth (dpN n) (nth n.drive k).toNat)) := zbj (by omega)
   refine zaj (hK17 _ _ ?_)
   refine zaa fun K18 hK18 => ?_
   refine zaf ?_
   refine zag hp zak hc rfl fun K19 hK19 => ?_
   simp -dsimp -implicitDefEqProofs (disch := first | assumption | omega | (simp only [r_z, zab, zac, zb6, List.length_replicate, List.length_take] <;> omega) | decide) only [r_r, ↓reduceIte, Nat.reduceEqDiff, Nat.reduceAdd, D.fix, Int.reduceToNat, Nat.reduceMul, Nat.reduceBNe, Nat.reduceBEq, zcb, zb7, zay, za3, zav, zbj, zrz]
   refine hK19 _ _ ?_
   refine szs hp (fun _ hZ => jzm hgz hZ) (hK18 _ _ ?_)
   refine za1 hp zak hc rfl fun K21 hK21 => ?_
   refine zo4 ?_
   refine hK21 _ _ ⟨_, _, _, ?_, ⟨k + 1, by omega, rfl, rfl, rfl⟩, ?_⟩
   ·first | omega | (simp only [List.length_cons]; omega) | (dsimp only; omega)
   ·refine ybn [0,1,2] ?_
    refine ybo ?_
    exact ygl
  ·have hkk : k = n.drive.length := by simp at ht; omega
   subst hkk
   rw [List.take_length]
   refine zau (hK14 _ _ ?_)
   refine szq hp (fun _ hZ => jzn hZ) ?_
   refine zam ?_
   show closeA _ _ = _
   simp (disch := first | assumption | omega | (simp only [r_z, zab, zac, zb6, List.length_replicate, List.length_take] <;> omega) | decide) only [r_c, Nat.reduceAdd, D.fix, ↓reduceIte, Nat.reduceEqDiff, zcb, zb7, zay, za3, zav]
   rfl
end Go.Proofs.Ytapjobndmmkanaa
