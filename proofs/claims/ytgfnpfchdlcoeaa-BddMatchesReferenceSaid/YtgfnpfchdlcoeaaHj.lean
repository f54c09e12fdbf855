/- The reference's support of a diagram. -/
import Derived.Test.YtgfnpfchdlcoeaaQr
import Derived.Test.YtgfnpfchdlcoeaaQ
import Derived.Test.YtgfnpfchdlcoeaaHg
import Derived.Test.YtgfnpfchdlcoeaaGg
set_option linter.unusedVariables false
set_option linter.unusedSimpArgs false
set_option maxRecDepth 100000
set_option maxHeartbeats 4000000
namespace Go.Proofs.Ytgfnpfchdlcoeaa
open Go Go.RowKit
structure MInv (us : List T) (t : T) (k : Int) (M U : List Bool) : Prop where
 lm : M.length = 2 + us.length
 lu : U.length = 1000
 n1 : nth M (num us t) = true
 n2 : ∀ j, nth M j = true → ∃ s, Sub s t ∧ s ∈ zbn us ∧ j = num us s
 n3 : ∀ s ∈ zbn us, s.lf = false → k < num us s → nth M (num us s) = true → nth U s.v = true ∧ nth M (num us s.l) = true ∧ nth M (num us s.h) = true
 n4 : ∀ x, nth U x = true → ∃ s, Sub s t ∧ s.lf = false ∧ x = s.v
theorem zo2 (n j : Nat) : nth (List.replicate n false) j = false := by unfold nth; simp [List.getD_eq_getElem?_getD, List.getElem?_replicate]; split <;> rfl
theorem zhd {l : List Bool} {i j : Nat} (h : i < l.length) : nth (l.set i true) j = true ↔ j = i ∨ nth l j = true := by
 by_cases e : j = i
 ·subst e; rw [zni h]; simp
 ·rw [zhq (Ne.symm e)]; simp [e]
theorem MInv.start {us : List T} {t : T} (ht : t ∈ zbn us) : MInv us t (num us t) ((List.replicate (2 + us.length) false).set (num us t) true) (List.replicate 1000 false) := by
 have hlt := zdn ht
 have hl : num us t < (List.replicate (2 + us.length) false).length := by simpa using hlt
 refine ⟨by rw [List.length_set, List.length_replicate], List.length_replicate, (zhd hl).2 (.inl rfl), fun j hj => ?_, fun s h1 h2 h3 h4 => ?_, fun x hx => by rw [zo2] at hx; cases hx⟩
 ·rcases (zhd hl).1 hj with rfl | h
  ·exact ⟨t, .refl t, ht, rfl⟩
  ·rw [zo2] at h; cases h
 ·rcases (zhd hl).1 h4 with h | h
  ·omega
  ·rw [zo2] at h; cases h
theorem MInv.skip {us : List T} {t : T} {k : Int} {M U : List Bool} (h : MInv us t k M U) (hm : nth M k.toNat = false) : MInv us t (k - 1) M U :=
 ⟨h.lm, h.lu, h.n1, h.n2, fun s h1 h2 h3 h4 => by
  by_cases e : (num us s : Int) = k
  ·rw [← e, Int.toNat_natCast] at hm
   rw [hm] at h4; cases h4
  ·exact h.n3 s h1 h2 (by omega) h4, h.n4⟩
theorem MInv.take {us : List T} {V : Nat} (hr : RowOk V us) (hV : V ≤ 1000) {t s : T} {k : Int} {M U : List Bool} (h : MInv us t k M U) (hs : s ∈ zbn us) (h2 : s.lf = false) (hk : k = num us s) (hm : nth M (num us s) = true) :
  MInv us t (k - 1) ((M.set (num us s.l) true).set (num us s.h) true) (U.set s.v true) := by
 have hc := hr.chf hs
 have hl := zdn hc.1
 have hh := zdn hc.2
 have hsv : s.v < 1000 := by
  have hok := hr.okf hs
  obtain ⟨v, l, r, rfl⟩ := zet h2
  have := hok.2.1
  show v < 1000; omega
 have e1 : num us s.l < M.length := by rw [h.lm]; exact hl
 have e2 : num us s.h < (M.set (num us s.l) true).length := by rw [List.length_set, h.lm]; exact hh
 have e3 : s.v < U.length := by rw [h.lu]; exact hsv
 have mem : ∀ j, nth ((M.set (num us s.l) true).set (num us s.h) true) j = true ↔ j = num us s.h ∨ j = num us s.l ∨ nth M j = true := fun j => by rw [zhd e2, zhd e1]
 obtain ⟨q, hq1, hq2, hq3⟩ := h.n2 _ hm
 have hqs : q = s := zd8 hq2 hs hq3.symm
 subst hqs
 refine ⟨by simp [h.lm], by simp [h.lu], (mem _).2 (.inr (.inr h.n1)), fun j hj => ?_, fun s' h1 h3 h4 h5 => ?_, fun x hx => ?_⟩
 ·obtain ⟨v, l, r, rfl⟩ := zet h2
  rcases (mem j).1 hj with rfl | rfl | hj
  ·exact ⟨r, (Sub.hi (.refl r)).trans hq1, hc.2, rfl⟩
  ·exact ⟨l, (Sub.lo (.refl l)).trans hq1, hc.1, rfl⟩
  ·exact h.n2 j hj
 ·by_cases e : num us s' = num us q
  ·have : s' = q := zd8 h1 hs e
   subst this
   exact ⟨(zhd e3).2 (.inl rfl), (mem _).2 (.inr (.inl rfl)), (mem _).2 (.inl rfl)⟩
  ·have h6 : nth M (num us s') = true := by
    have hch := zp7 hr (zub hs h2)
    rcases (mem _).1 h5 with h5 | h5 | h5
    ·omega
    ·omega
    ·exact h5
   obtain ⟨a1, a2, a3⟩ := h.n3 s' h1 h3 (by omega) h6
   exact ⟨(zhd e3).2 (.inr a1), (mem _).2 (.inr (.inr a2)), (mem _).2 (.inr (.inr a3))⟩
 ·rcases (zhd e3).1 hx with rfl | hx
  ·exact ⟨q, hq1, h2, rfl⟩
  ·exact h.n4 x hx
theorem MInv.all {us : List T} {V : Nat} (hr : RowOk V us) {t : T} (ht : t ∈ zbn us) {k : Int} (hk : k < 2) {M U : List Bool} (h : MInv us t k M U) : ∀ {s : T}, Sub s t → s ∈ zbn us ∧ nth M (num us s) = true := by
 intro s hs
 suffices ∀ q, Sub s q → q ∈ zbn us → nth M (num us q) = true → s ∈ zbn us ∧ nth M (num us s) = true from this t hs ht h.n1
 intro q hq
 induction hq with
 | refl => exact fun h1 h2 => ⟨h1, h2⟩
 | lo _ ih =>
  intro h1 h2
  have h3 := h.n3 _ h1 rfl (by have := zfo hr h1 rfl; omega) h2
  exact ih (hr.chf h1).1 h3.2.1
 | hi _ ih =>
  intro h1 h2
  have h3 := h.n3 _ h1 rfl (by have := zfo hr h1 rfl; omega) h2
  exact ih (hr.chf h1).2 h3.2.2
theorem MInv.vars {us : List T} {V : Nat} (hr : RowOk V us) {t : T} (ht : t ∈ zbn us) {k : Int} (hk : k < 2) {M U : List Bool} (h : MInv us t k M U) (x : Nat) : nth U x = decide (x ∈ t.vs) := by
 have key : nth U x = true ↔ x ∈ t.vs := by
  constructor
  ·intro hx
   obtain ⟨s, h1, h2, rfl⟩ := h.n4 x hx
   exact vs_sub.2 ⟨s, h1, h2, rfl⟩
  ·intro hv
   obtain ⟨s, h1, h2, rfl⟩ := vs_sub.1 hv
   obtain ⟨h3, h4⟩ := h.all hr ht hk h1
   exact (h.n3 s h3 h2 (by have := zfo hr h3 h2; omega) h4).1
 by_cases hx : x ∈ t.vs
 ·rw [decide_eq_true hx]; exact key.2 hx
 ·rw [decide_eq_false hx]
  cases hc : nth U x
  ·rfl
  ·exact absurd (key.1 hc) hx
theorem zi0 : (type_of% @zah) ∧ (type_of% @zbq) ∧ (type_of% @zbc) := ⟨@zah, @zbq, @zbc⟩
theorem zs1 (V : Nat) (us : List T) (rs : List Nat) (hr : RowOk V us) (hV : V ≤ 1000) (hul : us.length ≤ 3000) (node : Int) : zbi Try.prog 26 [zfp (zdl us) rs, iD node] (.d (zay (zwc us node))) := by
 have hel := zbc us
 refine za8 (fn := Try.f26) (by kernel_rfl) Try.func26 rfl (Nat.le_of_ble_eq_true rfl) fun c hc hp => ?_
 refine zba (τ' := frL [(0, .d (zfp (zdl us) rs)), (1, .d (iD node))]) (zaa (zaa (zae _) rfl) rfl) ?_
 refine zab hp zad hc rfl fun K1 hK1 => ?_
 simp -dsimp -implicitDefEqProofs (disch := first | omega | decide) only [q_r, zau, zb0, ↓reduceIte, D.one, iD, zau, zfp, zdp]
 refine hK1 _ _ ?_
 refine zab hp zad hc rfl fun K2 hK2 => ?_
 simp -dsimp -implicitDefEqProofs (disch := first | omega | decide) only [q_r, zau, zb0, ↓reduceIte, List.replicate_zero, zau, zgb]
 refine hK2 _ _ ?_
 refine zaf fun K3 hK3 => ?_
 refine zab hp zad hc rfl fun K4 hK4 => ?_
 rcases (show node < 0 ∨ (0 ≤ node ∧ 2 + (us.length : Int) ≤ node) ∨ (0 ≤ node ∧ node < 2 + (us.length : Int)) by omega) with q | ⟨q, q'⟩ | ⟨q, q'⟩
 ·have q1 : decide (node < 0) = true := by simp; omega
  have q2 := q1
  have hx : zd5 us node = false := by unfold zd5; rw [decide_eq_false (by omega)]; rfl
  simp -dsimp -implicitDefEqProofs (disch := first | omega | decide) only [q_r, ↓reduceIte, Nat.reduceEqDiff, q1]
  refine hK4 _ _ ?_
  refine zag rfl (fun ht => ?_) (fun ht => ?_)
  ·refine zab hp zad hc rfl fun K5 hK5 => ?_
   simp -dsimp -implicitDefEqProofs (disch := first | omega | decide) only [q_r, ↓reduceIte, Nat.reduceEqDiff]
   refine hK5 _ _ ?_
   refine zao ?_
   show zaj _ _ = _
   simp (disch := first | omega | decide) only [zaj, zct, za9, zbt, zbl, zcg, Nat.reduceAdd, Nat.zero_add, zdz, zat, ↓reduceIte, Option.map_some, Option.bind_some, Nat.mul_one, List.getElem?_cons_zero, List.getElem?_cons_succ, List.length_cons, List.length_nil, zay]
   unfold zwc
   rw [hx]; rfl
  ·cases ht
 ·have q1 : decide (node < 0) = false := by simp; omega
  have q2 : decide (2 + ((zdl us).length : Int) ≤ node) = true := by simp [hel]; omega
  have hx : zd5 us node = false := by unfold zd5; rw [decide_eq_false (p := node < 2 + (us.length : Int)) (by omega)]; simp
  simp -dsimp -implicitDefEqProofs (disch := first | omega | decide) only [q_r, zam, zac, zc1, zar, ↓reduceIte, Nat.reduceEqDiff, Nat.reduceAdd, q1, q2, zbk, zcj, zck, zcm]
  refine hK4 _ _ ?_
  refine zag rfl (fun ht => ?_) (fun ht => ?_)
  ·refine zab hp zad hc rfl fun K6 hK6 => ?_
   simp -dsimp -implicitDefEqProofs (disch := first | omega | decide) only [q_r, ↓reduceIte, Nat.reduceEqDiff]
   refine hK6 _ _ ?_
   refine zao ?_
   show zaj _ _ = _
   simp (disch := first | omega | decide) only [zaj, zct, za9, zbt, zbl, zcg, Nat.reduceAdd, Nat.zero_add, zdz, zat, ↓reduceIte, Option.map_some, Option.bind_some, Nat.mul_one, List.getElem?_cons_zero, List.getElem?_cons_succ, List.length_cons, List.length_nil, zay]
   unfold zwc
   rw [hx]; rfl
  ·cases ht
 ·have q1 : decide (node < 0) = false := by simp; omega
  have q2 : decide (2 + ((zdl us).length : Int) ≤ node) = false := by simp [hel]; omega
  have hx : zd5 us node = true := by unfold zd5; rw [decide_eq_true q, decide_eq_true q']; rfl
  have hnt : (num us (zb5 us node) : Int) = node := by unfold zb5; rw [ze1 hr (k := node.toNat) (by omega)]; omega
  have hnn : num us (zb5 us node) = node.toNat := by omega
  have hto : (2 + (us.length : Int)).toNat = 2 + us.length := by omega
  have hC0 : (List.replicate (2 + ((zdl us).length : Int)).toNat (D.val (Value.bool false))).set node.toNat (D.val (Value.bool true)) = ((List.replicate (2 + us.length) false).set (num us (zb5 us node)) true).map oD := by rw [hel, hto, hnn, List.map_set, List.map_replicate]; rfl
  have hti : zb5 us node ∈ zbn us := zlr (us := us) (k := node.toNat) (by omega)
  simp -dsimp -implicitDefEqProofs (disch := first | assumption | omega | (simp [maxLen, zi0] <;> omega) | decide) only [q_r, zam, zac, zc1, zar, ↓reduceIte, Nat.reduceEqDiff, Nat.reduceAdd, q1, q2, zbk, zcj, zck, zcm]
  refine hK4 _ _ ?_
  refine zag rfl (fun ht => ?_) (fun ht => ?_)
  ·cases ht
  ·refine zan (hK3 _ _ ?_)
   refine zab hp zad hc rfl fun K7 hK7 => ?_
   simp -dsimp -implicitDefEqProofs (disch := first | assumption | omega | (simp [maxLen, zi0] <;> omega) | decide) only [q_r, zau, zam, zac, ixO, zc1, zar, zb0, ↓reduceIte, Nat.reduceEqDiff, Nat.reduceAdd, zau, zbk, zcj, zck, zcm, zmb]
   refine hK7 _ _ ?_
   refine zab hp zad hc rfl fun K8 hK8 => ?_
   simp -dsimp -implicitDefEqProofs (disch := first | assumption | omega | (simp [maxLen, zi0] <;> omega) | decide) only [q_r, ixO, zai, za6, ↓reduceIte, and_true, Nat.reduceEqDiff, ze4, zus]
   refine hK8 _ _ ?_
   refine zab hp zad hc rfl fun K9 hK9 => ?_
   simp -dsimp -implicitDefEqProofs (disch := first | omega | decide) only [q_r, zau, ixO, zb0, ↓reduceIte, List.replicate_zero, List.replicate_succ, Nat.reduceAdd, zau, Int.reduceToNat, Nat.reduceMul, zmb]
   refine hK9 _ _ ?_
   refine zaf fun K10 hK10 => ?_
   refine zab hp zad hc rfl fun K11 hK11 => ?_
   simp -dsimp -implicitDefEqProofs (disch := first | omega | decide) only [q_r, ↓reduceIte, Nat.reduceEqDiff]
   refine hK11 _ _ ?_
   refine zaq ?_
   refine za4 hp (fun τ' H' mm => ∃ (k : Int) (M : List Bool) (U : List Bool), (MInv us (zb5 us node) k M U ∧ k < 2 + us.length ∧ 0 ≤ k + 1) ∧ mm = (k + 1).toNat ∧ H' = [.cells (avs (zdp (zdl us) rs)), .cells [], .cells (avs (M.map oD)), .cells (avs (U.map oD))] ∧ τ' = frL [(2, .op 0 0), (5, .os 1 1 0 0), (6, .os 1 2 0 (2 + us.length)), (7, .os 1 3 0 1000), (8, .d (iD k))]) ((node + 1).toNat) ?_ ⟨node, (List.replicate (2 + us.length) false).set (num us (zb5 us node)) true, List.replicate 1000 false, ⟨by have := MInv.start hti; rw [hnt] at this; exact this, by omega, by omega⟩, rfl, rfl, rfl⟩ ?_
   ·refine Rt.end (zaa (zaa (zaa (zaa (zaa (zae _) rfl) rfl) (by first | rfl | (simp [frL, zbc, hto]; done) | simp [Fr.put, frL, gcV, fzV, zcp, iD, bD, uD, oD, zay, zas, zbm, zbr, zbp, zbq, zbc, hto, *])) rfl) rfl) ?_
    simp only [za2, zav, zdp]; rw [hC0]; rfl
   rintro τ' H' mm ⟨k, M, U, ⟨hinv, hku, hk0⟩, rfl, rfl, rfl⟩
   refine zaf fun K12 hK12 => ?_
   refine zab hp zad hc rfl fun K13 hK13 => ?_
   simp -dsimp -implicitDefEqProofs (disch := first | omega | decide) only [q_r, ↓reduceIte, Nat.reduceEqDiff, iD, zdp]
   refine hK13 _ _ ?_
   refine zag rfl (fun ht => ?_) (fun ht => ?_)
   ·have hk2 : 2 ≤ k := by simpa using ht
    have hlm := hinv.lm
    have hlu := hinv.lu
    refine zan (hK12 _ _ ?_)
    refine zaf fun K14 hK14 => ?_
    refine zaq ?_
    refine zab hp zad hc rfl fun K15 hK15 => ?_
    simp -dsimp -implicitDefEqProofs (disch := first | omega | decide) only [q_r, zam, ixO, zai, ↓reduceIte, and_true, Nat.reduceEqDiff, oD, Nat.reduceAdd, ze4, zus, jep]
    refine hK15 _ _ ?_
    refine zag rfl (fun ht => ?_) (fun ht => ?_)
    ·have hm : nth M k.toNat = true := by simpa using ht
     obtain ⟨s, hsub, hsf, hks⟩ := hinv.n2 _ hm
     have h2 : s.lf = false := by
      rcases zdj s with h | h
      ·have := zmi (us := us) h; omega
      ·exact h
     have hkn : k = (num us s : Nat) := by omega
     have hin := zub hsf h2
     have hgs := zgp hr hsf h2
     have hch := hr.chf hsf
     have hlo := zdn hch.1
     have hhi := zdn hch.2
     have hns := zdn hsf
     have hsv : s.v < 1000 := by
      have hok := hr.okf hsf
      obtain ⟨v, l, r, rfl⟩ := zet h2
      have := hok.2.1
      show v < 1000; omega
     have hx1 : (k - 2).toNat = num us s - 2 := by omega
     have hxl : num us s - 2 < (zdl us).length := by omega
     refine zab hp zad hc rfl fun K16 hK16 => ?_
     simp -dsimp -implicitDefEqProofs (disch := first | assumption | omega | (simp [maxLen, zi0] <;> omega) | decide) only [q_r, zam, zac, ixO, zai, za6, ↓reduceIte, and_true, Int.toNat_natCast, Nat.reduceEqDiff, iD, Nat.reduceAdd, List.length_map, hx1, jow, hgs, zhz, zbk, zcj, zck, zcm, zci, zcn, zb4, ze4, zus]
     refine hK16 _ _ ?_
     refine zab hp zad hc rfl fun K17 hK17 => ?_
     simp -dsimp -implicitDefEqProofs (disch := first | assumption | omega | (simp [maxLen, zi0] <;> omega) | decide) only [q_r, zam, zac, ixO, zai, za6, ↓reduceIte, and_true, Int.toNat_natCast, Nat.reduceEqDiff, iD, Nat.reduceAdd, List.length_map, hx1, jtp, hgs, zhz, zbk, zcj, zck, zcm, zci, zcn, zco, ze4, zus]
     refine hK17 _ _ ?_
     refine zbs hp zad hc rfl fun K18 hK18 => ?_
     simp -dsimp -implicitDefEqProofs (disch := first | assumption | omega | (simp [maxLen, zi0] <;> omega) | decide) only [q_r, zam, zac, ixO, zai, za6, ↓reduceIte, and_true, Int.toNat_natCast, Nat.reduceEqDiff, iD, Nat.reduceAdd, List.length_map, hx1, jtq, hgs, zhz, zbk, zcj, zck, zcm, zci, zcn, zdd, ze4, zus]
     refine hK18 _ _ (hK14 _ _ ?_)
     refine zbs hp zad hc rfl fun K19 hK19 => ?_
     simp -dsimp -implicitDefEqProofs (disch := first | omega | decide) only [q_r, ↓reduceIte, Nat.reduceEqDiff]
     refine hK19 _ _ ⟨_, _, _, ?_, ⟨k - 1, (M.set (num us s.l) true).set (num us s.h) true, U.set s.v true, ⟨hinv.take hr hV hsf h2 hkn (by rw [← hks]; exact hm), by omega, by omega⟩, rfl, rfl, rfl⟩, ?_⟩
     ·first | omega | (simp only [List.length_cons]; omega) | (dsimp only; omega)
     ·refine Rt.end (zaa (zaa (zaa (zaa (zaa (zae _) rfl) rfl) rfl) rfl) rfl) ?_
      rfl
    ·have hm : nth M k.toNat = false := by simpa using ht
     refine zan (hK14 _ _ ?_)
     refine zbs hp zad hc rfl fun K20 hK20 => ?_
     simp -dsimp -implicitDefEqProofs (disch := first | omega | decide) only [q_r, ↓reduceIte, Nat.reduceEqDiff]
     refine hK20 _ _ ⟨_, _, _, ?_, ⟨k - 1, M, U, ⟨hinv.skip hm, by omega, by omega⟩, rfl, rfl, rfl⟩, ?_⟩
     ·first | omega | (simp only [List.length_cons]; omega) | (dsimp only; omega)
     ·refine Rt.end (zaa (zaa (zaa (zaa (zaa (zae _) rfl) rfl) rfl) rfl) rfl) ?_
      rfl
   ·have hk2 : k < 2 := by simp at ht; omega
    have hvars := hinv.vars hr hti hk2
    have hlu := hinv.lu
    refine zbd (hK10 _ _ ?_)
    refine zaf fun K21 hK21 => ?_
    refine zab hp zad hc rfl fun K22 hK22 => ?_
    simp -dsimp -implicitDefEqProofs (disch := first | omega | decide) only [q_r]
    refine hK22 _ _ ?_
    refine zaq ?_
    refine za4 hp (fun τ' H' mm => ∃ (i : Nat), (i ≤ 1000) ∧ mm = 1000 - i ∧ H' = [.cells (avs (zdp (zdl us) rs)), .cells (avs ((zwh (zb5 us node) i).map iD)), .cells (avs (U.map oD))] ∧ τ' = frL [(5, .os 1 1 0 (zwh (zb5 us node) i).length), (7, .os 1 2 0 1000), (9, .d (iD i))]) (1000) ?_ ⟨0, Nat.zero_le _, rfl, rfl, rfl⟩ ?_
    ·refine Rt.trans (Rt.gc (keep := [0,1,3]) (by decide) (by decide) (by simp [])) ?_
     refine Rt.end (zaa (zaa (zaa (zae _) rfl) rfl) rfl) ?_
     simp only [gcH, zbb, zap, zcb, gcV, za2, zav, List.map_cons, List.map_nil, List.getD_cons_zero, List.getD_cons_succ, zdp]; rfl
    rintro τ' H' mm ⟨i, hi, rfl, rfl, rfl⟩
    refine zaf fun K23 hK23 => ?_
    refine zab hp zad hc rfl fun K24 hK24 => ?_
    simp -dsimp -implicitDefEqProofs (disch := first | assumption | omega | (simp [maxLen, zi0] <;> omega) | decide) only [q_r, zc1, zar, ↓reduceIte, Nat.reduceEqDiff, iD, zdp, ze4]
    refine hK24 _ _ ?_
    refine zag rfl (fun ht => ?_) (fun ht => ?_)
    ·have hil : i < 1000 := by simp at ht; omega
     have hwl := jgb (zb5 us node) i
     have hws := jml (zb5 us node) i
     have hvi := hvars i
     refine zan (hK23 _ _ ?_)
     refine zaf fun K25 hK25 => ?_
     refine zaq ?_
     refine zab hp zad hc rfl fun K26 hK26 => ?_
     simp -dsimp -implicitDefEqProofs (disch := first | assumption | omega | (simp [maxLen, zi0] <;> omega) | decide) only [q_r, zam, ixO, zai, ↓reduceIte, and_true, Int.toNat_natCast, Nat.reduceEqDiff, oD, Nat.reduceAdd, ze4, zus, jep]
     refine hK26 _ _ ?_
     refine zag rfl (fun ht => ?_) (fun ht => ?_)
     ·have hin : i ∈ (zb5 us node).vs := by rw [hvi] at ht; simpa using ht
      rw [if_pos hin] at hws
      refine zbs hp zad hc rfl fun K27 hK27 => ?_
      simp -dsimp -implicitDefEqProofs (disch := first | assumption | omega | (simp [maxLen, zi0] <;> omega) | decide) only [q_r, zau, zb0, zic, ↓reduceIte, List.append_nil, List.replicate_zero, List.replicate_succ, Nat.reduceEqDiff, List.drop_zero, Nat.reduceAdd, zau, List.length_map, zgb]
      refine hK27 _ _ (hK25 _ _ ?_)
      refine zbs hp zad hc rfl fun K28 hK28 => ?_
      simp -dsimp -implicitDefEqProofs (disch := first | omega | decide) only [q_r, ↓reduceIte, Nat.reduceEqDiff]
      refine hK28 _ _ ⟨_, _, _, ?_, ⟨i + 1, by omega, rfl, rfl, rfl⟩, ?_⟩
      ·first | omega | (simp only [List.length_cons]; omega) | (dsimp only; omega)
      ·refine Rt.trans (Rt.gc (keep := [0,4,2]) (by decide) (by decide) (by simp [])) ?_
       refine Rt.end (zaa (zaa (zaa (zae _) rfl) rfl) (by first | rfl | (simp [frL, gcV, zcp]; done) | simp [frL, gcV, zcp, *])) ?_
       simp only [gcH, zbb, zap, zcb, gcV, za2, zav, List.map_cons, List.map_nil, List.getD_cons_zero, List.getD_cons_succ, zdp]; rw [hws]; simp [iD]
     ·have hin : i ∉ (zb5 us node).vs := by rw [hvi] at ht; simpa using ht
      rw [if_neg hin] at hws
      refine zan (hK25 _ _ ?_)
      refine zbs hp zad hc rfl fun K29 hK29 => ?_
      simp -dsimp -implicitDefEqProofs (disch := first | assumption | omega | (simp [maxLen, zi0] <;> omega) | decide) only [q_r, ↓reduceIte, Nat.reduceEqDiff]
      refine hK29 _ _ ⟨_, _, _, ?_, ⟨i + 1, by omega, rfl, rfl, rfl⟩, ?_⟩
      ·first | omega | (simp only [List.length_cons]; omega) | (dsimp only; omega)
      ·refine Rt.end (zaa (zaa (zaa (zae _) rfl) rfl) (by first | rfl | (simp [frL]; done) | simp [frL, *])) ?_
       rw [hws]; rfl
    ·have hie : i = 1000 := by simp at ht; omega
     refine zbd (hK21 _ _ ?_)
     refine zab hp zad hc rfl fun K30 hK30 => ?_
     simp -dsimp -implicitDefEqProofs (disch := first | assumption | omega | (simp [maxLen, zi0] <;> omega) | decide) only [q_r, ↓reduceIte, Nat.reduceEqDiff]
     refine hK30 _ _ ?_
     refine zao ?_
     show zaj _ _ = _
     simp (disch := first | assumption | omega | (simp [maxLen, zi0] <;> omega) | decide) only [zaj, zct, zce, zbt, zbl, zcg, Nat.reduceAdd, Nat.zero_add, zax, zpg, zat, ↓reduceIte, Option.map_some, Option.bind_some, Nat.mul_one, List.getElem?_cons_zero, List.getElem?_cons_succ, List.length_cons, List.length_nil, zay]
     unfold zwc
     rw [hx, if_pos rfl, hie]; rfl
end Go.Proofs.Ytgfnpfchdlcoeaa

/- The reference's questions: what may be asked, levels. -/
set_option linter.unusedVariables false
set_option linter.unusedSimpArgs false
set_option maxRecDepth 100000
set_option maxHeartbeats 4000000
namespace Go.Proofs.Ytgfnpfchdlcoeaa
open Go Go.RowKit
theorem zo3 (V : Nat) (us : List T) (rs : List Nat) (hr : RowOk V us) (hV : V ≤ 1000) (hul : us.length ≤ 3000) (node n : Int) : zbi Try.prog 47 [zfp (zdl us) rs, iD node, iD n] (.d (oD (zh3 us node n))) := by
 have hel := zbc us
 refine za8 (fn := Try.f47) (by kernel_rfl) Try.func47 rfl (Nat.le_of_ble_eq_true rfl) fun c hc hp => ?_
 refine zba (τ' := frL [(0, .d (zfp (zdl us) rs)), (1, .d (iD node)), (2, .d (iD n))]) (zaa (zaa (zaa (zae _) rfl) rfl) rfl) ?_
 refine zab hp zad hc rfl fun K1 hK1 => ?_
 simp -dsimp -implicitDefEqProofs (disch := first | omega | decide) only [q_r, zau, zb0, ↓reduceIte, D.one, iD, zau, zfp, zdp]
 refine hK1 _ _ ?_
 refine zaf fun K2 hK2 => ?_
 refine zab hp zad hc rfl fun K3 hK3 => ?_
 rcases (show node < 0 ∨ (0 ≤ node ∧ 2 + (us.length : Int) ≤ node) ∨ (0 ≤ node ∧ node < 2 + (us.length : Int) ∧ n < 0) ∨ (0 ≤ node ∧ node < 2 + (us.length : Int) ∧ 0 ≤ n ∧ 60 < n) ∨ (0 ≤ node ∧ node < 2 + (us.length : Int) ∧ 0 ≤ n ∧ n ≤ 60) by omega) with q | ⟨q, q'⟩ | ⟨q, q', p1⟩ | ⟨q, q', p1, p2⟩ | ⟨q, q', p1, p2⟩
 ·have q1 : decide (node < 0) = true := by simp; omega
  have q2 := q1
  have q3 := q1
  have q4 := q1
  have hx : zh3 us node n = false := by unfold zh3 zd5; rw [decide_eq_false (p := 0 ≤ node) (by omega)]; rfl
  simp -dsimp -implicitDefEqProofs (disch := first | omega | decide) only [q_r, ↓reduceIte, Nat.reduceEqDiff, q1]
  refine hK3 _ _ ?_
  refine zag rfl (fun ht => ?_) (fun ht => ?_)
  ·refine zab hp zad hc rfl fun K4 hK4 => ?_
   simp -dsimp -implicitDefEqProofs (disch := first | omega | decide) only [q_r]
   refine hK4 _ _ ?_
   refine zao ?_
   show zaj _ _ = _
   simp (disch := first | omega | decide) only [zaj, zct, za1, Nat.zero_add, D.fix, zat, ↓reduceIte, Option.map_some, List.length_cons, List.length_nil, oD]
   rw [hx]
  ·cases ht
 ·have q1 : decide (node < 0) = false := by simp; omega
  have q2 : decide (2 + ((zdl us).length : Int) ≤ node) = true := by simp [hel]; omega
  have q3 := q1
  have q4 := q1
  have hx : zh3 us node n = false := by unfold zh3 zd5; rw [decide_eq_false (p := node < 2 + (us.length : Int)) (by omega)]; simp
  simp -dsimp -implicitDefEqProofs (disch := first | omega | decide) only [q_r, zam, zac, zc1, zar, ↓reduceIte, Nat.reduceEqDiff, q1, q2, zbk, zcj, zck, zcm]
  refine hK3 _ _ ?_
  refine zag rfl (fun ht => ?_) (fun ht => ?_)
  ·refine zab hp zad hc rfl fun K5 hK5 => ?_
   simp -dsimp -implicitDefEqProofs (disch := first | omega | decide) only [q_r]
   refine hK5 _ _ ?_
   refine zao ?_
   show zaj _ _ = _
   simp (disch := first | omega | decide) only [zaj, zct, za1, Nat.zero_add, D.fix, zat, ↓reduceIte, Option.map_some, List.length_cons, List.length_nil, oD]
   rw [hx]
  ·cases ht
 ·have q1 : decide (node < 0) = false := by simp; omega
  have q2 : decide (2 + ((zdl us).length : Int) ≤ node) = false := by simp [hel]; omega
  have q3 : decide (n < 0) = true := by simp; omega
  have q4 := q1
  have hx : zh3 us node n = false := by unfold zh3; rw [decide_eq_false (p := 0 ≤ n) (by omega)]; simp
  simp -dsimp -implicitDefEqProofs (disch := first | omega | decide) only [q_r, zam, zac, zc1, zar, ↓reduceIte, Nat.reduceEqDiff, q1, q2, q3, zbk, zcj, zck, zcm]
  refine hK3 _ _ ?_
  refine zag rfl (fun ht => ?_) (fun ht => ?_)
  ·refine zab hp zad hc rfl fun K6 hK6 => ?_
   simp -dsimp -implicitDefEqProofs (disch := first | omega | decide) only [q_r]
   refine hK6 _ _ ?_
   refine zao ?_
   show zaj _ _ = _
   simp (disch := first | omega | decide) only [zaj, zct, za1, Nat.zero_add, D.fix, zat, ↓reduceIte, Option.map_some, List.length_cons, List.length_nil, oD]
   rw [hx]
  ·cases ht
 ·have q1 : decide (node < 0) = false := by simp; omega
  have q2 : decide (2 + ((zdl us).length : Int) ≤ node) = false := by simp [hel]; omega
  have q3 : decide (n < 0) = false := by simp; omega
  have q4 : decide (60 < n) = true := by simp; omega
  have hx : zh3 us node n = false := by unfold zh3; rw [decide_eq_false (p := n ≤ 60) (by omega)]; simp
  simp -dsimp -implicitDefEqProofs (disch := first | omega | decide) only [q_r, zam, zac, zc1, zar, ↓reduceIte, Nat.reduceEqDiff, q1, q2, q3, q4, zbk, zcj, zck, zcm]
  refine hK3 _ _ ?_
  refine zag rfl (fun ht => ?_) (fun ht => ?_)
  ·refine zab hp zad hc rfl fun K7 hK7 => ?_
   simp -dsimp -implicitDefEqProofs (disch := first | omega | decide) only [q_r]
   refine hK7 _ _ ?_
   refine zao ?_
   show zaj _ _ = _
   simp (disch := first | omega | decide) only [zaj, zct, za1, Nat.zero_add, D.fix, zat, ↓reduceIte, Option.map_some, List.length_cons, List.length_nil, oD]
   rw [hx]
  ·cases ht
 ·have q1 : decide (node < 0) = false := by simp; omega
  have q2 : decide (2 + ((zdl us).length : Int) ≤ node) = false := by simp [hel]; omega
  have q3 : decide (n < 0) = false := by simp; omega
  have q4 : decide (60 < n) = false := by simp; omega
  have hnb : zd5 us node = true := by unfold zd5; rw [decide_eq_true q, decide_eq_true q']; rfl
  have hx : zh3 us node n = (ziz (zb5 us node)).all fun x => decide (x < n) := by unfold zh3; rw [hnb, decide_eq_true p1, decide_eq_true p2]; simp
  have hsu : zwc us node = ziz (zb5 us node) := by unfold zwc; rw [if_pos hnb]
  have hsl := zuc (zb5 us node)
  have hsp := zmj (zb5 us node)
  simp -dsimp -implicitDefEqProofs (disch := first | omega | decide) only [q_r, zam, zac, zc1, zar, ↓reduceIte, Nat.reduceEqDiff, q1, q2, q3, q4, zbk, zcj, zck, zcm]
  refine hK3 _ _ ?_
  refine zag rfl (fun ht => ?_) (fun ht => ?_)
  ·cases ht
  ·refine zan (hK2 _ _ ?_)
   refine zab hp zad hc rfl fun K8 hK8 => ?_
   simp -dsimp -implicitDefEqProofs (disch := first | omega | decide) only [q_r, zam, ↓reduceIte, Nat.reduceEqDiff, zc8, zds]
   refine zb9 (zs1 V us rs hr hV hul node) rfl ?_
   simp -dsimp -implicitDefEqProofs (disch := first | omega | decide) only [q_r, ↓reduceIte, zay]
   rw [hsu]
   obtain ⟨sl, hsd⟩ : ∃ sl, ziz (zb5 us node) = sl := ⟨_, rfl⟩
   rw [hsd] at hx hsl hsp ⊢
   refine hK8 _ _ ?_
   refine zab hp zad hc rfl fun K9 hK9 => ?_
   by_cases h0 : sl = []
   ·have w1 : ((sl.length : Int) == 0) = true := by rw [h0]; rfl
    have w2 := w1
    simp -dsimp -implicitDefEqProofs (disch := first | omega | decide) only [q_r, zc1, zar, ↓reduceIte, Nat.reduceEqDiff, w1, zc3]
    refine hK9 _ _ ?_
    refine zao ?_
    show zaj _ _ = _
    simp (disch := first | omega | decide) only [zaj, zct, za1, Nat.zero_add, D.fix, zat, ↓reduceIte, Option.map_some, List.length_cons, List.length_nil, oD]
    rw [hx, h0]; rfl
   ·have hpos : 0 < sl.length := List.length_pos_iff.2 h0
    have w1 : ((sl.length : Int) == 0) = false := by simp; omega
    have w2 : ((sl.length : Int) - 1).toNat = sl.length - 1 := by omega
    simp -dsimp -implicitDefEqProofs (disch := first | omega | decide) only [q_r, zam, ixO, zai, zc1, zar, ↓reduceIte, Nat.reduceEqDiff, iD, w1, w2, zc3, zci, zcn]
    refine hK9 _ _ ?_
    refine zao ?_
    show zaj _ _ = _
    simp (disch := first | omega | decide) only [zaj, zct, za1, Nat.zero_add, D.fix, zat, ↓reduceIte, Option.map_some, List.length_cons, List.length_nil, oD]
    rw [hx, zxr hsp h0]
def jqd (n : Int) (t : T) : Int := if t.lf then n else (t.v : Nat)
theorem zx4 (V : Nat) (us : List T) (rs : List Nat) (hr : RowOk V us) (hul : us.length ≤ 3000) (t : T) (ht0 : t ∈ zbn us) (node n : Int) (hn : node = (num us t : Nat)) : zbi Try.prog 51 [zfp (zdl us) rs, iD node, iD n] (.d (iD (jqd n t))) := by
 have hel := zbc us
 have hlt := zdn ht0
 refine za8 (fn := Try.f51) (by kernel_rfl) Try.func51 rfl (Nat.le_of_ble_eq_true rfl) fun c hc hp => ?_
 refine zba (τ' := frL [(0, .d (zfp (zdl us) rs)), (1, .d (iD node)), (2, .d (iD n))]) (zaa (zaa (zaa (zae _) rfl) rfl) rfl) ?_
 refine zab hp zad hc rfl fun K1 hK1 => ?_
 simp -dsimp -implicitDefEqProofs (disch := first | omega | decide) only [q_r, zau, zb0, ↓reduceIte, D.one, iD, zau, zfp, zdp]
 refine hK1 _ _ ?_
 refine zaf fun K2 hK2 => ?_
 refine zab hp zad hc rfl fun K3 hK3 => ?_
 rcases zdj t with q | q
 ·have h2 := zmi (us := us) q
  have q1 : decide (node < 2) = true := by simp; omega
  simp -dsimp -implicitDefEqProofs (disch := first | omega | decide) only [q_r, ↓reduceIte, Nat.reduceEqDiff, q1]
  refine hK3 _ _ ?_
  refine zag rfl (fun ht => ?_) (fun ht => ?_)
  ·refine zab hp zad hc rfl fun K4 hK4 => ?_
   simp -dsimp -implicitDefEqProofs (disch := first | omega | decide) only [q_r, ↓reduceIte, Nat.reduceEqDiff]
   refine hK4 _ _ ?_
   refine zao ?_
   show zaj _ _ = _
   simp (disch := first | omega | decide) only [zaj, zct, za1, Nat.zero_add, D.fix, zat, ↓reduceIte, Option.map_some, List.length_cons, List.length_nil, iD]
   unfold jqd
   rw [q]; rfl
  ·cases ht
 ·have h2 := zfo hr ht0 q
  have q1 : decide (node < 2) = false := by simp; omega
  have hgs := zgp hr ht0 q
  have hx1 : (node - 2).toNat = num us t - 2 := by omega
  simp -dsimp -implicitDefEqProofs (disch := first | omega | decide) only [q_r, ↓reduceIte, Nat.reduceEqDiff, q1]
  refine hK3 _ _ ?_
  refine zag rfl (fun ht => ?_) (fun ht => ?_)
  ·cases ht
  ·refine zan (hK2 _ _ ?_)
   refine zab hp zad hc rfl fun K5 hK5 => ?_
   simp -dsimp -implicitDefEqProofs (disch := first | omega | decide) only [q_r, zam, zac, ixO, zai, ↓reduceIte, Nat.reduceEqDiff, iD, hx1, jow, hgs, zhz, zbk, zcj, zck, zcm, zci, zcn, zb4]
   refine hK5 _ _ ?_
   refine zao ?_
   show zaj _ _ = _
   simp (disch := first | omega | decide) only [zaj, zct, za1, Nat.zero_add, D.fix, zat, ↓reduceIte, Option.map_some, List.length_cons, List.length_nil, iD]
   unfold jqd
   rw [q]; rfl
end Go.Proofs.Ytgfnpfchdlcoeaa
