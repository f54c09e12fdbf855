/- Evaluation and support of a diagram. -/
import Derived.Test.YtgfnpfchdlcoeaaQr
import Derived.Test.YtgfnpfchdlcoeaaQ
import Derived.Test.YtgfnpfchdlcoeaaCi
import Derived.Test.YtgfnpfchdlcoeaaSa
set_option linter.unusedVariables false
set_option linter.unusedSimpArgs false
set_option maxRecDepth 100000
set_option maxHeartbeats 4000000
namespace Go.Proofs.Ytgfnpfchdlcoeaa
open Go Go.RowKit
def zd5 (us : List T) (node : Int) : Bool := decide (0 ≤ node) && decide (node < 2 + us.length)
def zb5 (us : List T) (node : Int) : T := nth (zbn us) node.toNat
def atB (l : List Bool) (v : Nat) : Bool := decide (v < l.length) && nth l v
theorem jpd (us : List T) : jen us = zhz us (.leaf false) :: zhz us (.leaf true) :: zdl us := rfl
theorem zub {us : List T} {t : T} (h : t ∈ zbn us) (h2 : t.lf = false) : t ∈ us := by
 simp only [zbn, List.mem_cons] at h
 rcases h with rfl | rfl | h
 ·cases h2
 ·cases h2
 ·exact h
theorem zmi {us : List T} {t : T} (h : t.lf = true) : num us t < 2 := by
 cases t with
 | leaf b =>
   cases b
   ·rw [zk0]; omega
   ·rw [znq]; omega
 | node v l r => cases h
theorem jlu {V : Nat} {us : List T} (hr : RowOk V us) {t : T} (h : t ∈ us) : t.lf = false := by
 obtain ⟨v, l, r, rfl⟩ := hr.node h; rfl
theorem zfo {V : Nat} {us : List T} (hr : RowOk V us) {t : T} (h : t ∈ zbn us) (h2 : t.lf = false) : 2 ≤ num us t := by
 have hn : t ≠ .leaf false := fun e => by rw [e] at h2; cases h2
 have hn' : t ≠ .leaf true := fun e => by rw [e] at h2; cases h2
 have h0 : num us t ≠ 0 := fun e => hn (zd8 h (zk1 us) (e.trans (zk0 us).symm))
 have h1 : num us t ≠ 1 := fun e => hn' (zd8 h (ztr us) (e.trans (znq us).symm))
 omega
theorem zgp {V : Nat} {us : List T} (hr : RowOk V us) {t : T} (h : t ∈ zbn us) (h2 : t.lf = false) : nth (zdl us) (num us t - 2) = zhz us t := by
 have h3 := zky h
 have h4 := zfo hr h h2
 obtain ⟨k, hk⟩ : ∃ k, num us t = k + 2 := ⟨num us t - 2, by omega⟩
 rw [hk, jpd] at h3
 rw [hk, Nat.add_sub_cancel]
 exact h3
theorem zdj (t : T) : t.lf = true ∨ t.lf = false := by cases t.lf <;> simp
theorem zet {t : T} (h : t.lf = false) : ∃ v l r, t = .node v l r := by
 cases t with
 | leaf b => cases h
 | node v l r => exact ⟨v, l, r, rfl⟩
theorem ze1 {V : Nat} {us : List T} (hr : RowOk V us) {k : Nat} (h : k < 2 + us.length) : num us (nth (zbn us) k) = k := by
 have hl : k < (zbn us).length := by rw [zf6]; exact h
 rw [zcd hl]
 exact List.Nodup.idxOf_getElem hr.nd k hl
theorem zlr {us : List T} {k : Nat} (h : k < 2 + us.length) : nth (zbn us) k ∈ zbn us := zcf (by rw [zf6]; exact h)
def evB (us : List T) (node : Int) (l : List Bool) : Bool := zd5 us node && (zb5 us node).eval (atB l)
theorem jfe (V : Nat) (us : List T) (rs : List Nat) (hr : RowOk V us) (hV : V ≤ 1000) (hul : us.length ≤ zed) (node : Int) (l : List Bool) (hl : l.length ≤ maxLen) : zbi Try.prog 22 [zfp (zdl us) rs, iD node, zas l] (.d (oD (evB us node l))) := by
 unfold maxLen at hl
 unfold zed at hul
 have hel := zbc us
 refine za8 (fn := Try.f22) (by kernel_rfl) Try.func22 rfl (Nat.le_of_ble_eq_true rfl) fun c hc hp => ?_
 refine zba (τ' := frL [(0, .d (zfp (zdl us) rs)), (1, .d (iD node)), (2, .d (zas l))]) (zaa (zaa (zaa (zae _) rfl) rfl) rfl) ?_
 refine zab hp zad hc rfl fun K1 hK1 => ?_
 simp -dsimp -implicitDefEqProofs (disch := first | omega | decide) only [q_r, zau, zb0, ↓reduceIte, D.one, iD, zas, zau, zfp, zdp]
 refine hK1 _ _ ?_
 refine zaf fun K2 hK2 => ?_
 refine zab hp zad hc rfl fun K3 hK3 => ?_
 rcases (show node < 0 ∨ (0 ≤ node ∧ 2 + (us.length : Int) ≤ node) ∨ (0 ≤ node ∧ node < 2 + (us.length : Int)) by omega) with q | ⟨q, q'⟩ | ⟨q, q'⟩
 ·have q1 : decide (node < 0) = true := by simp; omega
  have q2 := q1
  have hx : zd5 us node = false := by unfold zd5; rw [decide_eq_false (by omega)]; rfl
  simp -dsimp -implicitDefEqProofs (disch := first | omega | decide) only [q_r, ↓reduceIte, Nat.reduceEqDiff, q1]
  refine hK3 _ _ ?_
  refine zag rfl (fun ht => ?_) (fun ht => ?_)
  ·refine zab hp zad hc rfl fun K4 hK4 => ?_
   simp -dsimp -implicitDefEqProofs (disch := first | omega | decide) only [q_r]
   refine hK4 _ _ ?_
   refine zao ?_
   show zaj _ _ = _
   simp (disch := first | omega | decide) only [zaj, zct, za1, Nat.zero_add, D.fix, zat, ↓reduceIte, Option.map_some, List.length_cons, List.length_nil, oD]
   simp [evB, hx]
  ·cases ht
 ·have q1 : decide (node < 0) = false := by simp; omega
  have q2 : decide (2 + ((zdl us).length : Int) ≤ node) = true := by simp [hel]; omega
  have hx : zd5 us node = false := by unfold zd5; rw [decide_eq_false (p := node < 2 + (us.length : Int)) (by omega)]; simp
  simp -dsimp -implicitDefEqProofs (disch := first | omega | decide) only [q_r, zam, zac, zc1, zar, ↓reduceIte, Nat.reduceEqDiff, q1, q2, zbk, zcj, zck, zcm]
  refine hK3 _ _ ?_
  refine zag rfl (fun ht => ?_) (fun ht => ?_)
  ·refine zab hp zad hc rfl fun K5 hK5 => ?_
   simp -dsimp -implicitDefEqProofs (disch := first | omega | decide) only [q_r]
   refine hK5 _ _ ?_
   refine zao ?_
   show zaj _ _ = _
   simp (disch := first | omega | decide) only [zaj, zct, za1, Nat.zero_add, D.fix, zat, ↓reduceIte, Option.map_some, List.length_cons, List.length_nil, oD]
   simp [evB, hx]
  ·cases ht
 ·have q1 : decide (node < 0) = false := by simp; omega
  have q2 : decide (2 + ((zdl us).length : Int) ≤ node) = false := by simp [hel]; omega
  have hx : zd5 us node = true := by unfold zd5; rw [decide_eq_true q, decide_eq_true q']; rfl
  have hnt : (num us (zb5 us node) : Int) = node := by unfold zb5; rw [ze1 hr (k := node.toNat) (by omega)]; omega
  have hti := zlr (us := us) (k := node.toNat) (by omega)
  simp -dsimp -implicitDefEqProofs (disch := first | omega | decide) only [q_r, zam, zac, zc1, zar, ↓reduceIte, Nat.reduceEqDiff, q1, q2, zbk, zcj, zck, zcm]
  refine hK3 _ _ ?_
  refine zag rfl (fun ht => ?_) (fun ht => ?_)
  ·cases ht
  ·refine zan (hK2 _ _ ?_)
   refine zaf fun K6 hK6 => ?_
   refine zaq ?_
   refine za4 hp (fun τ' H' mm => ∃ (t : T), (t ∈ zbn us ∧ t.eval (atB l) = (zb5 us node).eval (atB l)) ∧ mm = t.sz ∧ H' = [.cells (avs (zdp (zdl us) rs))] ∧ τ' = frL [(1, .d (iD (num us t))), (2, .d (zas l)), (3, .op 0 0)]) ((zb5 us node).sz) ?_ ⟨zb5 us node, ⟨hti, rfl⟩, rfl, rfl, rfl⟩ ?_
   ·refine Rt.trans (Rt.gc (keep := [0]) (by decide) (by decide) (by simp [])) ?_
    refine Rt.end (zaa (zaa (zaa (zae _) rfl) rfl) (by first | rfl | (simp [frL, gcV, iD, hnt]; done) | simp [Fr.put, frL, gcV, fzV, zcp, iD, bD, uD, oD, zay, zas, zbm, zbr, zbp, zbq, zbc, hnt, *])) ?_
    simp only [gcH, zbb, zcb, gcV, za2, zav, List.map_cons, List.map_nil, List.getD_cons_zero, zdp]; first | done | rfl
   rintro τ' H' mm ⟨t, ⟨htf, hte⟩, rfl, rfl, rfl⟩
   refine zaf fun K7 hK7 => ?_
   refine zab hp zad hc rfl fun K8 hK8 => ?_
   simp -dsimp -implicitDefEqProofs (disch := first | omega | decide) only [q_r, ↓reduceIte, iD, zas, zdp]
   refine hK8 _ _ ?_
   refine zag rfl (fun ht => ?_) (fun ht => ?_)
   ·have h2 : t.lf = false := by
     rcases zdj t with h | h
     ·have := zmi (us := us) h; simp at ht; omega
     ·exact h
    obtain ⟨v, lo, hi, rfl⟩ := zet h2
    have h3 := zfo hr htf h2
    have hlt := zdn htf
    have hx1 : ((num us (.node v lo hi) : Int) - 2).toNat = num us (.node v lo hi) - 2 := by omega
    have hg := zgp hr htf h2
    obtain ⟨hcl, hch⟩ := hr.chf htf
    have hok := hr.okf htf
    refine zan (hK7 _ _ ?_)
    refine zaq ?_
    refine zab hp zad hc rfl fun K9 hK9 => ?_
    simp -dsimp -implicitDefEqProofs (disch := first | omega | decide) only [q_r, zau, zam, zac, ixO, zai, zb0, za6, ↓reduceIte, D.one, Value.oneCell', Nat.reduceEqDiff, iD, Nat.reduceAdd, zau, hx1, zme, hg, ndC, zhz, T.v, T.l, T.h, zbk, zcj, zck, zcm, zgn, zg4, znu]
    refine hK9 _ _ ?_
    refine zab hp zad hc rfl fun K10 hK10 => ?_
    by_cases hv : v < l.length
    ·have q5 : decide ((v : Int) < (l.length : Int)) = true := by simp; omega
     simp -dsimp -implicitDefEqProofs (disch := first | omega | decide) only [q_r, zam, zac, ixO, zai, zc1, zar, ↓reduceIte, Int.toNat_natCast, Nat.reduceEqDiff, oD, Nat.reduceAdd, q5, zb4, zci, zcn, ze4, zus, jep]
     refine hK10 _ _ ?_
     refine zag rfl (fun ht => ?_) (fun ht => ?_)
     ·have hav : atB l v = true := by unfold atB; rw [decide_eq_true hv, ht]; rfl
      refine zbs hp zad hc rfl fun K11 hK11 => ?_
      simp -dsimp -implicitDefEqProofs (disch := first | omega | decide) only [q_r, zam, zac, ↓reduceIte, Nat.reduceEqDiff, Nat.reduceAdd, zdd, zci, zcn]
      refine hK11 _ _ ⟨_, _, _, ?_, ⟨hi, ⟨hch, by rw [← hte]; show _ = if atB l v then _ else _; rw [hav]; rfl⟩, rfl, rfl, rfl⟩, ?_⟩
      ·first | omega | (simp only [List.length_cons]; omega) | (dsimp only; omega) | (simp only [T.sz]; omega)
      ·refine Rt.trans (Rt.gc (keep := [0]) (by decide) (by decide) (by simp [])) ?_
       refine Rt.end (zaa (zaa (zaa (zae _) rfl) rfl) rfl) ?_
       rfl
     ·have hav : atB l v = false := by unfold atB; rw [ht]; simp
      refine zbs hp zad hc rfl fun K12 hK12 => ?_
      simp -dsimp -implicitDefEqProofs (disch := first | omega | decide) only [q_r, zam, zac, ↓reduceIte, Nat.reduceEqDiff, Nat.reduceAdd, zco, zci, zcn]
      refine hK12 _ _ ⟨_, _, _, ?_, ⟨lo, ⟨hcl, by rw [← hte]; show _ = if atB l v then _ else _; rw [hav]; rfl⟩, rfl, rfl, rfl⟩, ?_⟩
      ·first | omega | (simp only [List.length_cons]; omega) | (dsimp only; omega) | (simp only [T.sz]; omega)
      ·refine Rt.trans (Rt.gc (keep := [0]) (by decide) (by decide) (by simp [])) ?_
       refine Rt.end (zaa (zaa (zaa (zae _) rfl) rfl) rfl) ?_
       rfl
    ·have q5 : decide ((v : Int) < (l.length : Int)) = false := by simp; omega
     simp -dsimp -implicitDefEqProofs (disch := first | omega | decide) only [q_r, zam, zac, zc1, zar, ↓reduceIte, Nat.reduceEqDiff, Nat.reduceAdd, q5, zb4, zci, zcn, ze4]
     refine hK10 _ _ ?_
     refine zag rfl (fun ht => ?_) (fun ht => ?_)
     ·cases ht
     ·have hav : atB l v = false := by unfold atB; rw [decide_eq_false hv]; rfl
      refine zbs hp zad hc rfl fun K13 hK13 => ?_
      simp -dsimp -implicitDefEqProofs (disch := first | omega | decide) only [q_r, zam, zac, ↓reduceIte, Nat.reduceEqDiff, Nat.reduceAdd, zco, zci, zcn]
      refine hK13 _ _ ⟨_, _, _, ?_, ⟨lo, ⟨hcl, by rw [← hte]; show _ = if atB l v then _ else _; rw [hav]; rfl⟩, rfl, rfl, rfl⟩, ?_⟩
      ·first | omega | (simp only [List.length_cons]; omega) | (dsimp only; omega) | (simp only [T.sz]; omega)
      ·refine Rt.trans (Rt.gc (keep := [0]) (by decide) (by decide) (by simp [])) ?_
       refine Rt.end (zaa (zaa (zaa (zae _) rfl) rfl) rfl) ?_
       rfl
   ·have h2 : t.lf = true := by
     rcases zdj t with h | h
     ·exact h
     ·have := zfo hr htf h; simp at ht; omega
    refine zbd (hK6 _ _ ?_)
    refine zab hp zad hc rfl fun K14 hK14 => ?_
    simp -dsimp -implicitDefEqProofs (disch := first | omega | decide) only [q_r, ↓reduceIte, Nat.reduceEqDiff]
    refine hK14 _ _ ?_
    refine zao ?_
    show zaj _ _ = _
    simp (disch := first | omega | decide) only [zaj, zct, za1, Nat.zero_add, D.fix, zat, ↓reduceIte, Option.map_some, List.length_cons, List.length_nil, oD]
    unfold evB
    rw [hx, ← hte]
    cases t with
    | leaf b => cases b <;> simp [T.eval, zk0, znq]
    | node v lo hi => cases h2
end Go.Proofs.Ytgfnpfchdlcoeaa
