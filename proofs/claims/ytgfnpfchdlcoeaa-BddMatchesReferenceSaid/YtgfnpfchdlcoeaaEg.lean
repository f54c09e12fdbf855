/- The reference's Eval. -/
import Derived.Test.YtgfnpfchdlcoeaaQr
import Derived.Test.YtgfnpfchdlcoeaaQ
import Derived.Test.YtgfnpfchdlcoeaaEd
set_option linter.unusedVariables false
set_option linter.unusedSimpArgs false
set_option maxRecDepth 100000
set_option maxHeartbeats 4000000
namespace Go.Proofs.Ytgfnpfchdlcoeaa
open Go Go.RowKit
theorem jmn (V : Nat) (us : List T) (rs : List Nat) (hr : RowOk V us) (hV : V ≤ 1000) (hul : us.length ≤ zed) (node : Int) (l : List Bool) (hl : l.length ≤ maxLen) : zbi Try.prog 23 [zfp (zdl us) rs, iD node, zas l] (.d (oD (evB us node l))) := by
 have hl0 := hl
 unfold maxLen at hl
 unfold zed at hul
 have hel := zbc us
 refine za8 (fn := Try.f23) (by kernel_rfl) Try.func23 rfl (Nat.le_of_ble_eq_true rfl) fun c hc hp => ?_
 refine zba (τ' := frL [(0, .d (zfp (zdl us) rs)), (1, .d (iD node)), (2, .d (zas l))]) (zaa (zaa (zaa (zae _) rfl) rfl) rfl) ?_
 refine zab hp zad hc rfl fun K1 hK1 => ?_
 simp -dsimp -implicitDefEqProofs (disch := first | omega | decide) only [q_r, zau, zb0, ↓reduceIte, D.one, iD, zas, zau, zfp, zdp]
 refine hK1 _ _ ?_
 refine zaf fun K2 hK2 => ?_
 refine zab hp zad hc rfl fun K3 hK3 => ?_
 rcases (show node < 0 ∨ (0 ≤ node ∧ 2 + (us.length : Int) ≤ node) ∨ (0 ≤ node ∧ node < 2 + (us.length : Int)) by omega) with q | ⟨q, q'⟩ | ⟨q, q'⟩
 ·have q1 : decide (node < 0) = true := by simp; omega
  have q2 := q1
  have hx : zd5 us node = false := by unfold zd5; rw [decide_eq_false (by omega)]; rfl
  simp -dsimp -implicitDefEqProofs (disch := first | omega | decide) only [q_r, ↓reduceIte, Nat.reduceEqDiff, q1]
  refine hK3 _ _ ?_
  refine zag rfl (fun ht => ?_) (fun ht => ?_)
  ·refine zab hp zad hc rfl fun K4 hK4 => ?_
   simp -dsimp -implicitDefEqProofs (disch := first | omega | decide) only [q_r]
   refine hK4 _ _ ?_
   refine zao ?_
   show zaj _ _ = _
   simp (disch := first | omega | decide) only [zaj, zct, za1, Nat.zero_add, D.fix, zat, ↓reduceIte, Option.map_some, List.length_cons, List.length_nil, oD]
   simp [evB, hx]
  ·cases ht
 ·have q1 : decide (node < 0) = false := by simp; omega
  have q2 : decide (2 + ((zdl us).length : Int) ≤ node) = true := by simp [hel]; omega
  have hx : zd5 us node = false := by unfold zd5; rw [decide_eq_false (p := node < 2 + (us.length : Int)) (by omega)]; simp
  simp -dsimp -implicitDefEqProofs (disch := first | omega | decide) only [q_r, zam, zac, zc1, zar, ↓reduceIte, Nat.reduceEqDiff, q1, q2, zbk, zcj, zck, zcm]
  refine hK3 _ _ ?_
  refine zag rfl (fun ht => ?_) (fun ht => ?_)
  ·refine zab hp zad hc rfl fun K5 hK5 => ?_
   simp -dsimp -implicitDefEqProofs (disch := first | omega | decide) only [q_r]
   refine hK5 _ _ ?_
   refine zao ?_
   show zaj _ _ = _
   simp (disch := first | omega | decide) only [zaj, zct, za1, Nat.zero_add, D.fix, zat, ↓reduceIte, Option.map_some, List.length_cons, List.length_nil, oD]
   simp [evB, hx]
  ·cases ht
 ·have q1 : decide (node < 0) = false := by simp; omega
  have q2 : decide (2 + ((zdl us).length : Int) ≤ node) = false := by simp [hel]; omega
  have hx : zd5 us node = true := by unfold zd5; rw [decide_eq_true q, decide_eq_true q']; rfl
  have hnt : (num us (zb5 us node) : Int) = node := by unfold zb5; rw [ze1 hr (k := node.toNat) (by omega)]; omega
  have hti := zlr (us := us) (k := node.toNat) (by omega)
  simp -dsimp -implicitDefEqProofs (disch := first | omega | decide) only [q_r, zam, zac, zc1, zar, ↓reduceIte, Nat.reduceEqDiff, q1, q2, zbk, zcj, zck, zcm]
  refine hK3 _ _ ?_
  refine zag rfl (fun ht => ?_) (fun ht => ?_)
  ·cases ht
  ·refine zan (hK2 _ _ ?_)
   refine zaf fun K6 hK6 => ?_
   refine zaq ?_
   refine za4 hp (fun τ' H' mm => ∃ (t : T), (t ∈ zbn us ∧ t.eval (atB l) = (zb5 us node).eval (atB l)) ∧ mm = t.sz ∧ H' = [.cells (avs (zdp (zdl us) rs))] ∧ τ' = frL [(1, .d (iD (num us t))), (2, .d (zas l)), (3, .op 0 0)]) ((zb5 us node).sz) ?_ ⟨zb5 us node, ⟨hti, rfl⟩, rfl, rfl, rfl⟩ ?_
   ·refine Rt.trans (Rt.gc (keep := [0]) (by decide) (by decide) (by simp [])) ?_
    refine Rt.end (zaa (zaa (zaa (zae _) rfl) rfl) (by first | rfl | (simp [frL, gcV, iD, hnt]; done) | simp [Fr.put, frL, gcV, fzV, zcp, iD, bD, uD, oD, zay, zas, zbm, zbr, zbp, zbq, zbc, hnt, *])) ?_
    simp only [gcH, zbb, zcb, gcV, za2, zav, List.map_cons, List.map_nil, List.getD_cons_zero, zdp]; first | done | rfl
   rintro τ' H' mm ⟨t, ⟨htf, hte⟩, rfl, rfl, rfl⟩
   refine zaf fun K7 hK7 => ?_
   refine zab hp zad hc rfl fun K8 hK8 => ?_
   simp -dsimp -implicitDefEqProofs (disch := first | omega | decide) only [q_r, ↓reduceIte, iD, zas, zdp]
   refine hK8 _ _ ?_
   refine zag rfl (fun ht => ?_) (fun ht => ?_)
   ·have h2 : t.lf = false := by
     rcases zdj t with h | h
     ·have := zmi (us := us) h; simp at ht; omega
     ·exact h
    obtain ⟨v, lo, hi, rfl⟩ := zet h2
    have h3 := zfo hr htf h2
    have hlt := zdn htf
    have hx1 : ((num us (.node v lo hi) : Int) - 2).toNat = num us (.node v lo hi) - 2 := by omega
    have hg := zgp hr htf h2
    obtain ⟨hcl, hch⟩ := hr.chf htf
    have hok := hr.okf htf
    have hvV := hok.2.1
    refine zan (hK7 _ _ ?_)
    refine zaq ?_
    refine zab hp zad hc rfl fun K9 hK9 => ?_
    simp -dsimp -implicitDefEqProofs (disch := first | omega | decide) only [q_r, zau, zam, zac, ixO, zai, zb0, za6, ↓reduceIte, D.one, Value.oneCell', Nat.reduceEqDiff, iD, Nat.reduceAdd, zau, hx1, zme, hg, ndC, zhz, T.v, T.l, T.h, zbk, zcj, zck, zcm, zgn, zg4, znu]
    refine hK9 _ _ ?_
    refine zab hp zad hc rfl fun K10 hK10 => ?_
    simp -dsimp -implicitDefEqProofs (disch := first | omega | decide) only [q_r, zam, zac, ↓reduceIte, Nat.reduceAdd, zco, zci, zcn]
    refine hK10 _ _ ?_
    refine zab hp zad hc rfl fun K11 hK11 => ?_
    simp -dsimp -implicitDefEqProofs (disch := first | omega | decide) only [q_r, zam, zac, ↓reduceIte, Nat.reduceEqDiff, Nat.reduceAdd, zb4, zci, zcn]
    refine zb9 (jry l v hl0 (by omega)) rfl ?_
    simp -dsimp -implicitDefEqProofs (disch := first | omega | decide) only [q_r, oD]
    refine hK11 _ _ ?_
    refine zag rfl (fun ht => ?_) (fun ht => ?_)
    ·refine zbs hp zad hc rfl fun K12 hK12 => ?_
     simp -dsimp -implicitDefEqProofs (disch := first | omega | decide) only [q_r, zam, zac, ↓reduceIte, Nat.reduceEqDiff, Nat.reduceAdd, zdd, zci, zcn]
     refine hK12 _ _ ⟨_, _, _, ?_, ⟨hi, ⟨hch, by rw [← hte]; show _ = if atB l v then _ else _; rw [ht]; rfl⟩, rfl, rfl, rfl⟩, ?_⟩
     ·first | omega | (simp only [List.length_cons]; omega) | (dsimp only; omega) | (simp only [T.sz]; omega)
     ·refine Rt.trans (Rt.gc (keep := [0]) (by decide) (by decide) (by simp [])) ?_
      refine Rt.end (zaa (zaa (zaa (zae _) rfl) rfl) rfl) ?_
      rfl
    ·refine zan ⟨_, _, _, ?_, ⟨lo, ⟨hcl, by rw [← hte]; show _ = if atB l v then _ else _; rw [ht]; rfl⟩, rfl, rfl, rfl⟩, ?_⟩
     ·first | omega | (simp only [List.length_cons]; omega) | (dsimp only; omega) | (simp only [T.sz]; omega)
     ·refine Rt.trans (Rt.gc (keep := [0]) (by decide) (by decide) (by simp [])) ?_
      refine Rt.end (zaa (zaa (zaa (zae _) rfl) rfl) rfl) ?_
      rfl
   ·have h2 : t.lf = true := by
     rcases zdj t with h | h
     ·exact h
     ·have := zfo hr htf h; simp at ht; omega
    refine zbd (hK6 _ _ ?_)
    refine zab hp zad hc rfl fun K13 hK13 => ?_
    simp -dsimp -implicitDefEqProofs (disch := first | omega | decide) only [q_r, ↓reduceIte, Nat.reduceEqDiff]
    refine hK13 _ _ ?_
    refine zao ?_
    show zaj _ _ = _
    simp (disch := first | omega | decide) only [zaj, zct, za1, Nat.zero_add, D.fix, zat, ↓reduceIte, Option.map_some, List.length_cons, List.length_nil, oD]
    unfold evB
    rw [hx, ← hte]
    cases t with
    | leaf b => cases b <;> simp [T.eval, zk0, znq]
    | node v lo hi => cases h2
end Go.Proofs.Ytgfnpfchdlcoeaa
