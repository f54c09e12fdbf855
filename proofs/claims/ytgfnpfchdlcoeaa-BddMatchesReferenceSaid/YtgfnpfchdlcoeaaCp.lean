/- The reference's Valid. -/
import Derived.Test.YtgfnpfchdlcoeaaQr
import Derived.Test.YtgfnpfchdlcoeaaQ
import Derived.Test.YtgfnpfchdlcoeaaCo
set_option linter.unusedVariables false
set_option linter.unusedSimpArgs false
set_option maxRecDepth 100000
set_option maxHeartbeats 4000000
namespace Go.Proofs.Ytgfnpfchdlcoeaa
open Go Go.RowKit
structure VBs (ns : List NI) (i : Nat) : Prop where
 v0 : 0 ≤ (nth ns i).v
 v1 : (nth ns i).v ≤ 999
 ne : (nth ns i).lo ≠ (nth ns i).hi
 new : nth ns i ∉ ns.take i
 lo0 : 0 ≤ (nth ns i).lo
 lo1 : (nth ns i).lo < i + 2
 lo2 : (nth ns i).lo < 2 ∨ (nth ns i).v < (nth ns ((nth ns i).lo - 2).toNat).v
 hi0 : 0 ≤ (nth ns i).hi
 hi1 : (nth ns i).hi < i + 2
 hi2 : (nth ns i).hi < 2 ∨ (nth ns i).v < (nth ns ((nth ns i).hi - 2).toNat).v
theorem vB_iff {ns : List NI} {i : Nat} : vB ns i = true ↔ VBs ns i := by
 simp only [vB, kB, Bool.and_eq_true, Bool.or_eq_true, decide_eq_true_eq]
 constructor
 ·rintro ⟨h1, h2, h3, h4, ⟨h5, h6, h7⟩, h8, h9, h10⟩
  exact ⟨h1, h2, h3, h4, h5, h6, h7, h8, h9, h10⟩
 ·rintro ⟨h1, h2, h3, h4, h5, h6, h7, h8, h9, h10⟩
  exact ⟨h1, h2, h3, h4, ⟨h5, h6, h7⟩, h8, h9, h10⟩
theorem zqa {ns : List NI} {i : Nat} (h : VBs ns i → False) : vB ns i = false := by
 cases e : vB ns i
 ·rfl
 ·exact (h (vB_iff.1 e)).elim
theorem ni_eq {m n : NI} : (m.v = n.v ∧ m.lo = n.lo ∧ m.hi = n.hi) ↔ m = n := by
 cases m; cases n; simp
theorem jia (ns : List NI) (rs : List Int) (hnl : ns.length ≤ maxLen) (hrl : rs.length ≤ 1000000) : zbi Try.prog 18 [zi2 ns rs] (.d (oD (zhc ns rs))) := by
 unfold maxLen at hnl
 refine za8 (fn := Try.f18) (by kernel_rfl) Try.func18 rfl (Nat.le_of_ble_eq_true rfl) fun c hc hp => ?_
 refine zba (τ' := frL [(0, .d (zi2 ns rs))]) (zaa (zae _) rfl) ?_
 refine zab hp zad hc rfl fun K1 hK1 => ?_
 simp -dsimp -implicitDefEqProofs (disch := first | assumption | omega | (simp [maxLen, zah, za0] <;> omega) | decide) only [q_r, zau, zb0, ↓reduceIte, D.one, zau, zi2, zee]
 refine hK1 _ _ ?_
 refine zaf fun K2 hK2 => ?_
 refine zab hp zad hc rfl fun K3 hK3 => ?_
 simp -dsimp -implicitDefEqProofs (disch := first | assumption | omega | (simp [maxLen, zah, za0] <;> omega) | decide) only [q_r, zam, zac, zc1, zar, ↓reduceIte, Nat.reduceEqDiff, zbk, zcj, zck, zcm]
 refine hK3 _ _ ?_
 refine zag rfl (fun ht => ?_) (fun ht => ?_)
 ·have hbig : 3000 < ns.length := by simp at ht; omega
  refine zab hp zad hc rfl fun K4 hK4 => ?_
  simp -dsimp -implicitDefEqProofs (disch := first | assumption | omega | (simp [maxLen, zah, za0] <;> omega) | decide) only [q_r]
  refine hK4 _ _ ?_
  refine zao ?_
  show zaj _ _ = _
  simp (disch := first | assumption | omega | (simp [maxLen, zah, za0] <;> omega) | decide) only [zaj, zct, za1, Nat.zero_add, D.fix, zat, ↓reduceIte, Option.map_some, List.length_cons, List.length_nil, oD]
  rw [jfi hbig]
 ·have hsm : ns.length ≤ 3000 := by simp at ht; omega
  refine zan (hK2 _ _ ?_)
  refine zaf fun K5 hK5 => ?_
  refine zab hp zad hc rfl fun K6 hK6 => ?_
  simp -dsimp -implicitDefEqProofs (disch := first | assumption | omega | (simp [maxLen, zah, za0] <;> omega) | decide) only [q_r]
  refine hK6 _ _ ?_
  refine zaq ?_
  refine za4 hp (fun τ' H' mm => ∃ (i : Nat), (i ≤ ns.length ∧ ∀ j, j < i → vB ns j = true) ∧ mm = ns.length - i ∧ H' = [.cells (avs (zee ns rs))] ∧ τ' = frL [(1, .op 0 0), (3, .d (iD i))]) (ns.length) ?_ ⟨0, ⟨Nat.zero_le _, fun j hj => absurd hj (by omega)⟩, rfl, rfl, rfl⟩ ?_
  ·refine Rt.end (zaa (zaa (zae _) rfl) rfl) ?_
   first | rfl | (simp only [zay, zas, zbm, zbr, zbp, gcH, zbb, zc7, zc0, zcq, zi5, zap, zcb, gcV, zei, fzH, zen, zdc, zdf, zbw, Nat.reduceAdd, zga, fzV, zcp, za2, zav, List.map_cons, List.map_nil, List.getD_cons_zero, List.getD_cons_succ, ↓reduceIte, Nat.reduceEqDiff, Option.map_some, List.set_cons_zero, List.set_cons_succ, zbf, zax, Nat.mul_one, List.length_map, List.cons_append, List.nil_append, zi2, zee, niA, zqs, zoc, zqt, zqu, zqv, zpf, zqw, znh, zeq, zdw, zer, zdv, zcy]; first | done | rfl)
  rintro τ' H' mm ⟨i, ⟨hi, hv⟩, rfl, rfl, rfl⟩
  refine zaf fun K7 hK7 => ?_
  refine zab hp zad hc rfl fun K8 hK8 => ?_
  simp -dsimp -implicitDefEqProofs (disch := first | assumption | omega | (simp [maxLen, zah, za0] <;> omega) | decide) only [q_r, zam, zac, zc1, zar, ↓reduceIte, Nat.reduceEqDiff, iD, zee, zbk, zcj, zck, zcm]
  refine hK8 _ _ ?_
  refine zag rfl (fun ht => ?_) (fun ht => ?_)
  ·have hlt : i < ns.length := by simp at ht; omega
   refine zan (hK7 _ _ ?_)
   refine zaf fun K9 hK9 => ?_
   refine zaq ?_
   refine zab hp zad hc rfl fun K10 hK10 => ?_
   simp -dsimp -implicitDefEqProofs (disch := first | assumption | omega | (simp [maxLen, zah, za0] <;> omega) | decide) only [q_r, zau, zam, zac, ixO, zai, zb0, za6, ↓reduceIte, D.one, Value.oneCell', Int.toNat_natCast, Nat.reduceEqDiff, iD, Nat.reduceAdd, zau, zsx, niC, zbk, zcj, zck, zcm, zgn, zg4, znu]
   refine hK10 _ _ ?_
   refine zaf fun K11 hK11 => ?_
   refine zab hp zad hc rfl fun K12 hK12 => ?_
   rcases (show ((nth ns i).v < 0) ∨ (¬ ((nth ns i).v < 0) ∧ 999 < (nth ns i).v) ∨ (¬ ((nth ns i).v < 0) ∧ ¬ (999 < (nth ns i).v) ∧ (nth ns i).lo < 0) ∨ (¬ ((nth ns i).v < 0) ∧ ¬ (999 < (nth ns i).v) ∧ ¬ ((nth ns i).lo < 0) ∧ (i : Int) + 2 ≤ (nth ns i).lo) ∨ (¬ ((nth ns i).v < 0) ∧ ¬ (999 < (nth ns i).v) ∧ ¬ ((nth ns i).lo < 0) ∧ ¬ ((i : Int) + 2 ≤ (nth ns i).lo) ∧ (nth ns i).hi < 0) ∨ (¬ ((nth ns i).v < 0) ∧ ¬ (999 < (nth ns i).v) ∧ ¬ ((nth ns i).lo < 0) ∧ ¬ ((i : Int) + 2 ≤ (nth ns i).lo) ∧ ¬ ((nth ns i).hi < 0) ∧ (i : Int) + 2 ≤ (nth ns i).hi) ∨ (¬ ((nth ns i).v < 0) ∧ ¬ (999 < (nth ns i).v) ∧ ¬ ((nth ns i).lo < 0) ∧ ¬ ((i : Int) + 2 ≤ (nth ns i).lo) ∧ ¬ ((nth ns i).hi < 0) ∧ ¬ ((i : Int) + 2 ≤ (nth ns i).hi) ∧ (nth ns i).lo = (nth ns i).hi) ∨ (¬ ((nth ns i).v < 0) ∧ ¬ (999 < (nth ns i).v) ∧ ¬ ((nth ns i).lo < 0) ∧ ¬ ((i : Int) + 2 ≤ (nth ns i).lo) ∧ ¬ ((nth ns i).hi < 0) ∧ ¬ ((i : Int) + 2 ≤ (nth ns i).hi) ∧ (nth ns i).lo ≠ (nth ns i).hi) by omega) with c0 | ⟨c0, c1⟩ | ⟨c0, c1, c2⟩ | ⟨c0, c1, c2, c3⟩ | ⟨c0, c1, c2, c3, c4⟩ | ⟨c0, c1, c2, c3, c4, c5⟩ | ⟨c0, c1, c2, c3, c4, c5, c6⟩ | ⟨c0, c1, c2, c3, c4, c5, c6⟩
   ·have q0 : decide ((nth ns i).v < 0) = true := decide_eq_true c0
    have q1 := q0
    have q2 := q0
    have q3 := q0
    have q4 := q0
    have q5 := q0
    have q6 := q0
    have hbad : vB ns i = false := zqa fun h => by obtain ⟨h1, h2, h3, _, h5, h6, _, h8, h9, _⟩ := h; omega
    simp -dsimp -implicitDefEqProofs (disch := first | assumption | omega | (simp [maxLen, zah, za0] <;> omega) | decide) only [q_r, zam, zac, ↓reduceIte, Nat.reduceEqDiff, Nat.reduceAdd, q0, zb4, zci, zcn]
    refine hK12 _ _ ?_
    refine zag rfl (fun ht => ?_) (fun ht => ?_)
    ·refine zab hp zad hc rfl fun K13 hK13 => ?_
     simp -dsimp -implicitDefEqProofs (disch := first | assumption | omega | (simp [maxLen, zah, za0] <;> omega) | decide) only [q_r]
     refine hK13 _ _ ?_
     refine zao ?_
     show zaj _ _ = _
     simp (disch := first | assumption | omega | (simp [maxLen, zah, za0] <;> omega) | decide) only [zaj, zct, za1, Nat.reduceAdd, Nat.zero_add, D.fix, zat, ↓reduceIte, Option.map_some, List.length_cons, List.length_nil, oD]
     rw [zft hlt hbad]
    ·cases ht
   ·have q0 : decide ((nth ns i).v < 0) = false := decide_eq_false c0
    have q1 : decide (999 < (nth ns i).v) = true := decide_eq_true c1
    have q2 := q0
    have q3 := q0
    have q4 := q0
    have q5 := q0
    have q6 := q0
    have hbad : vB ns i = false := zqa fun h => by obtain ⟨h1, h2, h3, _, h5, h6, _, h8, h9, _⟩ := h; omega
    simp -dsimp -implicitDefEqProofs (disch := first | assumption | omega | (simp [maxLen, zah, za0] <;> omega) | decide) only [q_r, zam, zac, ↓reduceIte, Nat.reduceEqDiff, Nat.reduceAdd, q0, q1, zb4, zci, zcn]
    refine hK12 _ _ ?_
    refine zag rfl (fun ht => ?_) (fun ht => ?_)
    ·refine zab hp zad hc rfl fun K14 hK14 => ?_
     simp -dsimp -implicitDefEqProofs (disch := first | assumption | omega | (simp [maxLen, zah, za0] <;> omega) | decide) only [q_r]
     refine hK14 _ _ ?_
     refine zao ?_
     show zaj _ _ = _
     simp (disch := first | assumption | omega | (simp [maxLen, zah, za0] <;> omega) | decide) only [zaj, zct, za1, Nat.reduceAdd, Nat.zero_add, D.fix, zat, ↓reduceIte, Option.map_some, List.length_cons, List.length_nil, oD]
     rw [zft hlt hbad]
    ·cases ht
   ·have q0 : decide ((nth ns i).v < 0) = false := decide_eq_false c0
    have q1 : decide (999 < (nth ns i).v) = false := decide_eq_false c1
    have q2 : decide ((nth ns i).lo < 0) = true := decide_eq_true c2
    have q3 := q0
    have q4 := q0
    have q5 := q0
    have q6 := q0
    have hbad : vB ns i = false := zqa fun h => by obtain ⟨h1, h2, h3, _, h5, h6, _, h8, h9, _⟩ := h; omega
    simp -dsimp -implicitDefEqProofs (disch := first | assumption | omega | (simp [maxLen, zah, za0] <;> omega) | decide) only [q_r, zam, zac, ↓reduceIte, Nat.reduceEqDiff, Nat.reduceAdd, q0, q1, q2, zb4, zci, zcn, zco]
    refine hK12 _ _ ?_
    refine zag rfl (fun ht => ?_) (fun ht => ?_)
    ·refine zab hp zad hc rfl fun K15 hK15 => ?_
     simp -dsimp -implicitDefEqProofs (disch := first | assumption | omega | (simp [maxLen, zah, za0] <;> omega) | decide) only [q_r]
     refine hK15 _ _ ?_
     refine zao ?_
     show zaj _ _ = _
     simp (disch := first | assumption | omega | (simp [maxLen, zah, za0] <;> omega) | decide) only [zaj, zct, za1, Nat.reduceAdd, Nat.zero_add, D.fix, zat, ↓reduceIte, Option.map_some, List.length_cons, List.length_nil, oD]
     rw [zft hlt hbad]
    ·cases ht
   ·have q0 : decide ((nth ns i).v < 0) = false := decide_eq_false c0
    have q1 : decide (999 < (nth ns i).v) = false := decide_eq_false c1
    have q2 : decide ((nth ns i).lo < 0) = false := decide_eq_false c2
    have q3 : decide ((i : Int) + 2 ≤ (nth ns i).lo) = true := decide_eq_true c3
    have q4 := q0
    have q5 := q0
    have q6 := q0
    have hbad : vB ns i = false := zqa fun h => by obtain ⟨h1, h2, h3, _, h5, h6, _, h8, h9, _⟩ := h; omega
    simp -dsimp -implicitDefEqProofs (disch := first | assumption | omega | (simp [maxLen, zah, za0] <;> omega) | decide) only [q_r, zam, zac, ↓reduceIte, Nat.reduceEqDiff, Nat.reduceAdd, q0, q1, q2, q3, zb4, zci, zcn, zco]
    refine hK12 _ _ ?_
    refine zag rfl (fun ht => ?_) (fun ht => ?_)
    ·refine zab hp zad hc rfl fun K16 hK16 => ?_
     simp -dsimp -implicitDefEqProofs (disch := first | assumption | omega | (simp [maxLen, zah, za0] <;> omega) | decide) only [q_r]
     refine hK16 _ _ ?_
     refine zao ?_
     show zaj _ _ = _
     simp (disch := first | assumption | omega | (simp [maxLen, zah, za0] <;> omega) | decide) only [zaj, zct, za1, Nat.reduceAdd, Nat.zero_add, D.fix, zat, ↓reduceIte, Option.map_some, List.length_cons, List.length_nil, oD]
     rw [zft hlt hbad]
    ·cases ht
   ·have q0 : decide ((nth ns i).v < 0) = false := decide_eq_false c0
    have q1 : decide (999 < (nth ns i).v) = false := decide_eq_false c1
    have q2 : decide ((nth ns i).lo < 0) = false := decide_eq_false c2
    have q3 : decide ((i : Int) + 2 ≤ (nth ns i).lo) = false := decide_eq_false c3
    have q4 : decide ((nth ns i).hi < 0) = true := decide_eq_true c4
    have q5 := q0
    have q6 := q0
    have hbad : vB ns i = false := zqa fun h => by obtain ⟨h1, h2, h3, _, h5, h6, _, h8, h9, _⟩ := h; omega
    simp -dsimp -implicitDefEqProofs (disch := first | assumption | omega | (simp [maxLen, zah, za0] <;> omega) | decide) only [q_r, zam, zac, ↓reduceIte, Nat.reduceEqDiff, Nat.reduceAdd, q0, q1, q2, q3, q4, zb4, zci, zcn, zco, zdd]
    refine hK12 _ _ ?_
    refine zag rfl (fun ht => ?_) (fun ht => ?_)
    ·refine zab hp zad hc rfl fun K17 hK17 => ?_
     simp -dsimp -implicitDefEqProofs (disch := first | assumption | omega | (simp [maxLen, zah, za0] <;> omega) | decide) only [q_r]
     refine hK17 _ _ ?_
     refine zao ?_
     show zaj _ _ = _
     simp (disch := first | assumption | omega | (simp [maxLen, zah, za0] <;> omega) | decide) only [zaj, zct, za1, Nat.reduceAdd, Nat.zero_add, D.fix, zat, ↓reduceIte, Option.map_some, List.length_cons, List.length_nil, oD]
     rw [zft hlt hbad]
    ·cases ht
   ·have q0 : decide ((nth ns i).v < 0) = false := decide_eq_false c0
    have q1 : decide (999 < (nth ns i).v) = false := decide_eq_false c1
    have q2 : decide ((nth ns i).lo < 0) = false := decide_eq_false c2
    have q3 : decide ((i : Int) + 2 ≤ (nth ns i).lo) = false := decide_eq_false c3
    have q4 : decide ((nth ns i).hi < 0) = false := decide_eq_false c4
    have q5 : decide ((i : Int) + 2 ≤ (nth ns i).hi) = true := decide_eq_true c5
    have q6 := q0
    have hbad : vB ns i = false := zqa fun h => by obtain ⟨h1, h2, h3, _, h5, h6, _, h8, h9, _⟩ := h; omega
    simp -dsimp -implicitDefEqProofs (disch := first | assumption | omega | (simp [maxLen, zah, za0] <;> omega) | decide) only [q_r, zam, zac, ↓reduceIte, Nat.reduceEqDiff, Nat.reduceAdd, q0, q1, q2, q3, q4, q5, zb4, zci, zcn, zco, zdd]
    refine hK12 _ _ ?_
    refine zag rfl (fun ht => ?_) (fun ht => ?_)
    ·refine zab hp zad hc rfl fun K18 hK18 => ?_
     simp -dsimp -implicitDefEqProofs (disch := first | assumption | omega | (simp [maxLen, zah, za0] <;> omega) | decide) only [q_r]
     refine hK18 _ _ ?_
     refine zao ?_
     show zaj _ _ = _
     simp (disch := first | assumption | omega | (simp [maxLen, zah, za0] <;> omega) | decide) only [zaj, zct, za1, Nat.reduceAdd, Nat.zero_add, D.fix, zat, ↓reduceIte, Option.map_some, List.length_cons, List.length_nil, oD]
     rw [zft hlt hbad]
    ·cases ht
   ·have q0 : decide ((nth ns i).v < 0) = false := decide_eq_false c0
    have q1 : decide (999 < (nth ns i).v) = false := decide_eq_false c1
    have q2 : decide ((nth ns i).lo < 0) = false := decide_eq_false c2
    have q3 : decide ((i : Int) + 2 ≤ (nth ns i).lo) = false := decide_eq_false c3
    have q4 : decide ((nth ns i).hi < 0) = false := decide_eq_false c4
    have q5 : decide ((i : Int) + 2 ≤ (nth ns i).hi) = false := decide_eq_false c5
    have q6 : ((nth ns i).lo == (nth ns i).hi) = true := by simpa using c6
    have hbad : vB ns i = false := zqa fun h => by obtain ⟨h1, h2, h3, _, h5, h6, _, h8, h9, _⟩ := h; omega
    simp -dsimp -implicitDefEqProofs (disch := first | assumption | omega | (simp [maxLen, zah, za0] <;> omega) | decide) only [q_r, zam, zac, ↓reduceIte, Nat.reduceEqDiff, Nat.reduceAdd, q0, q1, q2, q3, q4, q5, q6, zb4, zci, zcn, zco, zdd]
    refine hK12 _ _ ?_
    refine zag rfl (fun ht => ?_) (fun ht => ?_)
    ·refine zab hp zad hc rfl fun K19 hK19 => ?_
     simp -dsimp -implicitDefEqProofs (disch := first | assumption | omega | (simp [maxLen, zah, za0] <;> omega) | decide) only [q_r]
     refine hK19 _ _ ?_
     refine zao ?_
     show zaj _ _ = _
     simp (disch := first | assumption | omega | (simp [maxLen, zah, za0] <;> omega) | decide) only [zaj, zct, za1, Nat.reduceAdd, Nat.zero_add, D.fix, zat, ↓reduceIte, Option.map_some, List.length_cons, List.length_nil, oD]
     rw [zft hlt hbad]
    ·cases ht
   ·have q0 : decide ((nth ns i).v < 0) = false := decide_eq_false c0
    have q1 : decide (999 < (nth ns i).v) = false := decide_eq_false c1
    have q2 : decide ((nth ns i).lo < 0) = false := decide_eq_false c2
    have q3 : decide ((i : Int) + 2 ≤ (nth ns i).lo) = false := decide_eq_false c3
    have q4 : decide ((nth ns i).hi < 0) = false := decide_eq_false c4
    have q5 : decide ((i : Int) + 2 ≤ (nth ns i).hi) = false := decide_eq_false c5
    have q6 : ((nth ns i).lo == (nth ns i).hi) = false := by simpa using c6
    simp -dsimp -implicitDefEqProofs (disch := first | assumption | omega | (simp [maxLen, zah, za0] <;> omega) | decide) only [q_r, zam, zac, ↓reduceIte, Nat.reduceEqDiff, Nat.reduceAdd, q0, q1, q2, q3, q4, q5, q6, zb4, zci, zcn, zco, zdd]
    refine hK12 _ _ ?_
    refine zag rfl (fun ht => ?_) (fun ht => ?_)
    ·cases ht
    ·refine zan (hK11 _ _ ?_)
     refine zaf fun K20 hK20 => ?_
     have hJ20 : ∀ τ' H', (∃ τ1 H1, (∀ h : nth ns i ∉ ns.take i, vB ns i = true) ∧ H1 = [.cells (avs (zee ns rs)), .cells (niA (nth ns i))] ∧ τ1 = frL [(1, .op 0 0), (3, .d (iD i)), (4, .op 1 0)] ∧ Rt [] τ' H' τ1 H1) → K20 τ' H' := by
      rintro τ' H' ⟨_, _, hgood, rfl, rfl, hrt⟩
      refine hK20 _ _ (zbx hp hrt ?_)
      clear hrt
      refine zab hp zad hc rfl fun K21 hK21 => ?_
      simp -dsimp -implicitDefEqProofs (disch := first | assumption | omega | (simp [maxLen, zah, za0] <;> omega) | decide) only [q_r, iD, zee, niA]
      refine hK21 _ _ ?_
      refine zaq ?_
      refine za4 hp (fun τ' H' mm => ∃ (k : Nat), (k ≤ i ∧ ∀ j, j < k → nth ns j ≠ nth ns i) ∧ mm = i - k ∧ H' = [.cells (avs (zee ns rs)), .cells (niA (nth ns i))] ∧ τ' = frL [(1, .op 0 0), (3, .d (iD i)), (4, .op 1 0), (5, .d (iD k))]) (i) ?_ ⟨0, ⟨Nat.zero_le _, fun j hj => absurd hj (by omega)⟩, rfl, rfl, rfl⟩ ?_
      ·refine Rt.end (zaa (zaa (zaa (zaa (zae _) rfl) rfl) rfl) rfl) ?_
       first | rfl | (simp only [zay, zas, zbm, zbr, zbp, gcH, zbb, zc7, zc0, zcq, zi5, zap, zcb, gcV, zei, fzH, zen, zdc, zdf, zbw, Nat.reduceAdd, zga, fzV, zcp, za2, zav, List.map_cons, List.map_nil, List.getD_cons_zero, List.getD_cons_succ, ↓reduceIte, Nat.reduceEqDiff, Option.map_some, List.set_cons_zero, List.set_cons_succ, zbf, zax, Nat.mul_one, List.length_map, List.cons_append, List.nil_append, zi2, zee, niA, zqs, zoc, zqt, zqu, zqv, zpf, zqw, znh, zeq, zdw, zer, zdv, zcy]; first | done | rfl)
      rintro τ' H' mm ⟨k, ⟨hk, hne⟩, rfl, rfl, rfl⟩
      refine zaf fun K22 hK22 => ?_
      refine zab hp zad hc rfl fun K23 hK23 => ?_
      simp -dsimp -implicitDefEqProofs (disch := first | assumption | omega | (simp [maxLen, zah, za0] <;> omega) | decide) only [q_r, ↓reduceIte, Nat.reduceEqDiff, iD, zee, niA]
      refine hK23 _ _ ?_
      refine zag rfl (fun ht => ?_) (fun ht => ?_)
      ·have hki : k < i := by simpa using ht
       refine zan (hK22 _ _ ?_)
       refine zaf fun K24 hK24 => ?_
       refine zaq ?_
       refine zbo zad hc mixed rfl (q := 0) (by kernel_rfl) (by kernel_rfl) fun K25 hK25 => ?_
       by_cases heq : nth ns k = nth ns i
       ·have g1 : ((nth ns k).v == (nth ns i).v) = true := by rw [heq]; simp
        have g2 : (((nth ns k).lo == (nth ns i).lo)) = true := by rw [heq]; simp
        have g3 : (((nth ns k).hi == (nth ns i).hi)) = true := by rw [heq]; simp
        have g4 : ((nth ns k).v == (nth ns i).v && ((nth ns k).lo == (nth ns i).lo && (nth ns k).hi == (nth ns i).hi)) = true := by rw [g1, g2, g3]; rfl
        have hbad : vB ns i = false := zqa fun h => h.new (by rw [← heq]; exact List.mem_take_iff_getElem.2 ⟨k, by omega, by rw [zcd (by omega)]⟩)
        simp -dsimp -implicitDefEqProofs (disch := first | assumption | omega | (simp [maxLen, zah, za0] <;> omega) | decide) only [q_r, zam, zac, ixO, zai, ↓reduceIte, List.append_nil, List.replicate_zero, Bool.and_true, Int.toNat_natCast, Nat.reduceEqDiff, killAll, iD, Nat.reduceAdd, zoc, zeq, zdw, zer, zdv, zcy, zsx, niC, g4, zbk, zcj, zck, zcm, zgn, zg4, zsd jhi]
        refine hK25 _ _ ?_
        refine zag rfl (fun ht => ?_) (fun ht => ?_)
        ·refine zab hp zad hc rfl fun K26 hK26 => ?_
         simp -dsimp -implicitDefEqProofs (disch := first | assumption | omega | (simp [maxLen, zah, za0] <;> omega) | decide) only [q_r]
         refine hK26 _ _ ?_
         refine zao ?_
         show zaj _ _ = _
         simp (disch := first | assumption | omega | (simp [maxLen, zah, za0] <;> omega) | decide) only [zaj, zct, za1, Nat.reduceAdd, Nat.zero_add, D.fix, zat, ↓reduceIte, Option.map_some, List.length_cons, List.length_nil, oD]
         rw [zft hlt hbad]
        ·cases ht
       ·have g4 : ((nth ns k).v == (nth ns i).v && ((nth ns k).lo == (nth ns i).lo && (nth ns k).hi == (nth ns i).hi)) = false := by
         rw [Bool.eq_false_iff]
         intro h
         simp only [Bool.and_eq_true, beq_iff_eq] at h
         exact heq (ni_eq.1 h)
        simp -dsimp -implicitDefEqProofs (disch := first | assumption | omega | (simp [maxLen, zah, za0] <;> omega) | decide) only [q_r, zam, zac, ixO, zai, ↓reduceIte, List.append_nil, List.replicate_zero, Bool.and_true, Int.toNat_natCast, Nat.reduceEqDiff, killAll, iD, Nat.reduceAdd, zoc, zeq, zdw, zer, zdv, zcy, zsx, niC, g4, zbk, zcj, zck, zcm, zgn, zg4, zsd jhi]
        refine hK25 _ _ ?_
        refine zag rfl (fun ht => ?_) (fun ht => ?_)
        ·cases ht
        ·refine zan (hK24 _ _ ?_)
         refine zbs hp zad hc rfl fun K27 hK27 => ?_
         simp -dsimp -implicitDefEqProofs (disch := first | assumption | omega | (simp [maxLen, zah, za0] <;> omega) | decide) only [q_r, ↓reduceIte, Nat.reduceEqDiff]
         have hne2 : ∀ j, j < k + 1 → nth ns j ≠ nth ns i := fun j hj => by
          by_cases e : j = k
          ·subst e; exact heq
          ·exact hne j (by omega)
         refine hK27 _ _ ⟨_, _, _, ?_, ⟨k + 1, ⟨by omega, hne2⟩, rfl, rfl, rfl⟩, ?_⟩
         ·first | omega | (simp only [List.length_cons]; omega) | (dsimp only; omega)
         ·refine Rt.end (zaa (zaa (zaa (zaa (zae _) rfl) rfl) rfl) rfl) ?_
          first | rfl | (simp only [zay, zas, zbm, zbr, zbp, gcH, zbb, zc7, zc0, zcq, zi5, zap, zcb, gcV, zei, fzH, zen, zdc, zdf, zbw, Nat.reduceAdd, zga, fzV, zcp, za2, zav, List.map_cons, List.map_nil, List.getD_cons_zero, List.getD_cons_succ, ↓reduceIte, Nat.reduceEqDiff, Option.map_some, List.set_cons_zero, List.set_cons_succ, zbf, zax, Nat.mul_one, List.length_map, List.cons_append, List.nil_append, zi2, zee, niA, zqs, zoc, zqt, zqu, zqv, zpf, zqw, znh, zeq, zdw, zer, zdv, zcy]; first | done | rfl)
      ·have hki : k = i := by simp at ht; omega
       subst hki
       have hvi : vB ns k = true := hgood fun hm => by
        obtain ⟨j, hj, he⟩ := List.mem_take_iff_getElem.1 hm
        exact hne j (by omega) (by rw [zcd (by omega)]; exact he)
       refine zbd (hK9 _ _ ?_)
       refine zbs hp zad hc rfl fun K28 hK28 => ?_
       simp -dsimp -implicitDefEqProofs (disch := first | assumption | omega | (simp [maxLen, zah, za0] <;> omega) | decide) only [q_r, ↓reduceIte, Nat.reduceEqDiff]
       have hv2 : ∀ j, j < k + 1 → vB ns j = true := fun j hj => by
        by_cases e : j = k
        ·subst e; exact hvi
        ·exact hv j (by omega)
       refine hK28 _ _ ⟨_, _, _, ?_, ⟨k + 1, ⟨by omega, hv2⟩, rfl, rfl, rfl⟩, ?_⟩
       ·first | omega | (simp only [List.length_cons]; omega) | (dsimp only; omega)
       ·refine Rt.trans (Rt.gc (keep := [0]) (by decide) (by decide) (by simp [])) ?_
        refine Rt.end (zaa (zaa (zae _) rfl) rfl) ?_
        first | rfl | (simp only [zay, zas, zbm, zbr, zbp, gcH, zbb, zc7, zc0, zcq, zi5, zap, zcb, gcV, zei, fzH, zen, zdc, zdf, zbw, Nat.reduceAdd, zga, fzV, zcp, za2, zav, List.map_cons, List.map_nil, List.getD_cons_zero, List.getD_cons_succ, ↓reduceIte, Nat.reduceEqDiff, Option.map_some, List.set_cons_zero, List.set_cons_succ, zbf, zax, Nat.mul_one, List.length_map, List.cons_append, List.nil_append, zi2, zee, niA, zqs, zoc, zqt, zqu, zqv, zpf, zqw, znh, zeq, zdw, zer, zdv, zcy]; first | done | rfl)
     refine zbo zad hc mixed rfl (q := 0) (by kernel_rfl) (by kernel_rfl) fun K29 hK29 => ?_
     rcases (show ((2 ≤ (nth ns i).lo ∧ (nth ns ((nth ns i).lo - 2).toNat).v ≤ (nth ns i).v)) ∨ (((nth ns i).lo < 2) ∧ ((nth ns i).hi < 2)) ∨ (((nth ns i).lo < 2) ∧ (2 ≤ (nth ns i).hi ∧ (nth ns ((nth ns i).hi - 2).toNat).v ≤ (nth ns i).v)) ∨ (((nth ns i).lo < 2) ∧ (2 ≤ (nth ns i).hi ∧ ¬ ((nth ns ((nth ns i).hi - 2).toNat).v ≤ (nth ns i).v))) ∨ ((2 ≤ (nth ns i).lo ∧ ¬ ((nth ns ((nth ns i).lo - 2).toNat).v ≤ (nth ns i).v)) ∧ ((nth ns i).hi < 2)) ∨ ((2 ≤ (nth ns i).lo ∧ ¬ ((nth ns ((nth ns i).lo - 2).toNat).v ≤ (nth ns i).v)) ∧ (2 ≤ (nth ns i).hi ∧ (nth ns ((nth ns i).hi - 2).toNat).v ≤ (nth ns i).v)) ∨ ((2 ≤ (nth ns i).lo ∧ ¬ ((nth ns ((nth ns i).lo - 2).toNat).v ≤ (nth ns i).v)) ∧ (2 ≤ (nth ns i).hi ∧ ¬ ((nth ns ((nth ns i).hi - 2).toNat).v ≤ (nth ns i).v))) by omega) with ⟨d1, d2⟩ | ⟨d1, e1⟩ | ⟨d1, ⟨e1, e2⟩⟩ | ⟨d1, ⟨e1, e2⟩⟩ | ⟨⟨d1, d2⟩, e1⟩ | ⟨⟨d1, d2⟩, ⟨e1, e2⟩⟩ | ⟨⟨d1, d2⟩, ⟨e1, e2⟩⟩
     ·have a1 : decide (2 ≤ (nth ns i).lo) = true := decide_eq_true d1
      have a2 : decide ((nth ns ((nth ns i).lo - 2).toNat).v ≤ (nth ns i).v) = true := decide_eq_true d2
      have b1 := a1
      have b2 := a1
      have hbad : vB ns i = false := zqa fun h => by have h1 := h.lo2; have h2 := h.hi2; omega
      simp -dsimp -implicitDefEqProofs (disch := first | assumption | omega | (simp [maxLen, zah, za0] <;> omega) | decide) only [q_r, zam, zac, ixO, zai, ↓reduceIte, List.append_nil, List.replicate_zero, Nat.reduceEqDiff, killAll, iD, Nat.reduceAdd, a1, a2, jjs, zco, zci, zcn, zbk, zcj, zck, zcm, zb4]
      refine hK29 _ _ ?_
      refine zag rfl (fun ht => ?_) (fun ht => ?_)
      ·refine zab hp zad hc rfl fun K30 hK30 => ?_
       simp -dsimp -implicitDefEqProofs (disch := first | assumption | omega | (simp [maxLen, zah, za0] <;> omega) | decide) only [q_r]
       refine hK30 _ _ ?_
       refine zao ?_
       show zaj _ _ = _
       simp (disch := first | assumption | omega | (simp [maxLen, zah, za0] <;> omega) | decide) only [zaj, zct, za1, Nat.reduceAdd, Nat.zero_add, D.fix, zat, ↓reduceIte, Option.map_some, List.length_cons, List.length_nil, oD]
       rw [zft hlt hbad]
      ·cases ht
     ·have a1 : decide (2 ≤ (nth ns i).lo) = false := decide_eq_false (by omega)
      have a2 := a1
      have b1 : decide (2 ≤ (nth ns i).hi) = false := decide_eq_false (by omega)
      have b2 := a1
      simp -dsimp -implicitDefEqProofs (disch := first | assumption | omega | (simp [maxLen, zah, za0] <;> omega) | decide) only [q_r, zam, zac, ↓reduceIte, List.append_nil, List.replicate_zero, Nat.reduceEqDiff, killAll, Nat.reduceAdd, a1, b1, zco, zci, zcn, zdd]
      refine hK29 _ _ ?_
      refine zag rfl (fun ht => ?_) (fun ht => ?_)
      ·cases ht
      ·refine zan (hJ20 _ _ ⟨_, _, fun hn => vB_iff.2 ⟨by omega, by omega, c6, hn, by omega, by omega, by omega, by omega, by omega, by omega⟩, rfl, rfl, ?_⟩)
       refine Rt.trans (Rt.gc (keep := [0,1]) (by decide) (by decide) (by simp [])) ?_
       refine Rt.end (zaa (zaa (zaa (zae _) rfl) rfl) rfl) ?_
       first | rfl | (simp only [zay, zas, zbm, zbr, zbp, gcH, zbb, zc7, zc0, zcq, zi5, zap, zcb, gcV, zei, fzH, zen, zdc, zdf, zbw, Nat.reduceAdd, zga, fzV, zcp, za2, zav, List.map_cons, List.map_nil, List.getD_cons_zero, List.getD_cons_succ, ↓reduceIte, Nat.reduceEqDiff, Option.map_some, List.set_cons_zero, List.set_cons_succ, zbf, zax, Nat.mul_one, List.length_map, List.cons_append, List.nil_append, zi2, zee, niA, zqs, zoc, zqt, zqu, zqv, zpf, zqw, znh, zeq, zdw, zer, zdv, zcy]; first | done | rfl)
     ·have a1 : decide (2 ≤ (nth ns i).lo) = false := decide_eq_false (by omega)
      have a2 := a1
      have b1 : decide (2 ≤ (nth ns i).hi) = true := decide_eq_true e1
      have b2 : decide ((nth ns ((nth ns i).hi - 2).toNat).v ≤ (nth ns i).v) = true := decide_eq_true e2
      have hbad : vB ns i = false := zqa fun h => by have h1 := h.lo2; have h2 := h.hi2; omega
      simp -dsimp -implicitDefEqProofs (disch := first | assumption | omega | (simp [maxLen, zah, za0] <;> omega) | decide) only [q_r, zam, zac, ixO, zai, ↓reduceIte, List.append_nil, List.replicate_zero, Nat.reduceEqDiff, killAll, iD, Nat.reduceAdd, a1, b1, b2, jjs, zco, zci, zcn, zbk, zcj, zck, zcm, zb4, zdd]
      refine hK29 _ _ ?_
      refine zag rfl (fun ht => ?_) (fun ht => ?_)
      ·refine zab hp zad hc rfl fun K31 hK31 => ?_
       simp -dsimp -implicitDefEqProofs (disch := first | assumption | omega | (simp [maxLen, zah, za0] <;> omega) | decide) only [q_r]
       refine hK31 _ _ ?_
       refine zao ?_
       show zaj _ _ = _
       simp (disch := first | assumption | omega | (simp [maxLen, zah, za0] <;> omega) | decide) only [zaj, zct, za1, Nat.reduceAdd, Nat.zero_add, D.fix, zat, ↓reduceIte, Option.map_some, List.length_cons, List.length_nil, oD]
       rw [zft hlt hbad]
      ·cases ht
     ·have a1 : decide (2 ≤ (nth ns i).lo) = false := decide_eq_false (by omega)
      have a2 := a1
      have b1 : decide (2 ≤ (nth ns i).hi) = true := decide_eq_true e1
      have b2 : decide ((nth ns ((nth ns i).hi - 2).toNat).v ≤ (nth ns i).v) = false := decide_eq_false e2
      simp -dsimp -implicitDefEqProofs (disch := first | assumption | omega | (simp [maxLen, zah, za0] <;> omega) | decide) only [q_r, zam, zac, ixO, zai, ↓reduceIte, List.append_nil, List.replicate_zero, Nat.reduceEqDiff, killAll, iD, Nat.reduceAdd, a1, b1, b2, jjs, zco, zci, zcn, zbk, zcj, zck, zcm, zb4, zdd]
      refine hK29 _ _ ?_
      refine zag rfl (fun ht => ?_) (fun ht => ?_)
      ·cases ht
      ·refine zan (hJ20 _ _ ⟨_, _, fun hn => vB_iff.2 ⟨by omega, by omega, c6, hn, by omega, by omega, by omega, by omega, by omega, by omega⟩, rfl, rfl, ?_⟩)
       refine Rt.trans (Rt.gc (keep := [0,1]) (by decide) (by decide) (by simp [])) ?_
       refine Rt.end (zaa (zaa (zaa (zae _) rfl) rfl) rfl) ?_
       first | rfl | (simp only [zay, zas, zbm, zbr, zbp, gcH, zbb, zc7, zc0, zcq, zi5, zap, zcb, gcV, zei, fzH, zen, zdc, zdf, zbw, Nat.reduceAdd, zga, fzV, zcp, za2, zav, List.map_cons, List.map_nil, List.getD_cons_zero, List.getD_cons_succ, ↓reduceIte, Nat.reduceEqDiff, Option.map_some, List.set_cons_zero, List.set_cons_succ, zbf, zax, Nat.mul_one, List.length_map, List.cons_append, List.nil_append, zi2, zee, niA, zqs, zoc, zqt, zqu, zqv, zpf, zqw, znh, zeq, zdw, zer, zdv, zcy]; first | done | rfl)
     ·have a1 : decide (2 ≤ (nth ns i).lo) = true := decide_eq_true d1
      have a2 : decide ((nth ns ((nth ns i).lo - 2).toNat).v ≤ (nth ns i).v) = false := decide_eq_false d2
      have b1 : decide (2 ≤ (nth ns i).hi) = false := decide_eq_false (by omega)
      have b2 := a1
      simp -dsimp -implicitDefEqProofs (disch := first | assumption | omega | (simp [maxLen, zah, za0] <;> omega) | decide) only [q_r, zam, zac, ixO, zai, ↓reduceIte, List.append_nil, List.replicate_zero, Nat.reduceEqDiff, killAll, iD, Nat.reduceAdd, a1, a2, b1, jjs, zco, zci, zcn, zbk, zcj, zck, zcm, zb4, zdd]
      refine hK29 _ _ ?_
      refine zag rfl (fun ht => ?_) (fun ht => ?_)
      ·cases ht
      ·refine zan (hJ20 _ _ ⟨_, _, fun hn => vB_iff.2 ⟨by omega, by omega, c6, hn, by omega, by omega, by omega, by omega, by omega, by omega⟩, rfl, rfl, ?_⟩)
       refine Rt.trans (Rt.gc (keep := [0,1]) (by decide) (by decide) (by simp [])) ?_
       refine Rt.end (zaa (zaa (zaa (zae _) rfl) rfl) rfl) ?_
       first | rfl | (simp only [zay, zas, zbm, zbr, zbp, gcH, zbb, zc7, zc0, zcq, zi5, zap, zcb, gcV, zei, fzH, zen, zdc, zdf, zbw, Nat.reduceAdd, zga, fzV, zcp, za2, zav, List.map_cons, List.map_nil, List.getD_cons_zero, List.getD_cons_succ, ↓reduceIte, Nat.reduceEqDiff, Option.map_some, List.set_cons_zero, List.set_cons_succ, zbf, zax, Nat.mul_one, List.length_map, List.cons_append, List.nil_append, zi2, zee, niA, zqs, zoc, zqt, zqu, zqv, zpf, zqw, znh, zeq, zdw, zer, zdv, zcy]; first | done | rfl)
     ·have a1 : decide (2 ≤ (nth ns i).lo) = true := decide_eq_true d1
      have a2 : decide ((nth ns ((nth ns i).lo - 2).toNat).v ≤ (nth ns i).v) = false := decide_eq_false d2
      have b1 : decide (2 ≤ (nth ns i).hi) = true := decide_eq_true e1
      have b2 : decide ((nth ns ((nth ns i).hi - 2).toNat).v ≤ (nth ns i).v) = true := decide_eq_true e2
      have hbad : vB ns i = false := zqa fun h => by have h1 := h.lo2; have h2 := h.hi2; omega
      simp -dsimp -implicitDefEqProofs (disch := first | assumption | omega | (simp [maxLen, zah, za0] <;> omega) | decide) only [q_r, zam, zac, ixO, zai, ↓reduceIte, List.append_nil, List.replicate_zero, Nat.reduceEqDiff, killAll, iD, Nat.reduceAdd, a1, a2, b1, b2, jjs, zco, zci, zcn, zbk, zcj, zck, zcm, zb4, zdd]
      refine hK29 _ _ ?_
      refine zag rfl (fun ht => ?_) (fun ht => ?_)
      ·refine zab hp zad hc rfl fun K32 hK32 => ?_
       simp -dsimp -implicitDefEqProofs (disch := first | assumption | omega | (simp [maxLen, zah, za0] <;> omega) | decide) only [q_r]
       refine hK32 _ _ ?_
       refine zao ?_
       show zaj _ _ = _
       simp (disch := first | assumption | omega | (simp [maxLen, zah, za0] <;> omega) | decide) only [zaj, zct, za1, Nat.reduceAdd, Nat.zero_add, D.fix, zat, ↓reduceIte, Option.map_some, List.length_cons, List.length_nil, oD]
       rw [zft hlt hbad]
      ·cases ht
     ·have a1 : decide (2 ≤ (nth ns i).lo) = true := decide_eq_true d1
      have a2 : decide ((nth ns ((nth ns i).lo - 2).toNat).v ≤ (nth ns i).v) = false := decide_eq_false d2
      have b1 : decide (2 ≤ (nth ns i).hi) = true := decide_eq_true e1
      have b2 : decide ((nth ns ((nth ns i).hi - 2).toNat).v ≤ (nth ns i).v) = false := decide_eq_false e2
      simp -dsimp -implicitDefEqProofs (disch := first | assumption | omega | (simp [maxLen, zah, za0] <;> omega) | decide) only [q_r, zam, zac, ixO, zai, ↓reduceIte, List.append_nil, List.replicate_zero, Nat.reduceEqDiff, killAll, iD, Nat.reduceAdd, a1, a2, b1, b2, jjs, zco, zci, zcn, zbk, zcj, zck, zcm, zb4, zdd]
      refine hK29 _ _ ?_
      refine zag rfl (fun ht => ?_) (fun ht => ?_)
      ·cases ht
      ·refine zan (hJ20 _ _ ⟨_, _, fun hn => vB_iff.2 ⟨by omega, by omega, c6, hn, by omega, by omega, by omega, by omega, by omega, by omega⟩, rfl, rfl, ?_⟩)
       refine Rt.trans (Rt.gc (keep := [0,1]) (by decide) (by decide) (by simp [])) ?_
       refine Rt.end (zaa (zaa (zaa (zae _) rfl) rfl) rfl) ?_
       first | rfl | (simp only [zay, zas, zbm, zbr, zbp, gcH, zbb, zc7, zc0, zcq, zi5, zap, zcb, gcV, zei, fzH, zen, zdc, zdf, zbw, Nat.reduceAdd, zga, fzV, zcp, za2, zav, List.map_cons, List.map_nil, List.getD_cons_zero, List.getD_cons_succ, ↓reduceIte, Nat.reduceEqDiff, Option.map_some, List.set_cons_zero, List.set_cons_succ, zbf, zax, Nat.mul_one, List.length_map, List.cons_append, List.nil_append, zi2, zee, niA, zqs, zoc, zqt, zqu, zqv, zpf, zqw, znh, zeq, zdw, zer, zdv, zcy]; first | done | rfl)
  ·have hie : i = ns.length := by simp at ht; omega
   subst hie
   have hva := jfj (rs := rs) hsm hv
   refine zbd (hK5 _ _ ?_)
   refine zaf fun K33 hK33 => ?_
   refine zab hp zad hc rfl fun K34 hK34 => ?_
   simp -dsimp -implicitDefEqProofs (disch := first | assumption | omega | (simp [maxLen, zah, za0] <;> omega) | decide) only [q_r]
   refine hK34 _ _ ?_
   refine zaq ?_
   refine za4 hp (fun τ' H' mm => ∃ (k : Nat), (k ≤ rs.length ∧ (rs.take k).any (zh7 (2 + ns.length)) = false) ∧ mm = rs.length - k ∧ H' = [.cells (avs (zee ns rs))] ∧ τ' = frL [(1, .op 0 0), (6, .d (iD k))]) (rs.length) ?_ ⟨0, ⟨Nat.zero_le _, rfl⟩, rfl, rfl, rfl⟩ ?_
   ·refine Rt.end (zaa (zaa (zae _) rfl) rfl) ?_
    first | rfl | (simp only [zay, zas, zbm, zbr, zbp, gcH, zbb, zc7, zc0, zcq, zi5, zap, zcb, gcV, zei, fzH, zen, zdc, zdf, zbw, Nat.reduceAdd, zga, fzV, zcp, za2, zav, List.map_cons, List.map_nil, List.getD_cons_zero, List.getD_cons_succ, ↓reduceIte, Nat.reduceEqDiff, Option.map_some, List.set_cons_zero, List.set_cons_succ, zbf, zax, Nat.mul_one, List.length_map, List.cons_append, List.nil_append, zi2, zee, niA, zqs, zoc, zqt, zqu, zqv, zpf, zqw, znh, zeq, zdw, zer, zdv, zcy]; first | done | rfl)
   rintro τ' H' mm ⟨k, ⟨hk, hno⟩, rfl, rfl, rfl⟩
   refine zaf fun K35 hK35 => ?_
   refine zab hp zad hc rfl fun K36 hK36 => ?_
   simp -dsimp -implicitDefEqProofs (disch := first | assumption | omega | (simp [maxLen, zah, za0] <;> omega) | decide) only [q_r, zam, zac, zc1, zar, ↓reduceIte, Nat.reduceEqDiff, iD, zee, zes, zea, zeb, zc3]
   refine hK36 _ _ ?_
   refine zag rfl (fun ht => ?_) (fun ht => ?_)
   ·have hlt : k < rs.length := by simp at ht; omega
    refine zan (hK35 _ _ ?_)
    refine zaf fun K37 hK37 => ?_
    refine zaq ?_
    refine zbo zad hc mixed rfl (q := 0) (by kernel_rfl) (by kernel_rfl) fun K38 hK38 => ?_
    rcases (show nth rs k < 0 ∨ (0 ≤ nth rs k ∧ 2 + (ns.length : Int) ≤ nth rs k) ∨ (0 ≤ nth rs k ∧ nth rs k < 2 + (ns.length : Int)) by omega) with p | ⟨p, p'⟩ | ⟨p, p'⟩
    ·have p1 : decide (nth rs k < 0) = true := by simp; omega
     have p2 := p1
     have hu : zh7 (2 + ns.length) (nth rs k) = true := by unfold zh7; rw [p1]; rfl
     simp -dsimp -implicitDefEqProofs (disch := first | assumption | omega | (simp [maxLen, zah, za0] <;> omega) | decide) only [q_r, zam, zac, ixO, zai, ↓reduceIte, List.append_nil, List.replicate_zero, Int.toNat_natCast, Nat.reduceEqDiff, killAll, iD, Nat.reduceAdd, p1, zes, zea, zeb, zc3, zci, zcn]
     refine hK38 _ _ ?_
     refine zag rfl (fun ht => ?_) (fun ht => ?_)
     ·refine zab hp zad hc rfl fun K39 hK39 => ?_
      simp -dsimp -implicitDefEqProofs (disch := first | assumption | omega | (simp [maxLen, zah, za0] <;> omega) | decide) only [q_r]
      refine hK39 _ _ ?_
      refine zao ?_
      show zaj _ _ = _
      simp (disch := first | assumption | omega | (simp [maxLen, zah, za0] <;> omega) | decide) only [zaj, zct, za1, Nat.zero_add, D.fix, zat, ↓reduceIte, Option.map_some, List.length_cons, List.length_nil, oD]
      rw [hva, zoz, zgo hlt hu]; rfl
     ·cases ht
    ·have p1 : decide (nth rs k < 0) = false := by simp; omega
     have p2 : decide (2 + (ns.length : Int) ≤ nth rs k) = true := by simp; omega
     have hu : zh7 (2 + ns.length) (nth rs k) = true := by unfold zh7; rw [p2]; simp
     simp -dsimp -implicitDefEqProofs (disch := first | assumption | omega | (simp [maxLen, zah, za0] <;> omega) | decide) only [q_r, zam, zac, ixO, zai, zc1, zar, ↓reduceIte, List.append_nil, List.replicate_zero, Int.toNat_natCast, Nat.reduceEqDiff, killAll, iD, Nat.reduceAdd, p1, p2, zes, zea, zeb, zc3, zci, zcn, zbk, zcj, zck, zcm]
     refine hK38 _ _ ?_
     refine zag rfl (fun ht => ?_) (fun ht => ?_)
     ·refine zab hp zad hc rfl fun K40 hK40 => ?_
      simp -dsimp -implicitDefEqProofs (disch := first | assumption | omega | (simp [maxLen, zah, za0] <;> omega) | decide) only [q_r]
      refine hK40 _ _ ?_
      refine zao ?_
      show zaj _ _ = _
      simp (disch := first | assumption | omega | (simp [maxLen, zah, za0] <;> omega) | decide) only [zaj, zct, za1, Nat.zero_add, D.fix, zat, ↓reduceIte, Option.map_some, List.length_cons, List.length_nil, oD]
      rw [hva, zoz, zgo hlt hu]; rfl
     ·cases ht
    ·have p1 : decide (nth rs k < 0) = false := by simp; omega
     have p2 : decide (2 + (ns.length : Int) ≤ nth rs k) = false := by simp; omega
     have hu : zh7 (2 + ns.length) (nth rs k) = false := by unfold zh7; rw [p1, p2]; rfl
     simp -dsimp -implicitDefEqProofs (disch := first | assumption | omega | (simp [maxLen, zah, za0] <;> omega) | decide) only [q_r, zam, zac, ixO, zai, zc1, zar, ↓reduceIte, List.append_nil, List.replicate_zero, Int.toNat_natCast, Nat.reduceEqDiff, killAll, iD, Nat.reduceAdd, p1, p2, zes, zea, zeb, zc3, zci, zcn, zbk, zcj, zck, zcm]
     refine hK38 _ _ ?_
     refine zag rfl (fun ht => ?_) (fun ht => ?_)
     ·cases ht
     ·refine zan (hK37 _ _ ?_)
      refine zbs hp zad hc rfl fun K41 hK41 => ?_
      simp -dsimp -implicitDefEqProofs (disch := first | assumption | omega | (simp [maxLen, zah, za0] <;> omega) | decide) only [q_r, ↓reduceIte, Nat.reduceEqDiff]
      refine hK41 _ _ ⟨_, _, _, ?_, ⟨k + 1, ⟨by omega, by rw [zmg hlt, hno, hu]; rfl⟩, rfl, rfl, rfl⟩, ?_⟩
      ·first | omega | (simp only [List.length_cons]; omega) | (dsimp only; omega)
      ·refine Rt.end (zaa (zaa (zae _) rfl) rfl) ?_
       first | rfl | (simp only [zay, zas, zbm, zbr, zbp, gcH, zbb, zc7, zc0, zcq, zi5, zap, zcb, gcV, zei, fzH, zen, zdc, zdf, zbw, Nat.reduceAdd, zga, fzV, zcp, za2, zav, List.map_cons, List.map_nil, List.getD_cons_zero, List.getD_cons_succ, ↓reduceIte, Nat.reduceEqDiff, Option.map_some, List.set_cons_zero, List.set_cons_succ, zbf, zax, Nat.mul_one, List.length_map, List.cons_append, List.nil_append, zi2, zee, niA, zqs, zoc, zqt, zqu, zqv, zpf, zqw, znh, zeq, zdw, zer, zdv, zcy]; first | done | rfl)
   ·have hke : k = rs.length := by simp at ht; omega
    rw [hke, List.take_length] at hno
    refine zbd (hK33 _ _ ?_)
    refine zab hp zad hc rfl fun K42 hK42 => ?_
    simp -dsimp -implicitDefEqProofs (disch := first | assumption | omega | (simp [maxLen, zah, za0] <;> omega) | decide) only [q_r]
    refine hK42 _ _ ?_
    refine zao ?_
    show zaj _ _ = _
    simp (disch := first | assumption | omega | (simp [maxLen, zah, za0] <;> omega) | decide) only [zaj, zct, za1, Nat.zero_add, D.fix, zat, ↓reduceIte, Option.map_some, List.length_cons, List.length_nil, oD]
    rw [hva, zoz, hno]; rfl
end Go.Proofs.Ytgfnpfchdlcoeaa
