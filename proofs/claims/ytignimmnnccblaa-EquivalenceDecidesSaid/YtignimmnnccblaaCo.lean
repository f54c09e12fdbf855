/- The count and the path. -/
import Derived.Test.YtignimmnnccblaaQr
import Derived.Test.YtignimmnnccblaaCk
set_option linter.unusedVariables false
set_option linter.unusedSimpArgs false
set_option maxRecDepth 100000
set_option maxHeartbeats 4000000
namespace Go.Proofs.Ytignimmnnccblaa
open Go Go.RowKit
theorem zer : ((((((type_of% @zeg) ∧ (type_of% @zeh)) ∧ ((type_of% @ze4) ∧ (type_of% @ze5))) ∧ (((type_of% @ze7) ∧ (type_of% @zf6)) ∧ ((type_of% @zf7) ∧ (type_of% @zf3)))) ∧ ((((type_of% @zf4) ∧ (type_of% @zf5)) ∧ ((type_of% @zjo) ∧ (type_of% @zdm))) ∧ (((type_of% @zdn) ∧ (type_of% @zdo)) ∧ ((type_of% @zdv) ∧ ((type_of% @zkk) ∧ (type_of% @zkl)))))) ∧ (((((type_of% @zkm) ∧ (type_of% @zkg)) ∧ ((type_of% @zkh) ∧ (type_of% @zki))) ∧ (((type_of% @zkj) ∧ (type_of% @zf8)) ∧ ((type_of% @zf9) ∧ (type_of% @zhp)))) ∧ ((((type_of% @zho) ∧ (type_of% @zex)) ∧ ((type_of% @zey) ∧ (type_of% @zga))) ∧ (((type_of% @zgb) ∧ (type_of% @znt)) ∧ ((type_of% @znu) ∧ ((type_of% @zgc) ∧ (type_of% @zgd))))))) := ⟨⟨⟨⟨⟨@zeg, @zeh⟩, ⟨@ze4, @ze5⟩⟩, ⟨⟨@ze7, @zf6⟩, ⟨@zf7, @zf3⟩⟩⟩, ⟨⟨⟨@zf4, @zf5⟩, ⟨@zjo, @zdm⟩⟩, ⟨⟨@zdn, @zdo⟩, ⟨@zdv, ⟨@zkk, @zkl⟩⟩⟩⟩⟩, ⟨⟨⟨⟨@zkm, @zkg⟩, ⟨@zkh, @zki⟩⟩, ⟨⟨@zkj, @zf8⟩, ⟨@zf9, @zhp⟩⟩⟩, ⟨⟨⟨@zho, @zex⟩, ⟨@zey, @zga⟩⟩, ⟨⟨@zgb, @znt⟩, ⟨@znu, ⟨@zgc, @zgd⟩⟩⟩⟩⟩⟩
theorem jk8 {V n : Nat} : ∀ {t : T} {k : Nat}, t.Ok V k → (∀ v ∈ t.vs, v < n) → t.Ok n k
 | .leaf b, _, _, _ => trivial
 | .node u l h, k, ht, hv => ⟨ht.1, hv u (by simp [T.vs]), ht.2.2.1, jk8 ht.2.2.2.1 fun v h' => hv v (by simp [T.vs, h']), jk8 ht.2.2.2.2 fun v h' => hv v (by simp [T.vs, h'])⟩
def zl9 (us : List T) (node n : Int) : Bool := zjh us node && (decide (0 ≤ n) && (decide (n ≤ 60) && (ziq (zcp us node)).all fun x => decide (x < n)))
def jqw (us : List T) (node n : Int) : Int := if zl9 us node n then 0 else 1
theorem jk9 {us : List T} {node n : Int} (h : zl9 us node n = true) : jqw us node n = 0 := by unfold jqw; rw [if_pos h]
theorem zy6 {us : List T} {node n : Int} (h : zl9 us node n = false) : jqw us node n = 1 := by unfold jqw; rw [if_neg (by simp [h])]
theorem jqx {V : Nat} {us : List T} (hr : RowOk V us) (hV : V ≤ 1000) {node n : Int} (h : zl9 us node n = true) : 0 ≤ node ∧ node < 2 + us.length ∧ 0 ≤ n ∧ n ≤ 60 ∧ zcp us node ∈ zbr us ∧ (zcp us node).Ok n.toNat 0 := by
 simp only [zl9, zjh, Bool.and_eq_true, decide_eq_true_eq, List.all_eq_true] at h
 obtain ⟨⟨h1, h2⟩, h3, h4, h5⟩ := h
 have ht : zcp us node ∈ zbr us := jdp (us := us) (k := node.toNat) (by omega)
 refine ⟨h1, h2, h3, h4, ht, jk8 (hr.okf ht) fun v hv => ?_⟩
 have := h5 (v : Int) ((ztx hV (hr.okf ht)).2 ⟨v, hv, rfl⟩)
 omega
theorem jdt {l : List Int} (h : l.Pairwise (fun a b => a < b)) (h0 : l ≠ []) (n : Int) : (l.all fun x => decide (x < n)) = decide (nth l (l.length - 1) < n) := by
 have hpos : 0 < l.length := List.length_pos_iff.2 h0
 have hm := zb9 (l := l) (k := l.length - 1) (by omega)
 rw [Bool.eq_iff_iff]
 simp only [List.all_eq_true, decide_eq_true_eq]
 refine ⟨fun h' => h' _ hm, fun h' x hx => ?_⟩
 obtain ⟨i, hi, rfl⟩ := List.getElem_of_mem hx
 rw [zb6 (by omega)] at h'
 by_cases e : i = l.length - 1
 ·subst e; exact h'
 ·have := List.pairwise_iff_getElem.1 h i (l.length - 1) hi (by omega) (by omega)
  omega
theorem jla (V : Nat) (us : List T) (rs : List Nat) (hr : RowOk V us) (hV : V ≤ 1000) (hul : us.length ≤ zel) (node n : Int) : zbd Try.prog 69 [zbw (zlp us) rs, iD node, iD n] (.d (iD (jqw us node n))) := by
 have hul0 := hul
 unfold zel at hul
 have hel := zal us
 refine zbg (fn := Try.f69) (by kernel_rfl) Try.func69 rfl (Nat.le_of_ble_eq_true rfl) fun c hc hp => ?_
 refine zbh (τ' := frL [(0, .d (zbw (zlp us) rs)), (1, .d (iD node)), (2, .d (iD n))]) (by repeat (first | exact zam _ | refine zai ?_ (by first | rfl | (simp [r_f, zad, zal]; done) | simp [r_f, zad, zal, *]))) ?_
 refine zac hp zak hc rfl fun K1 hK1 => ?_
 simp -dsimp -implicitDefEqProofs (disch := first | assumption | omega | (simp only [r_z, zad, zal] <;> omega) | decide) only [r_r, ↓reduceIte, Nat.reduceEqDiff, Nat.reduceAdd, D.fix, Int.reduceToNat, Nat.reduceMul, Nat.reduceBNe, Nat.reduceBEq, zbw, zb1, zer]
 refine hK1 _ _ ?_
 refine zao fun K2 hK2 => ?_
 refine zac hp zak hc rfl fun K3 hK3 => ?_
 rcases (show node < 0 ∨ (0 ≤ node ∧ 2 + (us.length : Int) ≤ node) ∨ (0 ≤ node ∧ node < 2 + (us.length : Int) ∧ n < 0) ∨ (0 ≤ node ∧ node < 2 + (us.length : Int) ∧ 0 ≤ n ∧ 60 < n) ∨ (0 ≤ node ∧ node < 2 + (us.length : Int) ∧ 0 ≤ n ∧ n ≤ 60) by omega) with q | ⟨q, q'⟩ | ⟨q, q', q''⟩ | ⟨q, q', q'', q4⟩ | ⟨q, q', q'', q4⟩
 ·have q1 : decide (node < 0) = true := by simp; omega
  have q2 := q1
  have q3 := q1
  have q5 := q1
  have hx : zl9 us node n = false := by simp [zl9, zjh]; omega
  simp -dsimp -implicitDefEqProofs (disch := first | assumption | omega | (simp only [r_z, zad, zal] <;> omega) | decide) only [r_r, ↓reduceIte, Nat.reduceEqDiff, Nat.reduceAdd, D.fix, Int.reduceToNat, Nat.reduceMul, Nat.reduceBNe, Nat.reduceBEq, zbw, zb1, q1, q2, q3, q5, zer]
  refine hK3 _ _ ?_
  refine zaq rfl (fun ht => ?_) (fun ht => ?_)
  ·refine zac hp zak hc rfl fun K4 hK4 => ?_
   simp -dsimp -implicitDefEqProofs (disch := first | assumption | omega | (simp only [r_z, zad, zal] <;> omega) | decide) only [r_r, ↓reduceIte, Nat.reduceEqDiff, Nat.reduceAdd, D.fix, Int.reduceToNat, Nat.reduceMul, Nat.reduceBNe, Nat.reduceBEq, zbw, zb1]
   refine hK4 _ _ ?_
   refine za4 ?_
   show closeA _ _ = _
   simp (disch := first | assumption | omega | (simp only [r_z, zad, zal] <;> omega) | decide) only [r_c, Nat.reduceAdd, D.fix, ↓reduceIte, Nat.reduceEqDiff, zbw, zb1]
   rw [zy6 hx]
  ·cases ht
 ·have q1 : decide (node < 0) = false := by simp; omega
  have q2 : decide (2 + ((zlp us).length : Int) ≤ node) = true := by simp [hel]; omega
  have q3 := q1
  have q5 := q1
  have hx : zl9 us node n = false := by simp [zl9, zjh]; omega
  simp -dsimp -implicitDefEqProofs (disch := first | assumption | omega | (simp only [r_z, zad, zal] <;> omega) | decide) only [r_r, ↓reduceIte, Nat.reduceEqDiff, Nat.reduceAdd, D.fix, Int.reduceToNat, Nat.reduceMul, Nat.reduceBNe, Nat.reduceBEq, zbw, zb1, q1, q2, q3, q5, zer]
  refine hK3 _ _ ?_
  refine zaq rfl (fun ht => ?_) (fun ht => ?_)
  ·refine zac hp zak hc rfl fun K5 hK5 => ?_
   simp -dsimp -implicitDefEqProofs (disch := first | assumption | omega | (simp only [r_z, zad, zal] <;> omega) | decide) only [r_r, ↓reduceIte, Nat.reduceEqDiff, Nat.reduceAdd, D.fix, Int.reduceToNat, Nat.reduceMul, Nat.reduceBNe, Nat.reduceBEq, zbw, zb1]
   refine hK5 _ _ ?_
   refine za4 ?_
   show closeA _ _ = _
   simp (disch := first | assumption | omega | (simp only [r_z, zad, zal] <;> omega) | decide) only [r_c, Nat.reduceAdd, D.fix, ↓reduceIte, Nat.reduceEqDiff, zbw, zb1]
   rw [zy6 hx]
  ·cases ht
 ·have q1 : decide (node < 0) = false := by simp; omega
  have q2 : decide (2 + ((zlp us).length : Int) ≤ node) = false := by simp [hel]; omega
  have q3 : decide (n < 0) = true := by simp; omega
  have q5 := q1
  have hx : zl9 us node n = false := by simp [zl9, zjh]; omega
  simp -dsimp -implicitDefEqProofs (disch := first | assumption | omega | (simp only [r_z, zad, zal] <;> omega) | decide) only [r_r, ↓reduceIte, Nat.reduceEqDiff, Nat.reduceAdd, D.fix, Int.reduceToNat, Nat.reduceMul, Nat.reduceBNe, Nat.reduceBEq, zbw, zb1, q1, q2, q3, q5, zer]
  refine hK3 _ _ ?_
  refine zaq rfl (fun ht => ?_) (fun ht => ?_)
  ·refine zac hp zak hc rfl fun K6 hK6 => ?_
   simp -dsimp -implicitDefEqProofs (disch := first | assumption | omega | (simp only [r_z, zad, zal] <;> omega) | decide) only [r_r, ↓reduceIte, Nat.reduceEqDiff, Nat.reduceAdd, D.fix, Int.reduceToNat, Nat.reduceMul, Nat.reduceBNe, Nat.reduceBEq, zbw, zb1]
   refine hK6 _ _ ?_
   refine za4 ?_
   show closeA _ _ = _
   simp (disch := first | assumption | omega | (simp only [r_z, zad, zal] <;> omega) | decide) only [r_c, Nat.reduceAdd, D.fix, ↓reduceIte, Nat.reduceEqDiff, zbw, zb1]
   rw [zy6 hx]
  ·cases ht
 ·have q1 : decide (node < 0) = false := by simp; omega
  have q2 : decide (2 + ((zlp us).length : Int) ≤ node) = false := by simp [hel]; omega
  have q3 : decide (n < 0) = false := by simp; omega
  have q5 : decide (60 < n) = true := by simp; omega
  have hx : zl9 us node n = false := by simp [zl9, zjh]; omega
  simp -dsimp -implicitDefEqProofs (disch := first | assumption | omega | (simp only [r_z, zad, zal] <;> omega) | decide) only [r_r, ↓reduceIte, Nat.reduceEqDiff, Nat.reduceAdd, D.fix, Int.reduceToNat, Nat.reduceMul, Nat.reduceBNe, Nat.reduceBEq, zbw, zb1, q1, q2, q3, q5, zer]
  refine hK3 _ _ ?_
  refine zaq rfl (fun ht => ?_) (fun ht => ?_)
  ·refine zac hp zak hc rfl fun K7 hK7 => ?_
   simp -dsimp -implicitDefEqProofs (disch := first | assumption | omega | (simp only [r_z, zad, zal] <;> omega) | decide) only [r_r, ↓reduceIte, Nat.reduceEqDiff, Nat.reduceAdd, D.fix, Int.reduceToNat, Nat.reduceMul, Nat.reduceBNe, Nat.reduceBEq, zbw, zb1]
   refine hK7 _ _ ?_
   refine za4 ?_
   show closeA _ _ = _
   simp (disch := first | assumption | omega | (simp only [r_z, zad, zal] <;> omega) | decide) only [r_c, Nat.reduceAdd, D.fix, ↓reduceIte, Nat.reduceEqDiff, zbw, zb1]
   rw [zy6 hx]
  ·cases ht
 ·have q1 : decide (node < 0) = false := by simp; omega
  have q2 : decide (2 + ((zlp us).length : Int) ≤ node) = false := by simp [hel]; omega
  have q3 : decide (n < 0) = false := by simp; omega
  have q5 : decide (60 < n) = false := by simp; omega
  have hnb : zjh us node = true := by unfold zjh; rw [decide_eq_true q, decide_eq_true q']; rfl
  have hx : zl9 us node n = (ziq (zcp us node)).all fun x => decide (x < n) := by simp [zl9, hnb, q'', q4]
  have hsb : jmb us node = ziq (zcp us node) := by unfold jmb; rw [if_pos hnb]
  simp -dsimp -implicitDefEqProofs (disch := first | assumption | omega | (simp only [r_z, zad, zal] <;> omega) | decide) only [r_r, ↓reduceIte, Nat.reduceEqDiff, Nat.reduceAdd, D.fix, Int.reduceToNat, Nat.reduceMul, Nat.reduceBNe, Nat.reduceBEq, zbw, zb1, q1, q2, q3, q5, zer]
  refine hK3 _ _ ?_
  refine zaq rfl (fun ht => ?_) (fun ht => ?_)
  ·cases ht
  ·refine zay (hK2 _ _ ?_)
   refine zao fun K8 hK8 => ?_
   refine zac hp zak hc rfl fun K9 hK9 => ?_
   simp -dsimp -implicitDefEqProofs (disch := first | assumption | omega | (simp only [r_z, zad, zal] <;> omega) | decide) only [r_r, ↓reduceIte, Nat.reduceEqDiff, Nat.reduceAdd, D.fix, Int.reduceToNat, Nat.reduceMul, Nat.reduceBNe, Nat.reduceBEq, zbw, zb1, zer]
   refine zb8 (jds V us rs hr hV hul0 node) rfl ?_
   simp -dsimp -implicitDefEqProofs (disch := first | assumption | omega | (simp only [r_z, zad, zal] <;> omega) | decide) only [r_r, ↓reduceIte, Nat.reduceEqDiff, Nat.reduceAdd, D.fix, Int.reduceToNat, Nat.reduceMul, Nat.reduceBNe, Nat.reduceBEq, zbw, zb1, zer]
   have hsl := jdr (zcp us node)
   rw [hsb]
   refine hK9 _ _ ?_
   refine zac hp zak hc rfl fun K10 hK10 => ?_
   rcases (show ziq (zcp us node) = [] ∨ (ziq (zcp us node) ≠ [] ∧ n ≤ nth (ziq (zcp us node)) ((ziq (zcp us node)).length - 1)) ∨ (ziq (zcp us node) ≠ [] ∧ nth (ziq (zcp us node)) ((ziq (zcp us node)).length - 1) < n) by by_cases h : ziq (zcp us node) = [] <;> simp [h]; omega) with p | ⟨p, p'⟩ | ⟨p, p'⟩
   ·have p1 : decide (0 < ((ziq (zcp us node)).length : Int)) = false := by simp [p]
    have p2 := p1
    have p3 := p1
    have hx2 : zl9 us node n = true := by rw [hx, p]; rfl
    simp -dsimp -implicitDefEqProofs (disch := first | assumption | omega | (simp only [r_z, zad, zal] <;> omega) | decide) only [r_r, ↓reduceIte, Nat.reduceEqDiff, Nat.reduceAdd, D.fix, Int.reduceToNat, Nat.reduceMul, Nat.reduceBNe, Nat.reduceBEq, zbw, zb1, p1, p2, p3, zer]
    refine hK10 _ _ ?_
    refine zaq rfl (fun ht => ?_) (fun ht => ?_)
    ·cases ht
    ·refine zay (hK8 _ _ ?_)
     refine zac hp zak hc rfl fun K11 hK11 => ?_
     simp -dsimp -implicitDefEqProofs (disch := first | assumption | omega | (simp only [r_z, zad, zal] <;> omega) | decide) only [r_r, ↓reduceIte, Nat.reduceEqDiff, Nat.reduceAdd, D.fix, Int.reduceToNat, Nat.reduceMul, Nat.reduceBNe, Nat.reduceBEq, zbw, zb1]
     refine hK11 _ _ ?_
     refine za4 ?_
     show closeA _ _ = _
     simp (disch := first | assumption | omega | (simp only [r_z, zad, zal] <;> omega) | decide) only [r_c, Nat.reduceAdd, D.fix, ↓reduceIte, Nat.reduceEqDiff, zbw, zb1]
     rw [jk9 hx2]
   ·have ppos : 0 < (ziq (zcp us node)).length := List.length_pos_iff.2 p
    have p1 : decide (0 < ((ziq (zcp us node)).length : Int)) = true := by simp; omega
    have p2 : (((ziq (zcp us node)).length : Int) - 1).toNat = (ziq (zcp us node)).length - 1 := by omega
    have p3 : decide (n ≤ nth (ziq (zcp us node)) ((ziq (zcp us node)).length - 1)) = true := by simpa using p'
    have hx2 : zl9 us node n = false := by rw [hx, jdt (zmp _) p]; simp; omega
    simp -dsimp -implicitDefEqProofs (disch := first | assumption | omega | (simp only [r_z, zad, zal] <;> omega) | decide) only [r_r, ↓reduceIte, Nat.reduceEqDiff, Nat.reduceAdd, D.fix, Int.reduceToNat, Nat.reduceMul, Nat.reduceBNe, Nat.reduceBEq, zbw, zb1, p1, p2, p3, zer]
    refine hK10 _ _ ?_
    refine zaq rfl (fun ht => ?_) (fun ht => ?_)
    ·refine zac hp zak hc rfl fun K12 hK12 => ?_
     simp -dsimp -implicitDefEqProofs (disch := first | assumption | omega | (simp only [r_z, zad, zal] <;> omega) | decide) only [r_r, ↓reduceIte, Nat.reduceEqDiff, Nat.reduceAdd, D.fix, Int.reduceToNat, Nat.reduceMul, Nat.reduceBNe, Nat.reduceBEq, zbw, zb1]
     refine hK12 _ _ ?_
     refine za4 ?_
     show closeA _ _ = _
     simp (disch := first | assumption | omega | (simp only [r_z, zad, zal] <;> omega) | decide) only [r_c, Nat.reduceAdd, D.fix, ↓reduceIte, Nat.reduceEqDiff, zbw, zb1]
     rw [zy6 hx2]
    ·cases ht
   ·have ppos : 0 < (ziq (zcp us node)).length := List.length_pos_iff.2 p
    have p1 : decide (0 < ((ziq (zcp us node)).length : Int)) = true := by simp; omega
    have p2 : (((ziq (zcp us node)).length : Int) - 1).toNat = (ziq (zcp us node)).length - 1 := by omega
    have p3 : decide (n ≤ nth (ziq (zcp us node)) ((ziq (zcp us node)).length - 1)) = false := by simp; omega
    have hx2 : zl9 us node n = true := by rw [hx, jdt (zmp _) p]; simp; omega
    simp -dsimp -implicitDefEqProofs (disch := first | assumption | omega | (simp only [r_z, zad, zal] <;> omega) | decide) only [r_r, ↓reduceIte, Nat.reduceEqDiff, Nat.reduceAdd, D.fix, Int.reduceToNat, Nat.reduceMul, Nat.reduceBNe, Nat.reduceBEq, zbw, zb1, p1, p2, p3, zer]
    refine hK10 _ _ ?_
    refine zaq rfl (fun ht => ?_) (fun ht => ?_)
    ·cases ht
    ·refine zay (hK8 _ _ ?_)
     refine zac hp zak hc rfl fun K13 hK13 => ?_
     simp -dsimp -implicitDefEqProofs (disch := first | assumption | omega | (simp only [r_z, zad, zal] <;> omega) | decide) only [r_r, ↓reduceIte, Nat.reduceEqDiff, Nat.reduceAdd, D.fix, Int.reduceToNat, Nat.reduceMul, Nat.reduceBNe, Nat.reduceBEq, zbw, zb1]
     refine hK13 _ _ ?_
     refine za4 ?_
     show closeA _ _ = _
     simp (disch := first | assumption | omega | (simp only [r_z, zad, zal] <;> omega) | decide) only [r_c, Nat.reduceAdd, D.fix, ↓reduceIte, Nat.reduceEqDiff, zbw, zb1]
     rw [jk9 hx2]
def anyT (us : List T) : T → List Bool → List Bool
 | .leaf _, r => r
 | .node v l h, r => if num us l = 0 then anyT us h (setAt r v true) else anyT us l (setAt r v false)
where setAt (r : List Bool) (v : Nat) (b : Bool) : List Bool := r.set v b
def jgh (us : List T) (node n : Int) : List Bool := if zl9 us node n && decide (node ≠ 0) then anyT us (zcp us node) (List.replicate n.toNat false) else []
def jgi (us : List T) (node n : Int) : Int := if zl9 us node n then (if node = 0 then 4 else 0) else 1
theorem jsv (V : Nat) (us : List T) (rs : List Nat) (hr : RowOk V us) (hV : V ≤ 1000) (hul : us.length ≤ zel) (node n : Int) : zbd Try.prog 49 [zbw (zlp us) rs, iD node, iD n] (.tup [.d (boolsD (jgh us node n)), .d (iD (jgi us node n))]) := by
 have hul0 := hul
 unfold zel at hul
 have hel := zal us
 refine zbg (fn := Try.f49) (by kernel_rfl) Try.func49 rfl (Nat.le_of_ble_eq_true rfl) fun c hc hp => ?_
 refine zbh (τ' := frL [(0, .d (zbw (zlp us) rs)), (1, .d (iD node)), (2, .d (iD n))]) (by repeat (first | exact zam _ | refine zai ?_ (by first | rfl | (simp [r_f, zad, zal, hnt]; done) | simp [r_f, zad, zal, hnt, *]))) ?_
 refine zac hp zak hc rfl fun K1 hK1 => ?_
 simp -dsimp -implicitDefEqProofs (disch := first | assumption | omega | (simp only [r_z, zad, zal] <;> omega) | decide) only [r_r, ↓reduceIte, Nat.reduceEqDiff, Nat.reduceAdd, D.fix, Int.reduceToNat, Nat.reduceMul, Nat.reduceBNe, Nat.reduceBEq, zbw, zb1, zer]
 refine hK1 _ _ ?_
 refine zao fun K2 hK2 => ?_
 refine zac hp zak hc rfl fun K3 hK3 => ?_
 simp -dsimp -implicitDefEqProofs (disch := first | assumption | omega | (simp only [r_z, zad, zal] <;> omega) | decide) only [r_r, ↓reduceIte, Nat.reduceEqDiff, Nat.reduceAdd, D.fix, Int.reduceToNat, Nat.reduceMul, Nat.reduceBNe, Nat.reduceBEq, zbw, zb1, zer]
 refine zb8 (jla V us rs hr hV hul0 node n) rfl ?_
 simp -dsimp -implicitDefEqProofs (disch := first | assumption | omega | (simp only [r_z, zad, zal] <;> omega) | decide) only [r_r, ↓reduceIte, Nat.reduceEqDiff, Nat.reduceAdd, D.fix, Int.reduceToNat, Nat.reduceMul, Nat.reduceBNe, Nat.reduceBEq, zbw, zb1, zer]
 refine hK3 _ _ ?_
 refine zac hp zak hc rfl fun K4 hK4 => ?_
 rcases (show zl9 us node n = true ∨ zl9 us node n = false by cases zl9 us node n <;> simp) with q | q
 ·have hae := jk9 q
  obtain ⟨b1, b2, b3, b4, hti, hok0⟩ := jqx hr hV q
  have hnt : (num us (zcp us node) : Int) = node := by unfold zcp; rw [zql hr (k := node.toNat) (by omega)]; omega
  rw [hae]
  simp -dsimp -implicitDefEqProofs (disch := first | assumption | omega | (simp only [r_z, zad, zal] <;> omega) | decide) only [r_r, ↓reduceIte, Nat.reduceEqDiff, Nat.reduceAdd, D.fix, Int.reduceToNat, Nat.reduceMul, Nat.reduceBNe, Nat.reduceBEq, zbw, zb1, zer]
  refine hK4 _ _ ?_
  refine zaq rfl (fun ht => ?_) (fun ht => ?_)
  ·cases ht
  ·refine zay (hK2 _ _ ?_)
   refine zao fun K5 hK5 => ?_
   refine zac hp zak hc rfl fun K6 hK6 => ?_
   by_cases hn0 : node = 0
   ·have p0 : decide (node = 0) = true := by simpa using hn0
    simp -dsimp -implicitDefEqProofs (disch := first | assumption | omega | (simp only [r_z, zad, zal] <;> omega) | decide) only [r_r, ↓reduceIte, Nat.reduceEqDiff, Nat.reduceAdd, D.fix, Int.reduceToNat, Nat.reduceMul, Nat.reduceBNe, Nat.reduceBEq, zbw, zb1, zer]
    refine hK6 _ _ ?_
    refine zaq rfl (fun ht => ?_) (fun ht => ?_)
    ·refine zac hp zak hc rfl fun K7 hK7 => ?_
     simp -dsimp -implicitDefEqProofs (disch := first | assumption | omega | (simp only [r_z, zad, zal] <;> omega) | decide) only [r_r, ↓reduceIte, Nat.reduceEqDiff, Nat.reduceAdd, D.fix, Int.reduceToNat, Nat.reduceMul, Nat.reduceBNe, Nat.reduceBEq, zbw, zb1]
     refine hK7 _ _ ?_
     refine za4 ?_
     show closeA _ _ = _
     simp (disch := first | assumption | omega | (simp only [r_z, zad, zal] <;> omega) | decide) only [r_c, Nat.reduceAdd, D.fix, ↓reduceIte, Nat.reduceEqDiff, zbw, zb1]
     subst hn0
     simp [jgh, jgi, q]
    ·simp [hn0] at ht
   ·have p0 : decide (node = 0) = false := by simpa using hn0
    simp -dsimp -implicitDefEqProofs (disch := first | assumption | omega | (simp only [r_z, zad, zal] <;> omega) | decide) only [r_r, ↓reduceIte, Nat.reduceEqDiff, Nat.reduceAdd, D.fix, Int.reduceToNat, Nat.reduceMul, Nat.reduceBNe, Nat.reduceBEq, zbw, zb1, zer]
    refine hK6 _ _ ?_
    refine zaq rfl (fun ht => ?_) (fun ht => ?_)
    ·simp [hn0] at ht
    ·refine zay (hK5 _ _ ?_)
     refine zac hp zak hc rfl fun K8 hK8 => ?_
     simp -dsimp -implicitDefEqProofs (disch := first | assumption | omega | (simp only [r_z, zad, zal] <;> omega) | decide) only [r_r, ↓reduceIte, Nat.reduceEqDiff, Nat.reduceAdd, D.fix, Int.reduceToNat, Nat.reduceMul, Nat.reduceBNe, Nat.reduceBEq, zbw, zb1, zer]
     refine hK8 _ _ ?_
     refine zao fun K9 hK9 => ?_
     refine zaz ?_
     refine zbb hp (fun τ' H' mm => ∃ (t : T) (r : List Bool), (t ∈ zbr us ∧ t.Ok n.toNat 0 ∧ r.length = n.toNat ∧ anyT us t r = anyT us (zcp us node) (List.replicate n.toNat false)) ∧ mm = t.sz ∧ H' = [.cells (avs (zb1 (zlp us) rs)), .cells (avs (r.map oD))] ∧ τ' = frL [(1, .d (iD (num us t))), (3, .op 0 0), (9, .os 1 1 0 n.toNat)]) ((zcp us node).sz) ?_ ⟨zcp us node, _, ⟨hti, hok0, by simp, rfl⟩, rfl, rfl, rfl⟩ ?_
     ·refine Rt.end (by repeat (first | exact zam _ | refine zai ?_ (by first | rfl | (simp [r_f, zad, zal, hnt]; done) | simp [r_f, zad, zal, hnt, *]))) ?_
      simp only [r_g, Nat.reduceAdd, ↓reduceIte, Nat.reduceEqDiff, zbw, zb1]; simp [oD]
     rintro τ' H' mm ⟨t, r, ⟨htf, hto, hrl, hta⟩, rfl, rfl, rfl⟩
     refine zao fun K10 hK10 => ?_
     refine zac hp zak hc rfl fun K11 hK11 => ?_
     simp -dsimp -implicitDefEqProofs (disch := first | assumption | omega | (simp only [r_z, zad, zal] <;> omega) | decide) only [r_r, ↓reduceIte, Nat.reduceEqDiff, Nat.reduceAdd, D.fix, Int.reduceToNat, Nat.reduceMul, Nat.reduceBNe, Nat.reduceBEq, zbw, zb1, zer]
     refine hK11 _ _ ?_
     refine zaq rfl (fun ht => ?_) (fun ht => ?_)
     ·have h2 : t.lf = false := by
       rcases zqj t with h | h
       ·have := jjp (us := us) h; simp at ht; omega
       ·exact h
      obtain ⟨v, lo, hi, rfl⟩ := zqk h2
      have h3 := zl2 hr htf h2
      have hlt := zee htf
      have hx1 : ((num us (.node v lo hi) : Int) - 2).toNat = num us (.node v lo hi) - 2 := by omega
      have hg := zxy hr htf h2
      have hcl : lo ∈ zbr us := (hr.chf htf).1
      have hch : hi ∈ zbr us := (hr.chf htf).2
      have hvn : v < n.toNat := hto.2.1
      refine zay (hK10 _ _ ?_)
      refine zaz ?_
      refine zac hp zak hc rfl fun K12 hK12 => ?_
      simp -dsimp -implicitDefEqProofs (disch := first | assumption | omega | (simp only [r_z, zad, zal] <;> omega) | decide) only [r_r, ↓reduceIte, Nat.reduceEqDiff, Nat.reduceAdd, D.fix, Int.reduceToNat, Nat.reduceMul, Nat.reduceBNe, Nat.reduceBEq, zbw, zb1, hx1, zxn, jkv, hg, ndC, zjn, T.v, T.l, T.h, zer]
      refine hK12 _ _ ?_
      refine zac hp zak hc rfl fun K13 hK13 => ?_
      by_cases hz : num us lo = 0
      ·have z0 : ((num us lo : Int) == 0) = true := by simp; omega
       have hgs : nth (r.set v true) v = true := by rw [zb6 (by simp; omega)]; simp
       simp -dsimp -implicitDefEqProofs (disch := first | assumption | omega | (simp only [r_z, zad, zal] <;> omega) | decide) only [r_r, ↓reduceIte, Nat.reduceEqDiff, Nat.reduceAdd, D.fix, Int.reduceToNat, Nat.reduceMul, Nat.reduceBNe, Nat.reduceBEq, zbw, zb1, z0, zer]
       refine hK13 _ _ ?_
       refine zac hp zak hc rfl fun K14 hK14 => ?_
       simp -dsimp -implicitDefEqProofs (disch := first | assumption | omega | (simp only [r_z, zad, zal] <;> omega) | decide) only [r_r, ↓reduceIte, Nat.reduceEqDiff, Nat.reduceAdd, D.fix, Int.reduceToNat, Nat.reduceMul, Nat.reduceBNe, Nat.reduceBEq, zbw, zb1, hgs, zer]
       refine hK14 _ _ ?_
       refine zaq rfl (fun ht => ?_) (fun ht => ?_)
       ·refine zbt hp zak hc rfl fun K15 hK15 => ?_
        simp -dsimp -implicitDefEqProofs (disch := first | assumption | omega | (simp only [r_z, zad, zal] <;> omega) | decide) only [r_r, ↓reduceIte, Nat.reduceEqDiff, Nat.reduceAdd, D.fix, Int.reduceToNat, Nat.reduceMul, Nat.reduceBNe, Nat.reduceBEq, zbw, zb1, zer]
        refine hK15 _ _ ⟨_, _, _, ?_, ⟨hi, r.set v true, ⟨hch, hto.h_ok, by simpa using hrl, by rw [← hta]; show _ = if _ then _ else _; rw [if_pos hz]; rfl⟩, rfl, rfl, rfl⟩, ?_⟩
        ·first | omega | (simp only [List.length_cons]; omega) | (dsimp only; omega) | (simp only [T.sz]; omega)
        ·refine Rt.trans (Rt.gc (keep := [0,1]) (by decide) (by decide) (by simp [fzH, gcH])) ?_
         refine Rt.end (by repeat (first | exact zam _ | refine zai ?_ (by first | rfl | (simp [r_f, zad, zal, hnt]; done) | simp [r_f, zad, zal, hnt, *]))) ?_
         first | rfl | (simp only [r_g, Nat.reduceAdd, ↓reduceIte, Nat.reduceEqDiff, zbw, zb1]; first | done | rfl)
       ·cases ht
      ·have z0 : ((num us lo : Int) == 0) = false := by simp; omega
       have hgs : nth (r.set v false) v = false := by rw [zb6 (by simp; omega)]; simp
       simp -dsimp -implicitDefEqProofs (disch := first | assumption | omega | (simp only [r_z, zad, zal] <;> omega) | decide) only [r_r, ↓reduceIte, Nat.reduceEqDiff, Nat.reduceAdd, D.fix, Int.reduceToNat, Nat.reduceMul, Nat.reduceBNe, Nat.reduceBEq, zbw, zb1, z0, zer]
       refine hK13 _ _ ?_
       refine zac hp zak hc rfl fun K16 hK16 => ?_
       simp -dsimp -implicitDefEqProofs (disch := first | assumption | omega | (simp only [r_z, zad, zal] <;> omega) | decide) only [r_r, ↓reduceIte, Nat.reduceEqDiff, Nat.reduceAdd, D.fix, Int.reduceToNat, Nat.reduceMul, Nat.reduceBNe, Nat.reduceBEq, zbw, zb1, hgs, zer]
       refine hK16 _ _ ?_
       refine zaq rfl (fun ht => ?_) (fun ht => ?_)
       ·cases ht
       ·refine zbt hp zak hc rfl fun K17 hK17 => ?_
        simp -dsimp -implicitDefEqProofs (disch := first | assumption | omega | (simp only [r_z, zad, zal] <;> omega) | decide) only [r_r, ↓reduceIte, Nat.reduceEqDiff, Nat.reduceAdd, D.fix, Int.reduceToNat, Nat.reduceMul, Nat.reduceBNe, Nat.reduceBEq, zbw, zb1, zer]
        refine hK17 _ _ ⟨_, _, _, ?_, ⟨lo, r.set v false, ⟨hcl, hto.l_ok, by simpa using hrl, by rw [← hta]; show _ = if _ then _ else _; rw [if_neg hz]; rfl⟩, rfl, rfl, rfl⟩, ?_⟩
        ·first | omega | (simp only [List.length_cons]; omega) | (dsimp only; omega) | (simp only [T.sz]; omega)
        ·refine Rt.trans (Rt.gc (keep := [0,1]) (by decide) (by decide) (by simp [fzH, gcH])) ?_
         refine Rt.end (by repeat (first | exact zam _ | refine zai ?_ (by first | rfl | (simp [r_f, zad, zal, hnt]; done) | simp [r_f, zad, zal, hnt, *]))) ?_
         first | rfl | (simp only [r_g, Nat.reduceAdd, ↓reduceIte, Nat.reduceEqDiff, zbw, zb1]; first | done | rfl)
     ·refine zbn (hK9 _ _ ?_)
      refine zac hp zak hc rfl fun K18 hK18 => ?_
      simp -dsimp -implicitDefEqProofs (disch := first | assumption | omega | (simp only [r_z, zad, zal] <;> omega) | decide) only [r_r, ↓reduceIte, Nat.reduceEqDiff, Nat.reduceAdd, D.fix, Int.reduceToNat, Nat.reduceMul, Nat.reduceBNe, Nat.reduceBEq, zbw, zb1]
      refine hK18 _ _ ?_
      refine za4 ?_
      show closeA _ _ = _
      simp (disch := first | assumption | omega | (simp only [r_z, zad, zal] <;> omega) | decide) only [r_c, Nat.reduceAdd, D.fix, ↓reduceIte, Nat.reduceEqDiff, zbw, zb1]
      have h2 : t.lf = true := by
       rcases zqj t with h | h
       ·exact h
       ·have := zl2 hr htf h; simp at ht; omega
      have e : jgh us node n = r := by
       unfold jgh
       rw [if_pos (by simp [q, hn0]), ← hta]
       cases t with
       | leaf b => rfl
       | node v lo hi => cases h2
      have e2 : jgi us node n = 0 := by unfold jgi; rw [if_pos q, if_neg hn0]
      rw [e, e2, hrl]
 ·have hae := zy6 q
  rw [hae]
  simp -dsimp -implicitDefEqProofs (disch := first | assumption | omega | (simp only [r_z, zad, zal] <;> omega) | decide) only [r_r, ↓reduceIte, Nat.reduceEqDiff, Nat.reduceAdd, D.fix, Int.reduceToNat, Nat.reduceMul, Nat.reduceBNe, Nat.reduceBEq, zbw, zb1, zer]
  refine hK4 _ _ ?_
  refine zaq rfl (fun ht => ?_) (fun ht => ?_)
  ·refine zac hp zak hc rfl fun K19 hK19 => ?_
   simp -dsimp -implicitDefEqProofs (disch := first | assumption | omega | (simp only [r_z, zad, zal] <;> omega) | decide) only [r_r, ↓reduceIte, Nat.reduceEqDiff, Nat.reduceAdd, D.fix, Int.reduceToNat, Nat.reduceMul, Nat.reduceBNe, Nat.reduceBEq, zbw, zb1]
   refine hK19 _ _ ?_
   refine za4 ?_
   show closeA _ _ = _
   simp (disch := first | assumption | omega | (simp only [r_z, zad, zal] <;> omega) | decide) only [r_c, Nat.reduceAdd, D.fix, ↓reduceIte, Nat.reduceEqDiff, zbw, zb1]
   simp [jgh, jgi, q]
  ·cases ht
end Go.Proofs.Ytignimmnnccblaa

/- The count. -/
set_option linter.unusedVariables false
set_option linter.unusedSimpArgs false
namespace Go.Proofs.Ytignimmnnccblaa
open Go Go.RowKit
def jr3 (n : Nat) : T → Nat → Nat
 | .leaf b, k => if b then 2 ^ (n - k) else 0
 | .node v l h, k => (jr3 n l (v + 1) + jr3 n h (v + 1)) * 2 ^ (v - k)
def juj (n : Nat) (t : T) : Nat := jr3 n t.l (t.v + 1) + jr3 n t.h (t.v + 1)
theorem jgj {a b m : Nat} (h : a * 2 ^ m = b) (hb : b ≤ 1152921504606846976) (hm : m ≤ 60) : IntKind.i64.wrap ((a : Int) * 2 ^ min m 64) = (b : Int) := by
 rw [Nat.min_eq_left (by omega)]
 have e : ((a : Int) * 2 ^ m) = ((b : Nat) : Int) := by rw [← h]; push_cast; rfl
 rw [e]
 exact zto (by omega) (by omega)
structure COk (us : List T) (n : Nat) (μ : Mp) : Prop where
 ok : OkM Try.prog tI μ
 inv : ∀ t ∈ zbr us, ∀ u, zgw (vi (num us t)) μ = some u → u = vi (juj n t)
end Go.Proofs.Ytignimmnnccblaa

/- What Build refuses; its results, as the laws take them. -/
set_option linter.unusedVariables false
set_option linter.unusedSimpArgs false
set_option maxRecDepth 100000
set_option maxHeartbeats 4000000
namespace Go.Proofs.Ytignimmnnccblaa
open Go Go.RowKit
structure BIn (V : Nat) (n : Net) (sh : Sh) (nodes : List Int) : Prop where
 hsh : ShOk sh
 hV : zc3 n.ins.length sh = V
 hV9 : V ≤ 900
 hgs : ∀ k, k < n.gates.length → GOp (2 + n.ins.length + k) (nth n.gates k)
 hno : nodes.any (ztv (2 + n.ins.length + n.gates.length)) = false
 hnl : nodes.length ≤ 1000000
 hil : n.ins.length ≤ 1000
 hgl : n.gates.length ≤ 1000
 hB : n.ins.length + n.gates.length * (8 + 7 * 2 ^ V) + 32 * 2 ^ V ≤ zel
theorem BIn.build {V : Nat} {n : Net} {sh : Sh} {nodes : List Int} (h : BIn V n sh nodes) : RCalls Try.prog 48 [zaw n, shD sh, intsD nodes] (BuK V n sh nodes) := jk2 V n sh nodes h.hsh h.hV h.hV9 h.hgs h.hno h.hnl h.hil h.hgl h.hB
end Go.Proofs.Ytignimmnnccblaa

/- Which diagrams are valid. -/
set_option linter.unusedVariables false
set_option linter.unusedSimpArgs false
namespace Go.Proofs.Ytignimmnnccblaa
open Go Go.RowKit
structure NI where
 v : Int
 lo : Int
 hi : Int
deriving DecidableEq, Inhabited
structure N64 (n : NI) : Prop where
 v : I64 n.v
 lo : I64 n.lo
 hi : I64 n.hi
end Go.Proofs.Ytignimmnnccblaa
