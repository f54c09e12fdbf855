/- The count and the path. -/
import Derived.Test.YtignimmnnccblaaQr
import Derived.Test.YtignimmnnccblaaCk
set_option linter.unusedVariables false
set_option linter.unusedSimpArgs false
set_option maxRecDepth 100000
set_option maxHeartbeats 4000000
namespace Go.Proofs.Ytignimmnnccblaa
open Go Go.RowKit
theorem zer : ((((((type_of% @zeg) ∧ (type_of% @zeh)) ∧ ((type_of% @zex) ∧ (type_of% @zey))) ∧ (((type_of% @zfa) ∧ (type_of% @zgi)) ∧ ((type_of% @zgj) ∧ (type_of% @zgf)))) ∧ ((((type_of% @zgg) ∧ (type_of% @zgh)) ∧ ((type_of% @zjs) ∧ (type_of% @zde))) ∧ (((type_of% @zdf) ∧ (type_of% @zdg)) ∧ ((type_of% @zdq) ∧ ((type_of% @zko) ∧ (type_of% @zkp)))))) ∧ (((((type_of% @zkq) ∧ (type_of% @zkk)) ∧ ((type_of% @zkl) ∧ (type_of% @zkm))) ∧ (((type_of% @zkn) ∧ (type_of% @zgk)) ∧ ((type_of% @zgl) ∧ (type_of% @zhv)))) ∧ ((((type_of% @zhu) ∧ (type_of% @zez)) ∧ ((type_of% @ze0) ∧ (type_of% @zgm))) ∧ (((type_of% @zgn) ∧ (type_of% @zmk)) ∧ ((type_of% @zml) ∧ ((type_of% @zgo) ∧ (type_of% @zgp))))))) := ⟨⟨⟨⟨⟨@zeg, @zeh⟩, ⟨@zex, @zey⟩⟩, ⟨⟨@zfa, @zgi⟩, ⟨@zgj, @zgf⟩⟩⟩, ⟨⟨⟨@zgg, @zgh⟩, ⟨@zjs, @zde⟩⟩, ⟨⟨@zdf, @zdg⟩, ⟨@zdq, ⟨@zko, @zkp⟩⟩⟩⟩⟩, ⟨⟨⟨⟨@zkq, @zkk⟩, ⟨@zkl, @zkm⟩⟩, ⟨⟨@zkn, @zgk⟩, ⟨@zgl, @zhv⟩⟩⟩, ⟨⟨⟨@zhu, @zez⟩, ⟨@ze0, @zgm⟩⟩, ⟨⟨@zgn, @zmk⟩, ⟨@zml, ⟨@zgo, @zgp⟩⟩⟩⟩⟩⟩
theorem jlh {V n : Nat} : ∀ {t : T} {k : Nat}, t.Ok V k → (∀ v ∈ t.vs, v < n) → t.Ok n k
 | .leaf b, _, _, _ => trivial
 | .node u l h, k, ht, hv => ⟨ht.1, hv u (by simp [T.vs]), ht.2.2.1, jlh ht.2.2.2.1 fun v h' => hv v (by simp [T.vs, h']), jlh ht.2.2.2.2 fun v h' => hv v (by simp [T.vs, h'])⟩
def zl7 (us : List T) (node n : Int) : Bool := zjl us node && (decide (0 ≤ n) && (decide (n ≤ 60) && (zix (zct us node)).all fun x => decide (x < n)))
def jrc (us : List T) (node n : Int) : Int := if zl7 us node n then 0 else 1
theorem jli {us : List T} {node n : Int} (h : zl7 us node n = true) : jrc us node n = 0 := by unfold jrc; rw [if_pos h]
theorem zzf {us : List T} {node n : Int} (h : zl7 us node n = false) : jrc us node n = 1 := by unfold jrc; rw [if_neg (by simp [h])]
theorem jrd {V : Nat} {us : List T} (hr : RowOk V us) (hV : V ≤ 1000) {node n : Int} (h : zl7 us node n = true) : 0 ≤ node ∧ node < 2 + us.length ∧ 0 ≤ n ∧ n ≤ 60 ∧ zct us node ∈ zbq us ∧ (zct us node).Ok n.toNat 0 := by
 simp only [zl7, zjl, Bool.and_eq_true, decide_eq_true_eq, List.all_eq_true] at h
 obtain ⟨⟨h1, h2⟩, h3, h4, h5⟩ := h
 have ht : zct us node ∈ zbq us := jd2 (us := us) (k := node.toNat) (by omega)
 refine ⟨h1, h2, h3, h4, ht, jlh (hr.okf ht) fun v hv => ?_⟩
 have := h5 (v : Int) ((zt8 hV (hr.okf ht)).2 ⟨v, hv, rfl⟩)
 omega
theorem jd6 {l : List Int} (h : l.Pairwise (fun a b => a < b)) (h0 : l ≠ []) (n : Int) : (l.all fun x => decide (x < n)) = decide (nth l (l.length - 1) < n) := by
 have hpos : 0 < l.length := List.length_pos_iff.2 h0
 have hm := zb3 (l := l) (k := l.length - 1) (by omega)
 rw [Bool.eq_iff_iff]
 simp only [List.all_eq_true, decide_eq_true_eq]
 refine ⟨fun h' => h' _ hm, fun h' x hx => ?_⟩
 obtain ⟨i, hi, rfl⟩ := List.getElem_of_mem hx
 rw [zb9 (by omega)] at h'
 by_cases e : i = l.length - 1
 ·subst e; exact h'
 ·have := List.pairwise_iff_getElem.1 h i (l.length - 1) hi (by omega) (by omega)
  omega
theorem jlj (V : Nat) (us : List T) (rs : List Nat) (hr : RowOk V us) (hV : V ≤ 1000) (hul : us.length ≤ zel) (node n : Int) : za9 Try.prog 69 [zbt (zlp us) rs, iD node, iD n] (.d (iD (jrc us node n))) := by
 have hul0 := hul
 unfold zel at hul
 have hel := zan us
 refine zbc (fn := Try.f69) (by kernel_rfl) Try.func69 rfl (Nat.le_of_ble_eq_true rfl) fun c hc hp => ?_
 refine zbf (τ' := frL [(0, .d (zbt (zlp us) rs)), (1, .d (iD node)), (2, .d (iD n))]) (by repeat (first | exact zak _ | refine zah ?_ (by first | rfl | (simp [r_f, zad, zan]; done) | simp [r_f, zad, zan, *]))) ?_
 refine zac hp zaj hc rfl fun K1 hK1 => ?_
 simp -dsimp -implicitDefEqProofs (disch := first | assumption | omega | (simp only [r_z, zad, zan] <;> omega) | decide) only [r_r, ↓reduceIte, Nat.reduceEqDiff, Nat.reduceAdd, D.fix, Int.reduceToNat, Nat.reduceMul, Nat.reduceBNe, Nat.reduceBEq, zbt, zby, zer]
 refine hK1 _ _ ?_
 refine zam fun K2 hK2 => ?_
 refine zac hp zaj hc rfl fun K3 hK3 => ?_
 rcases (show node < 0 ∨ (0 ≤ node ∧ 2 + (us.length : Int) ≤ node) ∨ (0 ≤ node ∧ node < 2 + (us.length : Int) ∧ n < 0) ∨ (0 ≤ node ∧ node < 2 + (us.length : Int) ∧ 0 ≤ n ∧ 60 < n) ∨ (0 ≤ node ∧ node < 2 + (us.length : Int) ∧ 0 ≤ n ∧ n ≤ 60) by omega) with q | ⟨q, q'⟩ | ⟨q, q', q''⟩ | ⟨q, q', q'', q4⟩ | ⟨q, q', q'', q4⟩
 ·have q1 : decide (node < 0) = true := by simp; omega
  have q2 := q1
  have q3 := q1
  have q5 := q1
  have hx : zl7 us node n = false := by simp [zl7, zjl]; omega
  simp -dsimp -implicitDefEqProofs (disch := first | assumption | omega | (simp only [r_z, zad, zan] <;> omega) | decide) only [r_r, ↓reduceIte, Nat.reduceEqDiff, Nat.reduceAdd, D.fix, Int.reduceToNat, Nat.reduceMul, Nat.reduceBNe, Nat.reduceBEq, zbt, zby, q1, q2, q3, q5, zer]
  refine hK3 _ _ ?_
  refine zaq rfl (fun ht => ?_) (fun ht => ?_)
  ·refine zac hp zaj hc rfl fun K4 hK4 => ?_
   simp -dsimp -implicitDefEqProofs (disch := first | assumption | omega | (simp only [r_z, zad, zan] <;> omega) | decide) only [r_r, ↓reduceIte, Nat.reduceEqDiff, Nat.reduceAdd, D.fix, Int.reduceToNat, Nat.reduceMul, Nat.reduceBNe, Nat.reduceBEq, zbt, zby]
   refine hK4 _ _ ?_
   refine za4 ?_
   show closeA _ _ = _
   simp (disch := first | assumption | omega | (simp only [r_z, zad, zan] <;> omega) | decide) only [r_c, Nat.reduceAdd, D.fix, ↓reduceIte, Nat.reduceEqDiff, zbt, zby]
   rw [zzf hx]
  ·cases ht
 ·have q1 : decide (node < 0) = false := by simp; omega
  have q2 : decide (2 + ((zlp us).length : Int) ≤ node) = true := by simp [hel]; omega
  have q3 := q1
  have q5 := q1
  have hx : zl7 us node n = false := by simp [zl7, zjl]; omega
  simp -dsimp -implicitDefEqProofs (disch := first | assumption | omega | (simp only [r_z, zad, zan] <;> omega) | decide) only [r_r, ↓reduceIte, Nat.reduceEqDiff, Nat.reduceAdd, D.fix, Int.reduceToNat, Nat.reduceMul, Nat.reduceBNe, Nat.reduceBEq, zbt, zby, q1, q2, q3, q5, zer]
  refine hK3 _ _ ?_
  refine zaq rfl (fun ht => ?_) (fun ht => ?_)
  ·refine zac hp zaj hc rfl fun K5 hK5 => ?_
   simp -dsimp -implicitDefEqProofs (disch := first | assumption | omega | (simp only [r_z, zad, zan] <;> omega) | decide) only [r_r, ↓reduceIte, Nat.reduceEqDiff, Nat.reduceAdd, D.fix, Int.reduceToNat, Nat.reduceMul, Nat.reduceBNe, Nat.reduceBEq, zbt, zby]
   refine hK5 _ _ ?_
   refine za4 ?_
   show closeA _ _ = _
   simp (disch := first | assumption | omega | (simp only [r_z, zad, zan] <;> omega) | decide) only [r_c, Nat.reduceAdd, D.fix, ↓reduceIte, Nat.reduceEqDiff, zbt, zby]
   rw [zzf hx]
  ·cases ht
 ·have q1 : decide (node < 0) = false := by simp; omega
  have q2 : decide (2 + ((zlp us).length : Int) ≤ node) = false := by simp [hel]; omega
  have q3 : decide (n < 0) = true := by simp; omega
  have q5 := q1
  have hx : zl7 us node n = false := by simp [zl7, zjl]; omega
  simp -dsimp -implicitDefEqProofs (disch := first | assumption | omega | (simp only [r_z, zad, zan] <;> omega) | decide) only [r_r, ↓reduceIte, Nat.reduceEqDiff, Nat.reduceAdd, D.fix, Int.reduceToNat, Nat.reduceMul, Nat.reduceBNe, Nat.reduceBEq, zbt, zby, q1, q2, q3, q5, zer]
  refine hK3 _ _ ?_
  refine zaq rfl (fun ht => ?_) (fun ht => ?_)
  ·refine zac hp zaj hc rfl fun K6 hK6 => ?_
   simp -dsimp -implicitDefEqProofs (disch := first | assumption | omega | (simp only [r_z, zad, zan] <;> omega) | decide) only [r_r, ↓reduceIte, Nat.reduceEqDiff, Nat.reduceAdd, D.fix, Int.reduceToNat, Nat.reduceMul, Nat.reduceBNe, Nat.reduceBEq, zbt, zby]
   refine hK6 _ _ ?_
   refine za4 ?_
   show closeA _ _ = _
   simp (disch := first | assumption | omega | (simp only [r_z, zad, zan] <;> omega) | decide) only [r_c, Nat.reduceAdd, D.fix, ↓reduceIte, Nat.reduceEqDiff, zbt, zby]
   rw [zzf hx]
  ·cases ht
 ·have q1 : decide (node < 0) = false := by simp; omega
  have q2 : decide (2 + ((zlp us).length : Int) ≤ node) = false := by simp [hel]; omega
  have q3 : decide (n < 0) = false := by simp; omega
  have q5 : decide (60 < n) = true := by simp; omega
  have hx : zl7 us node n = false := by simp [zl7, zjl]; omega
  simp -dsimp -implicitDefEqProofs (disch := first | assumption | omega | (simp only [r_z, zad, zan] <;> omega) | decide) only [r_r, ↓reduceIte, Nat.reduceEqDiff, Nat.reduceAdd, D.fix, Int.reduceToNat, Nat.reduceMul, Nat.reduceBNe, Nat.reduceBEq, zbt, zby, q1, q2, q3, q5, zer]
  refine hK3 _ _ ?_
  refine zaq rfl (fun ht => ?_) (fun ht => ?_)
  ·refine zac hp zaj hc rfl fun K7 hK7 => ?_
   simp -dsimp -implicitDefEqProofs (disch := first | assumption | omega | (simp only [r_z, zad, zan] <;> omega) | decide) only [r_r, ↓reduceIte, Nat.reduceEqDiff, Nat.reduceAdd, D.fix, Int.reduceToNat, Nat.reduceMul, Nat.reduceBNe, Nat.reduceBEq, zbt, zby]
   refine hK7 _ _ ?_
   refine za4 ?_
   show closeA _ _ = _
   simp (disch := first | assumption | omega | (simp only [r_z, zad, zan] <;> omega) | decide) only [r_c, Nat.reduceAdd, D.fix, ↓reduceIte, Nat.reduceEqDiff, zbt, zby]
   rw [zzf hx]
  ·cases ht
 ·have q1 : decide (node < 0) = false := by simp; omega
  have q2 : decide (2 + ((zlp us).length : Int) ≤ node) = false := by simp [hel]; omega
  have q3 : decide (n < 0) = false := by simp; omega
  have q5 : decide (60 < n) = false := by simp; omega
  have hnb : zjl us node = true := by unfold zjl; rw [decide_eq_true q, decide_eq_true q']; rfl
  have hx : zl7 us node n = (zix (zct us node)).all fun x => decide (x < n) := by simp [zl7, hnb, q'', q4]
  have hsb : jms us node = zix (zct us node) := by unfold jms; rw [if_pos hnb]
  simp -dsimp -implicitDefEqProofs (disch := first | assumption | omega | (simp only [r_z, zad, zan] <;> omega) | decide) only [r_r, ↓reduceIte, Nat.reduceEqDiff, Nat.reduceAdd, D.fix, Int.reduceToNat, Nat.reduceMul, Nat.reduceBNe, Nat.reduceBEq, zbt, zby, q1, q2, q3, q5, zer]
  refine hK3 _ _ ?_
  refine zaq rfl (fun ht => ?_) (fun ht => ?_)
  ·cases ht
  ·refine zay (hK2 _ _ ?_)
   refine zam fun K8 hK8 => ?_
   refine zac hp zaj hc rfl fun K9 hK9 => ?_
   simp -dsimp -implicitDefEqProofs (disch := first | assumption | omega | (simp only [r_z, zad, zan] <;> omega) | decide) only [r_r, ↓reduceIte, Nat.reduceEqDiff, Nat.reduceAdd, D.fix, Int.reduceToNat, Nat.reduceMul, Nat.reduceBNe, Nat.reduceBEq, zbt, zby, zer]
   refine zb4 (jd5 V us rs hr hV hul0 node) rfl ?_
   simp -dsimp -implicitDefEqProofs (disch := first | assumption | omega | (simp only [r_z, zad, zan] <;> omega) | decide) only [r_r, ↓reduceIte, Nat.reduceEqDiff, Nat.reduceAdd, D.fix, Int.reduceToNat, Nat.reduceMul, Nat.reduceBNe, Nat.reduceBEq, zbt, zby, zer]
   have hsl := jd4 (zct us node)
   rw [hsb]
   refine hK9 _ _ ?_
   refine zac hp zaj hc rfl fun K10 hK10 => ?_
   rcases (show zix (zct us node) = [] ∨ (zix (zct us node) ≠ [] ∧ n ≤ nth (zix (zct us node)) ((zix (zct us node)).length - 1)) ∨ (zix (zct us node) ≠ [] ∧ nth (zix (zct us node)) ((zix (zct us node)).length - 1) < n) by by_cases h : zix (zct us node) = [] <;> simp [h]; omega) with p | ⟨p, p'⟩ | ⟨p, p'⟩
   ·have p1 : decide (0 < ((zix (zct us node)).length : Int)) = false := by simp [p]
    have p2 := p1
    have p3 := p1
    have hx2 : zl7 us node n = true := by rw [hx, p]; rfl
    simp -dsimp -implicitDefEqProofs (disch := first | assumption | omega | (simp only [r_z, zad, zan] <;> omega) | decide) only [r_r, ↓reduceIte, Nat.reduceEqDiff, Nat.reduceAdd, D.fix, Int.reduceToNat, Nat.reduceMul, Nat.reduceBNe, Nat.reduceBEq, zbt, zby, p1, p2, p3, zer]
    refine hK10 _ _ ?_
    refine zaq rfl (fun ht => ?_) (fun ht => ?_)
    ·cases ht
    ·refine zay (hK8 _ _ ?_)
     refine zac hp zaj hc rfl fun K11 hK11 => ?_
     simp -dsimp -implicitDefEqProofs (disch := first | assumption | omega | (simp only [r_z, zad, zan] <;> omega) | decide) only [r_r, ↓reduceIte, Nat.reduceEqDiff, Nat.reduceAdd, D.fix, Int.reduceToNat, Nat.reduceMul, Nat.reduceBNe, Nat.reduceBEq, zbt, zby]
     refine hK11 _ _ ?_
     refine za4 ?_
     show closeA _ _ = _
     simp (disch := first | assumption | omega | (simp only [r_z, zad, zan] <;> omega) | decide) only [r_c, Nat.reduceAdd, D.fix, ↓reduceIte, Nat.reduceEqDiff, zbt, zby]
     rw [jli hx2]
   ·have ppos : 0 < (zix (zct us node)).length := List.length_pos_iff.2 p
    have p1 : decide (0 < ((zix (zct us node)).length : Int)) = true := by simp; omega
    have p2 : (((zix (zct us node)).length : Int) - 1).toNat = (zix (zct us node)).length - 1 := by omega
    have p3 : decide (n ≤ nth (zix (zct us node)) ((zix (zct us node)).length - 1)) = true := by simpa using p'
    have hx2 : zl7 us node n = false := by rw [hx, jd6 (zmq _) p]; simp; omega
    simp -dsimp -implicitDefEqProofs (disch := first | assumption | omega | (simp only [r_z, zad, zan] <;> omega) | decide) only [r_r, ↓reduceIte, Nat.reduceEqDiff, Nat.reduceAdd, D.fix, Int.reduceToNat, Nat.reduceMul, Nat.reduceBNe, Nat.reduceBEq, zbt, zby, p1, p2, p3, zer]
    refine hK10 _ _ ?_
    refine zaq rfl (fun ht => ?_) (fun ht => ?_)
    ·refine zac hp zaj hc rfl fun K12 hK12 => ?_
     simp -dsimp -implicitDefEqProofs (disch := first | assumption | omega | (simp only [r_z, zad, zan] <;> omega) | decide) only [r_r, ↓reduceIte, Nat.reduceEqDiff, Nat.reduceAdd, D.fix, Int.reduceToNat, Nat.reduceMul, Nat.reduceBNe, Nat.reduceBEq, zbt, zby]
     refine hK12 _ _ ?_
     refine za4 ?_
     show closeA _ _ = _
     simp (disch := first | assumption | omega | (simp only [r_z, zad, zan] <;> omega) | decide) only [r_c, Nat.reduceAdd, D.fix, ↓reduceIte, Nat.reduceEqDiff, zbt, zby]
     rw [zzf hx2]
    ·cases ht
   ·have ppos : 0 < (zix (zct us node)).length := List.length_pos_iff.2 p
    have p1 : decide (0 < ((zix (zct us node)).length : Int)) = true := by simp; omega
    have p2 : (((zix (zct us node)).length : Int) - 1).toNat = (zix (zct us node)).length - 1 := by omega
    have p3 : decide (n ≤ nth (zix (zct us node)) ((zix (zct us node)).length - 1)) = false := by simp; omega
    have hx2 : zl7 us node n = true := by rw [hx, jd6 (zmq _) p]; simp; omega
    simp -dsimp -implicitDefEqProofs (disch := first | assumption | omega | (simp only [r_z, zad, zan] <;> omega) | decide) only [r_r, ↓reduceIte, Nat.reduceEqDiff, Nat.reduceAdd, D.fix, Int.reduceToNat, Nat.reduceMul, Nat.reduceBNe, Nat.reduceBEq, zbt, zby, p1, p2, p3, zer]
    refine hK10 _ _ ?_
    refine zaq rfl (fun ht => ?_) (fun ht => ?_)
    ·cases ht
    ·refine zay (hK8 _ _ ?_)
     refine zac hp zaj hc rfl fun K13 hK13 => ?_
     simp -dsimp -implicitDefEqProofs (disch := first | assumption | omega | (simp only [r_z, zad, zan] <;> omega) | decide) only [r_r, ↓reduceIte, Nat.reduceEqDiff, Nat.reduceAdd, D.fix, Int.reduceToNat, Nat.reduceMul, Nat.reduceBNe, Nat.reduceBEq, zbt, zby]
     refine hK13 _ _ ?_
     refine za4 ?_
     show closeA _ _ = _
     simp (disch := first | assumption | omega | (simp only [r_z, zad, zan] <;> omega) | decide) only [r_c, Nat.reduceAdd, D.fix, ↓reduceIte, Nat.reduceEqDiff, zbt, zby]
     rw [jli hx2]
def anyT (us : List T) : T → List Bool → List Bool
 | .leaf _, r => r
 | .node v l h, r => if num us l = 0 then anyT us h (setAt r v true) else anyT us l (setAt r v false)
where setAt (r : List Bool) (v : Nat) (b : Bool) : List Bool := r.set v b
def jgp (us : List T) (node n : Int) : List Bool := if zl7 us node n && decide (node ≠ 0) then anyT us (zct us node) (List.replicate n.toNat false) else []
def jgq (us : List T) (node n : Int) : Int := if zl7 us node n then (if node = 0 then 4 else 0) else 1
theorem jta (V : Nat) (us : List T) (rs : List Nat) (hr : RowOk V us) (hV : V ≤ 1000) (hul : us.length ≤ zel) (node n : Int) : za9 Try.prog 49 [zbt (zlp us) rs, iD node, iD n] (.tup [.d (boolsD (jgp us node n)), .d (iD (jgq us node n))]) := by
 have hul0 := hul
 unfold zel at hul
 have hel := zan us
 refine zbc (fn := Try.f49) (by kernel_rfl) Try.func49 rfl (Nat.le_of_ble_eq_true rfl) fun c hc hp => ?_
 refine zbf (τ' := frL [(0, .d (zbt (zlp us) rs)), (1, .d (iD node)), (2, .d (iD n))]) (by repeat (first | exact zak _ | refine zah ?_ (by first | rfl | (simp [r_f, zad, zan, hnt]; done) | simp [r_f, zad, zan, hnt, *]))) ?_
 refine zac hp zaj hc rfl fun K1 hK1 => ?_
 simp -dsimp -implicitDefEqProofs (disch := first | assumption | omega | (simp only [r_z, zad, zan] <;> omega) | decide) only [r_r, ↓reduceIte, Nat.reduceEqDiff, Nat.reduceAdd, D.fix, Int.reduceToNat, Nat.reduceMul, Nat.reduceBNe, Nat.reduceBEq, zbt, zby, zer]
 refine hK1 _ _ ?_
 refine zam fun K2 hK2 => ?_
 refine zac hp zaj hc rfl fun K3 hK3 => ?_
 simp -dsimp -implicitDefEqProofs (disch := first | assumption | omega | (simp only [r_z, zad, zan] <;> omega) | decide) only [r_r, ↓reduceIte, Nat.reduceEqDiff, Nat.reduceAdd, D.fix, Int.reduceToNat, Nat.reduceMul, Nat.reduceBNe, Nat.reduceBEq, zbt, zby, zer]
 refine zb4 (jlj V us rs hr hV hul0 node n) rfl ?_
 simp -dsimp -implicitDefEqProofs (disch := first | assumption | omega | (simp only [r_z, zad, zan] <;> omega) | decide) only [r_r, ↓reduceIte, Nat.reduceEqDiff, Nat.reduceAdd, D.fix, Int.reduceToNat, Nat.reduceMul, Nat.reduceBNe, Nat.reduceBEq, zbt, zby, zer]
 refine hK3 _ _ ?_
 refine zac hp zaj hc rfl fun K4 hK4 => ?_
 rcases (show zl7 us node n = true ∨ zl7 us node n = false by cases zl7 us node n <;> simp) with q | q
 ·have hae := jli q
  obtain ⟨b1, b2, b3, b4, hti, hok0⟩ := jrd hr hV q
  have hnt : (num us (zct us node) : Int) = node := by unfold zct; rw [zqv hr (k := node.toNat) (by omega)]; omega
  rw [hae]
  simp -dsimp -implicitDefEqProofs (disch := first | assumption | omega | (simp only [r_z, zad, zan] <;> omega) | decide) only [r_r, ↓reduceIte, Nat.reduceEqDiff, Nat.reduceAdd, D.fix, Int.reduceToNat, Nat.reduceMul, Nat.reduceBNe, Nat.reduceBEq, zbt, zby, zer]
  refine hK4 _ _ ?_
  refine zaq rfl (fun ht => ?_) (fun ht => ?_)
  ·cases ht
  ·refine zay (hK2 _ _ ?_)
   refine zam fun K5 hK5 => ?_
   refine zac hp zaj hc rfl fun K6 hK6 => ?_
   by_cases hn0 : node = 0
   ·have p0 : decide (node = 0) = true := by simpa using hn0
    simp -dsimp -implicitDefEqProofs (disch := first | assumption | omega | (simp only [r_z, zad, zan] <;> omega) | decide) only [r_r, ↓reduceIte, Nat.reduceEqDiff, Nat.reduceAdd, D.fix, Int.reduceToNat, Nat.reduceMul, Nat.reduceBNe, Nat.reduceBEq, zbt, zby, zer]
    refine hK6 _ _ ?_
    refine zaq rfl (fun ht => ?_) (fun ht => ?_)
    ·refine zac hp zaj hc rfl fun K7 hK7 => ?_
     simp -dsimp -implicitDefEqProofs (disch := first | assumption | omega | (simp only [r_z, zad, zan] <;> omega) | decide) only [r_r, ↓reduceIte, Nat.reduceEqDiff, Nat.reduceAdd, D.fix, Int.reduceToNat, Nat.reduceMul, Nat.reduceBNe, Nat.reduceBEq, zbt, zby]
     refine hK7 _ _ ?_
     refine za4 ?_
     show closeA _ _ = _
     simp (disch := first | assumption | omega | (simp only [r_z, zad, zan] <;> omega) | decide) only [r_c, Nat.reduceAdd, D.fix, ↓reduceIte, Nat.reduceEqDiff, zbt, zby]
     subst hn0
     simp [jgp, jgq, q]
    ·simp [hn0] at ht
   ·have p0 : decide (node = 0) = false := by simpa using hn0
    simp -dsimp -implicitDefEqProofs (disch := first | assumption | omega | (simp only [r_z, zad, zan] <;> omega) | decide) only [r_r, ↓reduceIte, Nat.reduceEqDiff, Nat.reduceAdd, D.fix, Int.reduceToNat, Nat.reduceMul, Nat.reduceBNe, Nat.reduceBEq, zbt, zby, zer]
    refine hK6 _ _ ?_
    refine zaq rfl (fun ht => ?_) (fun ht => ?_)
    ·simp [hn0] at ht
    ·refine zay (hK5 _ _ ?_)
     refine zac hp zaj hc rfl fun K8 hK8 => ?_
     simp -dsimp -implicitDefEqProofs (disch := first | assumption | omega | (simp only [r_z, zad, zan] <;> omega) | decide) only [r_r, ↓reduceIte, Nat.reduceEqDiff, Nat.reduceAdd, D.fix, Int.reduceToNat, Nat.reduceMul, Nat.reduceBNe, Nat.reduceBEq, zbt, zby, zer]
     refine hK8 _ _ ?_
     refine zam fun K9 hK9 => ?_
     refine zaz ?_
     refine za7 hp (fun τ' H' mm => ∃ (t : T) (r : List Bool), (t ∈ zbq us ∧ t.Ok n.toNat 0 ∧ r.length = n.toNat ∧ anyT us t r = anyT us (zct us node) (List.replicate n.toNat false)) ∧ mm = t.sz ∧ H' = [.cells (avs (zby (zlp us) rs)), .cells (avs (r.map oD))] ∧ τ' = frL [(1, .d (iD (num us t))), (3, .op 0 0), (9, .os 1 1 0 n.toNat)]) ((zct us node).sz) ?_ ⟨zct us node, _, ⟨hti, hok0, by simp, rfl⟩, rfl, rfl, rfl⟩ ?_
     ·refine Rt.end (by repeat (first | exact zak _ | refine zah ?_ (by first | rfl | (simp [r_f, zad, zan, hnt]; done) | simp [r_f, zad, zan, hnt, *]))) ?_
      simp only [r_g, Nat.reduceAdd, ↓reduceIte, Nat.reduceEqDiff, zbt, zby]; simp [oD]
     rintro τ' H' mm ⟨t, r, ⟨htf, hto, hrl, hta⟩, rfl, rfl, rfl⟩
     refine zam fun K10 hK10 => ?_
     refine zac hp zaj hc rfl fun K11 hK11 => ?_
     simp -dsimp -implicitDefEqProofs (disch := first | assumption | omega | (simp only [r_z, zad, zan] <;> omega) | decide) only [r_r, ↓reduceIte, Nat.reduceEqDiff, Nat.reduceAdd, D.fix, Int.reduceToNat, Nat.reduceMul, Nat.reduceBNe, Nat.reduceBEq, zbt, zby, zer]
     refine hK11 _ _ ?_
     refine zaq rfl (fun ht => ?_) (fun ht => ?_)
     ·have h2 : t.lf = false := by
       rcases zqt t with h | h
       ·have := jjy (us := us) h; simp at ht; omega
       ·exact h
      obtain ⟨v, lo, hi, rfl⟩ := zqu h2
      have h3 := zl1 hr htf h2
      have hlt := zee htf
      have hx1 : ((num us (.node v lo hi) : Int) - 2).toNat = num us (.node v lo hi) - 2 := by omega
      have hg := zx3 hr htf h2
      have hcl : lo ∈ zbq us := (hr.chf htf).1
      have hch : hi ∈ zbq us := (hr.chf htf).2
      have hvn : v < n.toNat := hto.2.1
      refine zay (hK10 _ _ ?_)
      refine zaz ?_
      refine zac hp zaj hc rfl fun K12 hK12 => ?_
      simp -dsimp -implicitDefEqProofs (disch := first | assumption | omega | (simp only [r_z, zad, zan] <;> omega) | decide) only [r_r, ↓reduceIte, Nat.reduceEqDiff, Nat.reduceAdd, D.fix, Int.reduceToNat, Nat.reduceMul, Nat.reduceBNe, Nat.reduceBEq, zbt, zby, hx1, zxu, jk4, hg, ndC, zjr, T.v, T.l, T.h, zer]
      refine hK12 _ _ ?_
      refine zac hp zaj hc rfl fun K13 hK13 => ?_
      by_cases hz : num us lo = 0
      ·have z0 : ((num us lo : Int) == 0) = true := by simp; omega
       have hgs : nth (r.set v true) v = true := by rw [zb9 (by simp; omega)]; simp
       simp -dsimp -implicitDefEqProofs (disch := first | assumption | omega | (simp only [r_z, zad, zan] <;> omega) | decide) only [r_r, ↓reduceIte, Nat.reduceEqDiff, Nat.reduceAdd, D.fix, Int.reduceToNat, Nat.reduceMul, Nat.reduceBNe, Nat.reduceBEq, zbt, zby, z0, zer]
       refine hK13 _ _ ?_
       refine zac hp zaj hc rfl fun K14 hK14 => ?_
       simp -dsimp -implicitDefEqProofs (disch := first | assumption | omega | (simp only [r_z, zad, zan] <;> omega) | decide) only [r_r, ↓reduceIte, Nat.reduceEqDiff, Nat.reduceAdd, D.fix, Int.reduceToNat, Nat.reduceMul, Nat.reduceBNe, Nat.reduceBEq, zbt, zby, hgs, zer]
       refine hK14 _ _ ?_
       refine zaq rfl (fun ht => ?_) (fun ht => ?_)
       ·refine zbo hp zaj hc rfl fun K15 hK15 => ?_
        simp -dsimp -implicitDefEqProofs (disch := first | assumption | omega | (simp only [r_z, zad, zan] <;> omega) | decide) only [r_r, ↓reduceIte, Nat.reduceEqDiff, Nat.reduceAdd, D.fix, Int.reduceToNat, Nat.reduceMul, Nat.reduceBNe, Nat.reduceBEq, zbt, zby, zer]
        refine hK15 _ _ ⟨_, _, _, ?_, ⟨hi, r.set v true, ⟨hch, hto.h_ok, by simpa using hrl, by rw [← hta]; show _ = if _ then _ else _; rw [if_pos hz]; rfl⟩, rfl, rfl, rfl⟩, ?_⟩
        ·first | omega | (simp only [List.length_cons]; omega) | (dsimp only; omega) | (simp only [T.sz]; omega)
        ·refine Rt.trans (Rt.gc (keep := [0,1]) (by decide) (by decide) (by simp [fzH, gcH])) ?_
         refine Rt.end (by repeat (first | exact zak _ | refine zah ?_ (by first | rfl | (simp [r_f, zad, zan, hnt]; done) | simp [r_f, zad, zan, hnt, *]))) ?_
         first | rfl | (simp only [r_g, Nat.reduceAdd, ↓reduceIte, Nat.reduceEqDiff, zbt, zby]; first | done | rfl)
       ·cases ht
      ·have z0 : ((num us lo : Int) == 0) = false := by simp; omega
       have hgs : nth (r.set v false) v = false := by rw [zb9 (by simp; omega)]; simp
       simp -dsimp -implicitDefEqProofs (disch := first | assumption | omega | (simp only [r_z, zad, zan] <;> omega) | decide) only [r_r, ↓reduceIte, Nat.reduceEqDiff, Nat.reduceAdd, D.fix, Int.reduceToNat, Nat.reduceMul, Nat.reduceBNe, Nat.reduceBEq, zbt, zby, z0, zer]
       refine hK13 _ _ ?_
       refine zac hp zaj hc rfl fun K16 hK16 => ?_
       simp -dsimp -implicitDefEqProofs (disch := first | assumption | omega | (simp only [r_z, zad, zan] <;> omega) | decide) only [r_r, ↓reduceIte, Nat.reduceEqDiff, Nat.reduceAdd, D.fix, Int.reduceToNat, Nat.reduceMul, Nat.reduceBNe, Nat.reduceBEq, zbt, zby, hgs, zer]
       refine hK16 _ _ ?_
       refine zaq rfl (fun ht => ?_) (fun ht => ?_)
       ·cases ht
       ·refine zbo hp zaj hc rfl fun K17 hK17 => ?_
        simp -dsimp -implicitDefEqProofs (disch := first | assumption | omega | (simp only [r_z, zad, zan] <;> omega) | decide) only [r_r, ↓reduceIte, Nat.reduceEqDiff, Nat.reduceAdd, D.fix, Int.reduceToNat, Nat.reduceMul, Nat.reduceBNe, Nat.reduceBEq, zbt, zby, zer]
        refine hK17 _ _ ⟨_, _, _, ?_, ⟨lo, r.set v false, ⟨hcl, hto.l_ok, by simpa using hrl, by rw [← hta]; show _ = if _ then _ else _; rw [if_neg hz]; rfl⟩, rfl, rfl, rfl⟩, ?_⟩
        ·first | omega | (simp only [List.length_cons]; omega) | (dsimp only; omega) | (simp only [T.sz]; omega)
        ·refine Rt.trans (Rt.gc (keep := [0,1]) (by decide) (by decide) (by simp [fzH, gcH])) ?_
         refine Rt.end (by repeat (first | exact zak _ | refine zah ?_ (by first | rfl | (simp [r_f, zad, zan, hnt]; done) | simp [r_f, zad, zan, hnt, *]))) ?_
         first | rfl | (simp only [r_g, Nat.reduceAdd, ↓reduceIte, Nat.reduceEqDiff, zbt, zby]; first | done | rfl)
     ·refine zbj (hK9 _ _ ?_)
      refine zac hp zaj hc rfl fun K18 hK18 => ?_
      simp -dsimp -implicitDefEqProofs (disch := first | assumption | omega | (simp only [r_z, zad, zan] <;> omega) | decide) only [r_r, ↓reduceIte, Nat.reduceEqDiff, Nat.reduceAdd, D.fix, Int.reduceToNat, Nat.reduceMul, Nat.reduceBNe, Nat.reduceBEq, zbt, zby]
      refine hK18 _ _ ?_
      refine za4 ?_
      show closeA _ _ = _
      simp (disch := first | assumption | omega | (simp only [r_z, zad, zan] <;> omega) | decide) only [r_c, Nat.reduceAdd, D.fix, ↓reduceIte, Nat.reduceEqDiff, zbt, zby]
      have h2 : t.lf = true := by
       rcases zqt t with h | h
       ·exact h
       ·have := zl1 hr htf h; simp at ht; omega
      have e : jgp us node n = r := by
       unfold jgp
       rw [if_pos (by simp [q, hn0]), ← hta]
       cases t with
       | leaf b => rfl
       | node v lo hi => cases h2
      have e2 : jgq us node n = 0 := by unfold jgq; rw [if_pos q, if_neg hn0]
      rw [e, e2, hrl]
 ·have hae := zzf q
  rw [hae]
  simp -dsimp -implicitDefEqProofs (disch := first | assumption | omega | (simp only [r_z, zad, zan] <;> omega) | decide) only [r_r, ↓reduceIte, Nat.reduceEqDiff, Nat.reduceAdd, D.fix, Int.reduceToNat, Nat.reduceMul, Nat.reduceBNe, Nat.reduceBEq, zbt, zby, zer]
  refine hK4 _ _ ?_
  refine zaq rfl (fun ht => ?_) (fun ht => ?_)
  ·refine zac hp zaj hc rfl fun K19 hK19 => ?_
   simp -dsimp -implicitDefEqProofs (disch := first | assumption | omega | (simp only [r_z, zad, zan] <;> omega) | decide) only [r_r, ↓reduceIte, Nat.reduceEqDiff, Nat.reduceAdd, D.fix, Int.reduceToNat, Nat.reduceMul, Nat.reduceBNe, Nat.reduceBEq, zbt, zby]
   refine hK19 _ _ ?_
   refine za4 ?_
   show closeA _ _ = _
   simp (disch := first | assumption | omega | (simp only [r_z, zad, zan] <;> omega) | decide) only [r_c, Nat.reduceAdd, D.fix, ↓reduceIte, Nat.reduceEqDiff, zbt, zby]
   simp [jgp, jgq, q]
  ·cases ht
end Go.Proofs.Ytignimmnnccblaa

/- The count. -/
set_option linter.unusedVariables false
set_option linter.unusedSimpArgs false
namespace Go.Proofs.Ytignimmnnccblaa
open Go Go.RowKit
def jsi (n : Nat) : T → Nat → Nat
 | .leaf b, k => if b then 2 ^ (n - k) else 0
 | .node v l h, k => (jsi n l (v + 1) + jsi n h (v + 1)) * 2 ^ (v - k)
def ju1 (n : Nat) (t : T) : Nat := jsi n t.l (t.v + 1) + jsi n t.h (t.v + 1)
theorem jgr {a b m : Nat} (h : a * 2 ^ m = b) (hb : b ≤ 1152921504606846976) (hm : m ≤ 60) : IntKind.i64.wrap ((a : Int) * 2 ^ min m 64) = (b : Int) := by
 rw [Nat.min_eq_left (by omega)]
 have e : ((a : Int) * 2 ^ m) = ((b : Nat) : Int) := by rw [← h]; push_cast; rfl
 rw [e]
 exact zty (by omega) (by omega)
structure COk (us : List T) (n : Nat) (μ : Mp) : Prop where
 ok : OkM Try.prog tI μ
 inv : ∀ t ∈ zbq us, ∀ u, zg5 (vi (num us t)) μ = some u → u = vi (ju1 n t)
end Go.Proofs.Ytignimmnnccblaa

/- What Build refuses; its results, as the laws take them. -/
set_option linter.unusedVariables false
set_option linter.unusedSimpArgs false
set_option maxRecDepth 100000
set_option maxHeartbeats 4000000
namespace Go.Proofs.Ytignimmnnccblaa
open Go Go.RowKit
structure BIn (V : Nat) (n : Net) (sh : Sh) (nodes : List Int) : Prop where
 hsh : ShOk sh
 hV : zdm n.ins.length sh = V
 hV9 : V ≤ 900
 hgs : ∀ k, k < n.gates.length → GOp (2 + n.ins.length + k) (nth n.gates k)
 hno : nodes.any (znp (2 + n.ins.length + n.gates.length)) = false
 hnl : nodes.length ≤ 1000000
 hil : n.ins.length ≤ 1000
 hgl : n.gates.length ≤ 1000
 hB : n.ins.length + n.gates.length * (8 + 7 * 2 ^ V) + 32 * 2 ^ V ≤ zel
theorem BIn.build {V : Nat} {n : Net} {sh : Sh} {nodes : List Int} (h : BIn V n sh nodes) : RCalls Try.prog 48 [zas n, shD sh, intsD nodes] (BuK V n sh nodes) := jlb V n sh nodes h.hsh h.hV h.hV9 h.hgs h.hno h.hnl h.hil h.hgl h.hB
end Go.Proofs.Ytignimmnnccblaa

/- Which diagrams are valid. -/
set_option linter.unusedVariables false
set_option linter.unusedSimpArgs false
namespace Go.Proofs.Ytignimmnnccblaa
open Go Go.RowKit
structure NI where
 v : Int
 lo : Int
 hi : Int
deriving DecidableEq, Inhabited
structure N64 (n : NI) : Prop where
 v : I64 n.v
 lo : I64 n.lo
 hi : I64 n.hi
end Go.Proofs.Ytignimmnnccblaa
