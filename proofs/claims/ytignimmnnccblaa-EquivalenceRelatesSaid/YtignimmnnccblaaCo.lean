/- The count and the path. -/
import Derived.Test.YtignimmnnccblaaQr
import Derived.Test.YtignimmnnccblaaCk
set_option linter.unusedVariables false
set_option linter.unusedSimpArgs false
set_option maxRecDepth 100000
set_option maxHeartbeats 4000000
namespace Go.Proofs.Ytignimmnnccblaa
open Go Go.RowKit
theorem zet : ((((((type_of% @zei) ∧ (type_of% @zej)) ∧ ((type_of% @ze9) ∧ (type_of% @zfa))) ∧ (((type_of% @zfc) ∧ (type_of% @zf8)) ∧ ((type_of% @zf9) ∧ (type_of% @zf5)))) ∧ ((((type_of% @zf6) ∧ (type_of% @zf7)) ∧ ((type_of% @zjz) ∧ (type_of% @zdf))) ∧ (((type_of% @zdg) ∧ (type_of% @zdh)) ∧ ((type_of% @zdq) ∧ ((type_of% @zjk) ∧ (type_of% @zjl)))))) ∧ (((((type_of% @zjm) ∧ (type_of% @zkr)) ∧ ((type_of% @zks) ∧ (type_of% @zkt))) ∧ (((type_of% @zku) ∧ (type_of% @zga)) ∧ ((type_of% @zgb) ∧ (type_of% @zhv)))) ∧ ((((type_of% @zhu) ∧ (type_of% @zez)) ∧ ((type_of% @ze0) ∧ (type_of% @zgc))) ∧ (((type_of% @zgd) ∧ (type_of% @zmn)) ∧ ((type_of% @zmo) ∧ ((type_of% @zge) ∧ (type_of% @zgf))))))) := ⟨⟨⟨⟨⟨@zei, @zej⟩, ⟨@ze9, @zfa⟩⟩, ⟨⟨@zfc, @zf8⟩, ⟨@zf9, @zf5⟩⟩⟩, ⟨⟨⟨@zf6, @zf7⟩, ⟨@zjz, @zdf⟩⟩, ⟨⟨@zdg, @zdh⟩, ⟨@zdq, ⟨@zjk, @zjl⟩⟩⟩⟩⟩, ⟨⟨⟨⟨@zjm, @zkr⟩, ⟨@zks, @zkt⟩⟩, ⟨⟨@zku, @zga⟩, ⟨@zgb, @zhv⟩⟩⟩, ⟨⟨⟨@zhu, @zez⟩, ⟨@ze0, @zgc⟩⟩, ⟨⟨@zgd, @zmn⟩, ⟨@zmo, ⟨@zge, @zgf⟩⟩⟩⟩⟩⟩
theorem jk8 {V n : Nat} : ∀ {t : T} {k : Nat}, t.Ok V k → (∀ v ∈ t.vs, v < n) → t.Ok n k
 | .leaf b, _, _, _ => trivial
 | .node u l h, k, ht, hv => ⟨ht.1, hv u (by simp [T.vs]), ht.2.2.1, jk8 ht.2.2.2.1 fun v h' => hv v (by simp [T.vs, h']), jk8 ht.2.2.2.2 fun v h' => hv v (by simp [T.vs, h'])⟩
def zl8 (us : List T) (node n : Int) : Bool := zjs us node && (decide (0 ≤ n) && (decide (n ≤ 60) && (ziu (zcr us node)).all fun x => decide (x < n)))
def jql (us : List T) (node n : Int) : Int := if zl8 us node n then 0 else 1
theorem jk9 {us : List T} {node n : Int} (h : zl8 us node n = true) : jql us node n = 0 := by unfold jql; rw [if_pos h]
theorem zzb {us : List T} {node n : Int} (h : zl8 us node n = false) : jql us node n = 1 := by unfold jql; rw [if_neg (by simp [h])]
theorem jqm {V : Nat} {us : List T} (hr : RowOk V us) (hV : V ≤ 1000) {node n : Int} (h : zl8 us node n = true) : 0 ≤ node ∧ node < 2 + us.length ∧ 0 ≤ n ∧ n ≤ 60 ∧ zcr us node ∈ zbu us ∧ (zcr us node).Ok n.toNat 0 := by
 simp only [zl8, zjs, Bool.and_eq_true, decide_eq_true_eq, List.all_eq_true] at h
 obtain ⟨⟨h1, h2⟩, h3, h4, h5⟩ := h
 have ht : zcr us node ∈ zbu us := jdg (us := us) (k := node.toNat) (by omega)
 refine ⟨h1, h2, h3, h4, ht, jk8 (hr.okf ht) fun v hv => ?_⟩
 have := h5 (v : Int) ((zuh hV (hr.okf ht)).2 ⟨v, hv, rfl⟩)
 omega
theorem jdk {l : List Int} (h : l.Pairwise (fun a b => a < b)) (h0 : l ≠ []) (n : Int) : (l.all fun x => decide (x < n)) = decide (nth l (l.length - 1) < n) := by
 have hpos : 0 < l.length := List.length_pos_iff.2 h0
 have hm := zb6 (l := l) (k := l.length - 1) (by omega)
 rw [Bool.eq_iff_iff]
 simp only [List.all_eq_true, decide_eq_true_eq]
 refine ⟨fun h' => h' _ hm, fun h' x hx => ?_⟩
 obtain ⟨i, hi, rfl⟩ := List.getElem_of_mem hx
 rw [zb9 (by omega)] at h'
 by_cases e : i = l.length - 1
 ·subst e; exact h'
 ·have := List.pairwise_iff_getElem.1 h i (l.length - 1) hi (by omega) (by omega)
  omega
theorem jla (V : Nat) (us : List T) (rs : List Nat) (hr : RowOk V us) (hV : V ≤ 1000) (hul : us.length ≤ zeo) (node n : Int) : zbf Try.prog 69 [zby (zlo us) rs, iD node, iD n] (.d (iD (jql us node n))) := by
 have hul0 := hul
 unfold zeo at hul
 have hel := zam us
 refine zbi (fn := Try.f69) (by kernel_rfl) Try.func69 rfl (Nat.le_of_ble_eq_true rfl) fun c hc hp => ?_
 refine zbk (τ' := frL [(0, .d (zby (zlo us) rs)), (1, .d (iD node)), (2, .d (iD n))]) (by repeat (first | exact zal _ | refine zai ?_ (by first | rfl | (simp [r_f, zae, zam]; done) | simp [r_f, zae, zam, *]))) ?_
 refine zac hp zaj hc rfl fun K1 hK1 => ?_
 simp -dsimp -implicitDefEqProofs (disch := first | assumption | omega | (simp only [r_z, zae, zam] <;> omega) | decide) only [r_r, ↓reduceIte, Nat.reduceEqDiff, Nat.reduceAdd, D.fix, Int.reduceToNat, Nat.reduceMul, Nat.reduceBNe, Nat.reduceBEq, zby, zb2, zet]
 refine hK1 _ _ ?_
 refine zan fun K2 hK2 => ?_
 refine zac hp zaj hc rfl fun K3 hK3 => ?_
 rcases (show node < 0 ∨ (0 ≤ node ∧ 2 + (us.length : Int) ≤ node) ∨ (0 ≤ node ∧ node < 2 + (us.length : Int) ∧ n < 0) ∨ (0 ≤ node ∧ node < 2 + (us.length : Int) ∧ 0 ≤ n ∧ 60 < n) ∨ (0 ≤ node ∧ node < 2 + (us.length : Int) ∧ 0 ≤ n ∧ n ≤ 60) by omega) with q | ⟨q, q'⟩ | ⟨q, q', q''⟩ | ⟨q, q', q'', q4⟩ | ⟨q, q', q'', q4⟩
 ·have q1 : decide (node < 0) = true := by simp; omega
  have q2 := q1
  have q3 := q1
  have q5 := q1
  have hx : zl8 us node n = false := by simp [zl8, zjs]; omega
  simp -dsimp -implicitDefEqProofs (disch := first | assumption | omega | (simp only [r_z, zae, zam] <;> omega) | decide) only [r_r, ↓reduceIte, Nat.reduceEqDiff, Nat.reduceAdd, D.fix, Int.reduceToNat, Nat.reduceMul, Nat.reduceBNe, Nat.reduceBEq, zby, zb2, q1, q2, q3, q5, zet]
  refine hK3 _ _ ?_
  refine zap rfl (fun ht => ?_) (fun ht => ?_)
  ·refine zac hp zaj hc rfl fun K4 hK4 => ?_
   simp -dsimp -implicitDefEqProofs (disch := first | assumption | omega | (simp only [r_z, zae, zam] <;> omega) | decide) only [r_r, ↓reduceIte, Nat.reduceEqDiff, Nat.reduceAdd, D.fix, Int.reduceToNat, Nat.reduceMul, Nat.reduceBNe, Nat.reduceBEq, zby, zb2]
   refine hK4 _ _ ?_
   refine za6 ?_
   show closeA _ _ = _
   simp (disch := first | assumption | omega | (simp only [r_z, zae, zam] <;> omega) | decide) only [r_c, Nat.reduceAdd, D.fix, ↓reduceIte, Nat.reduceEqDiff, zby, zb2]
   rw [zzb hx]
  ·cases ht
 ·have q1 : decide (node < 0) = false := by simp; omega
  have q2 : decide (2 + ((zlo us).length : Int) ≤ node) = true := by simp [hel]; omega
  have q3 := q1
  have q5 := q1
  have hx : zl8 us node n = false := by simp [zl8, zjs]; omega
  simp -dsimp -implicitDefEqProofs (disch := first | assumption | omega | (simp only [r_z, zae, zam] <;> omega) | decide) only [r_r, ↓reduceIte, Nat.reduceEqDiff, Nat.reduceAdd, D.fix, Int.reduceToNat, Nat.reduceMul, Nat.reduceBNe, Nat.reduceBEq, zby, zb2, q1, q2, q3, q5, zet]
  refine hK3 _ _ ?_
  refine zap rfl (fun ht => ?_) (fun ht => ?_)
  ·refine zac hp zaj hc rfl fun K5 hK5 => ?_
   simp -dsimp -implicitDefEqProofs (disch := first | assumption | omega | (simp only [r_z, zae, zam] <;> omega) | decide) only [r_r, ↓reduceIte, Nat.reduceEqDiff, Nat.reduceAdd, D.fix, Int.reduceToNat, Nat.reduceMul, Nat.reduceBNe, Nat.reduceBEq, zby, zb2]
   refine hK5 _ _ ?_
   refine za6 ?_
   show closeA _ _ = _
   simp (disch := first | assumption | omega | (simp only [r_z, zae, zam] <;> omega) | decide) only [r_c, Nat.reduceAdd, D.fix, ↓reduceIte, Nat.reduceEqDiff, zby, zb2]
   rw [zzb hx]
  ·cases ht
 ·have q1 : decide (node < 0) = false := by simp; omega
  have q2 : decide (2 + ((zlo us).length : Int) ≤ node) = false := by simp [hel]; omega
  have q3 : decide (n < 0) = true := by simp; omega
  have q5 := q1
  have hx : zl8 us node n = false := by simp [zl8, zjs]; omega
  simp -dsimp -implicitDefEqProofs (disch := first | assumption | omega | (simp only [r_z, zae, zam] <;> omega) | decide) only [r_r, ↓reduceIte, Nat.reduceEqDiff, Nat.reduceAdd, D.fix, Int.reduceToNat, Nat.reduceMul, Nat.reduceBNe, Nat.reduceBEq, zby, zb2, q1, q2, q3, q5, zet]
  refine hK3 _ _ ?_
  refine zap rfl (fun ht => ?_) (fun ht => ?_)
  ·refine zac hp zaj hc rfl fun K6 hK6 => ?_
   simp -dsimp -implicitDefEqProofs (disch := first | assumption | omega | (simp only [r_z, zae, zam] <;> omega) | decide) only [r_r, ↓reduceIte, Nat.reduceEqDiff, Nat.reduceAdd, D.fix, Int.reduceToNat, Nat.reduceMul, Nat.reduceBNe, Nat.reduceBEq, zby, zb2]
   refine hK6 _ _ ?_
   refine za6 ?_
   show closeA _ _ = _
   simp (disch := first | assumption | omega | (simp only [r_z, zae, zam] <;> omega) | decide) only [r_c, Nat.reduceAdd, D.fix, ↓reduceIte, Nat.reduceEqDiff, zby, zb2]
   rw [zzb hx]
  ·cases ht
 ·have q1 : decide (node < 0) = false := by simp; omega
  have q2 : decide (2 + ((zlo us).length : Int) ≤ node) = false := by simp [hel]; omega
  have q3 : decide (n < 0) = false := by simp; omega
  have q5 : decide (60 < n) = true := by simp; omega
  have hx : zl8 us node n = false := by simp [zl8, zjs]; omega
  simp -dsimp -implicitDefEqProofs (disch := first | assumption | omega | (simp only [r_z, zae, zam] <;> omega) | decide) only [r_r, ↓reduceIte, Nat.reduceEqDiff, Nat.reduceAdd, D.fix, Int.reduceToNat, Nat.reduceMul, Nat.reduceBNe, Nat.reduceBEq, zby, zb2, q1, q2, q3, q5, zet]
  refine hK3 _ _ ?_
  refine zap rfl (fun ht => ?_) (fun ht => ?_)
  ·refine zac hp zaj hc rfl fun K7 hK7 => ?_
   simp -dsimp -implicitDefEqProofs (disch := first | assumption | omega | (simp only [r_z, zae, zam] <;> omega) | decide) only [r_r, ↓reduceIte, Nat.reduceEqDiff, Nat.reduceAdd, D.fix, Int.reduceToNat, Nat.reduceMul, Nat.reduceBNe, Nat.reduceBEq, zby, zb2]
   refine hK7 _ _ ?_
   refine za6 ?_
   show closeA _ _ = _
   simp (disch := first | assumption | omega | (simp only [r_z, zae, zam] <;> omega) | decide) only [r_c, Nat.reduceAdd, D.fix, ↓reduceIte, Nat.reduceEqDiff, zby, zb2]
   rw [zzb hx]
  ·cases ht
 ·have q1 : decide (node < 0) = false := by simp; omega
  have q2 : decide (2 + ((zlo us).length : Int) ≤ node) = false := by simp [hel]; omega
  have q3 : decide (n < 0) = false := by simp; omega
  have q5 : decide (60 < n) = false := by simp; omega
  have hnb : zjs us node = true := by unfold zjs; rw [decide_eq_true q, decide_eq_true q']; rfl
  have hx : zl8 us node n = (ziu (zcr us node)).all fun x => decide (x < n) := by simp [zl8, hnb, q'', q4]
  have hsb : jl6 us node = ziu (zcr us node) := by unfold jl6; rw [if_pos hnb]
  simp -dsimp -implicitDefEqProofs (disch := first | assumption | omega | (simp only [r_z, zae, zam] <;> omega) | decide) only [r_r, ↓reduceIte, Nat.reduceEqDiff, Nat.reduceAdd, D.fix, Int.reduceToNat, Nat.reduceMul, Nat.reduceBNe, Nat.reduceBEq, zby, zb2, q1, q2, q3, q5, zet]
  refine hK3 _ _ ?_
  refine zap rfl (fun ht => ?_) (fun ht => ?_)
  ·cases ht
  ·refine za0 (hK2 _ _ ?_)
   refine zan fun K8 hK8 => ?_
   refine zac hp zaj hc rfl fun K9 hK9 => ?_
   simp -dsimp -implicitDefEqProofs (disch := first | assumption | omega | (simp only [r_z, zae, zam] <;> omega) | decide) only [r_r, ↓reduceIte, Nat.reduceEqDiff, Nat.reduceAdd, D.fix, Int.reduceToNat, Nat.reduceMul, Nat.reduceBNe, Nat.reduceBEq, zby, zb2, zet]
   refine zb8 (jdj V us rs hr hV hul0 node) rfl ?_
   simp -dsimp -implicitDefEqProofs (disch := first | assumption | omega | (simp only [r_z, zae, zam] <;> omega) | decide) only [r_r, ↓reduceIte, Nat.reduceEqDiff, Nat.reduceAdd, D.fix, Int.reduceToNat, Nat.reduceMul, Nat.reduceBNe, Nat.reduceBEq, zby, zb2, zet]
   have hsl := jdi (zcr us node)
   rw [hsb]
   refine hK9 _ _ ?_
   refine zac hp zaj hc rfl fun K10 hK10 => ?_
   rcases (show ziu (zcr us node) = [] ∨ (ziu (zcr us node) ≠ [] ∧ n ≤ nth (ziu (zcr us node)) ((ziu (zcr us node)).length - 1)) ∨ (ziu (zcr us node) ≠ [] ∧ nth (ziu (zcr us node)) ((ziu (zcr us node)).length - 1) < n) by by_cases h : ziu (zcr us node) = [] <;> simp [h]; omega) with p | ⟨p, p'⟩ | ⟨p, p'⟩
   ·have p1 : decide (0 < ((ziu (zcr us node)).length : Int)) = false := by simp [p]
    have p2 := p1
    have p3 := p1
    have hx2 : zl8 us node n = true := by rw [hx, p]; rfl
    simp -dsimp -implicitDefEqProofs (disch := first | assumption | omega | (simp only [r_z, zae, zam] <;> omega) | decide) only [r_r, ↓reduceIte, Nat.reduceEqDiff, Nat.reduceAdd, D.fix, Int.reduceToNat, Nat.reduceMul, Nat.reduceBNe, Nat.reduceBEq, zby, zb2, p1, p2, p3, zet]
    refine hK10 _ _ ?_
    refine zap rfl (fun ht => ?_) (fun ht => ?_)
    ·cases ht
    ·refine za0 (hK8 _ _ ?_)
     refine zac hp zaj hc rfl fun K11 hK11 => ?_
     simp -dsimp -implicitDefEqProofs (disch := first | assumption | omega | (simp only [r_z, zae, zam] <;> omega) | decide) only [r_r, ↓reduceIte, Nat.reduceEqDiff, Nat.reduceAdd, D.fix, Int.reduceToNat, Nat.reduceMul, Nat.reduceBNe, Nat.reduceBEq, zby, zb2]
     refine hK11 _ _ ?_
     refine za6 ?_
     show closeA _ _ = _
     simp (disch := first | assumption | omega | (simp only [r_z, zae, zam] <;> omega) | decide) only [r_c, Nat.reduceAdd, D.fix, ↓reduceIte, Nat.reduceEqDiff, zby, zb2]
     rw [jk9 hx2]
   ·have ppos : 0 < (ziu (zcr us node)).length := List.length_pos_iff.2 p
    have p1 : decide (0 < ((ziu (zcr us node)).length : Int)) = true := by simp; omega
    have p2 : (((ziu (zcr us node)).length : Int) - 1).toNat = (ziu (zcr us node)).length - 1 := by omega
    have p3 : decide (n ≤ nth (ziu (zcr us node)) ((ziu (zcr us node)).length - 1)) = true := by simpa using p'
    have hx2 : zl8 us node n = false := by rw [hx, jdk (zmt _) p]; simp; omega
    simp -dsimp -implicitDefEqProofs (disch := first | assumption | omega | (simp only [r_z, zae, zam] <;> omega) | decide) only [r_r, ↓reduceIte, Nat.reduceEqDiff, Nat.reduceAdd, D.fix, Int.reduceToNat, Nat.reduceMul, Nat.reduceBNe, Nat.reduceBEq, zby, zb2, p1, p2, p3, zet]
    refine hK10 _ _ ?_
    refine zap rfl (fun ht => ?_) (fun ht => ?_)
    ·refine zac hp zaj hc rfl fun K12 hK12 => ?_
     simp -dsimp -implicitDefEqProofs (disch := first | assumption | omega | (simp only [r_z, zae, zam] <;> omega) | decide) only [r_r, ↓reduceIte, Nat.reduceEqDiff, Nat.reduceAdd, D.fix, Int.reduceToNat, Nat.reduceMul, Nat.reduceBNe, Nat.reduceBEq, zby, zb2]
     refine hK12 _ _ ?_
     refine za6 ?_
     show closeA _ _ = _
     simp (disch := first | assumption | omega | (simp only [r_z, zae, zam] <;> omega) | decide) only [r_c, Nat.reduceAdd, D.fix, ↓reduceIte, Nat.reduceEqDiff, zby, zb2]
     rw [zzb hx2]
    ·cases ht
   ·have ppos : 0 < (ziu (zcr us node)).length := List.length_pos_iff.2 p
    have p1 : decide (0 < ((ziu (zcr us node)).length : Int)) = true := by simp; omega
    have p2 : (((ziu (zcr us node)).length : Int) - 1).toNat = (ziu (zcr us node)).length - 1 := by omega
    have p3 : decide (n ≤ nth (ziu (zcr us node)) ((ziu (zcr us node)).length - 1)) = false := by simp; omega
    have hx2 : zl8 us node n = true := by rw [hx, jdk (zmt _) p]; simp; omega
    simp -dsimp -implicitDefEqProofs (disch := first | assumption | omega | (simp only [r_z, zae, zam] <;> omega) | decide) only [r_r, ↓reduceIte, Nat.reduceEqDiff, Nat.reduceAdd, D.fix, Int.reduceToNat, Nat.reduceMul, Nat.reduceBNe, Nat.reduceBEq, zby, zb2, p1, p2, p3, zet]
    refine hK10 _ _ ?_
    refine zap rfl (fun ht => ?_) (fun ht => ?_)
    ·cases ht
    ·refine za0 (hK8 _ _ ?_)
     refine zac hp zaj hc rfl fun K13 hK13 => ?_
     simp -dsimp -implicitDefEqProofs (disch := first | assumption | omega | (simp only [r_z, zae, zam] <;> omega) | decide) only [r_r, ↓reduceIte, Nat.reduceEqDiff, Nat.reduceAdd, D.fix, Int.reduceToNat, Nat.reduceMul, Nat.reduceBNe, Nat.reduceBEq, zby, zb2]
     refine hK13 _ _ ?_
     refine za6 ?_
     show closeA _ _ = _
     simp (disch := first | assumption | omega | (simp only [r_z, zae, zam] <;> omega) | decide) only [r_c, Nat.reduceAdd, D.fix, ↓reduceIte, Nat.reduceEqDiff, zby, zb2]
     rw [jk9 hx2]
def anyT (us : List T) : T → List Bool → List Bool
 | .leaf _, r => r
 | .node v l h, r => if num us l = 0 then anyT us h (setAt r v true) else anyT us l (setAt r v false)
where setAt (r : List Bool) (v : Nat) (b : Bool) : List Bool := r.set v b
def jgn (us : List T) (node n : Int) : List Bool := if zl8 us node n && decide (node ≠ 0) then anyT us (zcr us node) (List.replicate n.toNat false) else []
def jgo (us : List T) (node n : Int) : Int := if zl8 us node n then (if node = 0 then 4 else 0) else 1
theorem jsj (V : Nat) (us : List T) (rs : List Nat) (hr : RowOk V us) (hV : V ≤ 1000) (hul : us.length ≤ zeo) (node n : Int) : zbf Try.prog 49 [zby (zlo us) rs, iD node, iD n] (.tup [.d (boolsD (jgn us node n)), .d (iD (jgo us node n))]) := by
 have hul0 := hul
 unfold zeo at hul
 have hel := zam us
 refine zbi (fn := Try.f49) (by kernel_rfl) Try.func49 rfl (Nat.le_of_ble_eq_true rfl) fun c hc hp => ?_
 refine zbk (τ' := frL [(0, .d (zby (zlo us) rs)), (1, .d (iD node)), (2, .d (iD n))]) (by repeat (first | exact zal _ | refine zai ?_ (by first | rfl | (simp [r_f, zae, zam, hnt]; done) | simp [r_f, zae, zam, hnt, *]))) ?_
 refine zac hp zaj hc rfl fun K1 hK1 => ?_
 simp -dsimp -implicitDefEqProofs (disch := first | assumption | omega | (simp only [r_z, zae, zam] <;> omega) | decide) only [r_r, ↓reduceIte, Nat.reduceEqDiff, Nat.reduceAdd, D.fix, Int.reduceToNat, Nat.reduceMul, Nat.reduceBNe, Nat.reduceBEq, zby, zb2, zet]
 refine hK1 _ _ ?_
 refine zan fun K2 hK2 => ?_
 refine zac hp zaj hc rfl fun K3 hK3 => ?_
 simp -dsimp -implicitDefEqProofs (disch := first | assumption | omega | (simp only [r_z, zae, zam] <;> omega) | decide) only [r_r, ↓reduceIte, Nat.reduceEqDiff, Nat.reduceAdd, D.fix, Int.reduceToNat, Nat.reduceMul, Nat.reduceBNe, Nat.reduceBEq, zby, zb2, zet]
 refine zb8 (jla V us rs hr hV hul0 node n) rfl ?_
 simp -dsimp -implicitDefEqProofs (disch := first | assumption | omega | (simp only [r_z, zae, zam] <;> omega) | decide) only [r_r, ↓reduceIte, Nat.reduceEqDiff, Nat.reduceAdd, D.fix, Int.reduceToNat, Nat.reduceMul, Nat.reduceBNe, Nat.reduceBEq, zby, zb2, zet]
 refine hK3 _ _ ?_
 refine zac hp zaj hc rfl fun K4 hK4 => ?_
 rcases (show zl8 us node n = true ∨ zl8 us node n = false by cases zl8 us node n <;> simp) with q | q
 ·have hae := jk9 q
  obtain ⟨b1, b2, b3, b4, hti, hok0⟩ := jqm hr hV q
  have hnt : (num us (zcr us node) : Int) = node := by unfold zcr; rw [zq6 hr (k := node.toNat) (by omega)]; omega
  rw [hae]
  simp -dsimp -implicitDefEqProofs (disch := first | assumption | omega | (simp only [r_z, zae, zam] <;> omega) | decide) only [r_r, ↓reduceIte, Nat.reduceEqDiff, Nat.reduceAdd, D.fix, Int.reduceToNat, Nat.reduceMul, Nat.reduceBNe, Nat.reduceBEq, zby, zb2, zet]
  refine hK4 _ _ ?_
  refine zap rfl (fun ht => ?_) (fun ht => ?_)
  ·cases ht
  ·refine za0 (hK2 _ _ ?_)
   refine zan fun K5 hK5 => ?_
   refine zac hp zaj hc rfl fun K6 hK6 => ?_
   by_cases hn0 : node = 0
   ·have p0 : decide (node = 0) = true := by simpa using hn0
    simp -dsimp -implicitDefEqProofs (disch := first | assumption | omega | (simp only [r_z, zae, zam] <;> omega) | decide) only [r_r, ↓reduceIte, Nat.reduceEqDiff, Nat.reduceAdd, D.fix, Int.reduceToNat, Nat.reduceMul, Nat.reduceBNe, Nat.reduceBEq, zby, zb2, zet]
    refine hK6 _ _ ?_
    refine zap rfl (fun ht => ?_) (fun ht => ?_)
    ·refine zac hp zaj hc rfl fun K7 hK7 => ?_
     simp -dsimp -implicitDefEqProofs (disch := first | assumption | omega | (simp only [r_z, zae, zam] <;> omega) | decide) only [r_r, ↓reduceIte, Nat.reduceEqDiff, Nat.reduceAdd, D.fix, Int.reduceToNat, Nat.reduceMul, Nat.reduceBNe, Nat.reduceBEq, zby, zb2]
     refine hK7 _ _ ?_
     refine za6 ?_
     show closeA _ _ = _
     simp (disch := first | assumption | omega | (simp only [r_z, zae, zam] <;> omega) | decide) only [r_c, Nat.reduceAdd, D.fix, ↓reduceIte, Nat.reduceEqDiff, zby, zb2]
     subst hn0
     simp [jgn, jgo, q]
    ·simp [hn0] at ht
   ·have p0 : decide (node = 0) = false := by simpa using hn0
    simp -dsimp -implicitDefEqProofs (disch := first | assumption | omega | (simp only [r_z, zae, zam] <;> omega) | decide) only [r_r, ↓reduceIte, Nat.reduceEqDiff, Nat.reduceAdd, D.fix, Int.reduceToNat, Nat.reduceMul, Nat.reduceBNe, Nat.reduceBEq, zby, zb2, zet]
    refine hK6 _ _ ?_
    refine zap rfl (fun ht => ?_) (fun ht => ?_)
    ·simp [hn0] at ht
    ·refine za0 (hK5 _ _ ?_)
     refine zac hp zaj hc rfl fun K8 hK8 => ?_
     simp -dsimp -implicitDefEqProofs (disch := first | assumption | omega | (simp only [r_z, zae, zam] <;> omega) | decide) only [r_r, ↓reduceIte, Nat.reduceEqDiff, Nat.reduceAdd, D.fix, Int.reduceToNat, Nat.reduceMul, Nat.reduceBNe, Nat.reduceBEq, zby, zb2, zet]
     refine hK8 _ _ ?_
     refine zan fun K9 hK9 => ?_
     refine za1 ?_
     refine zbd hp (fun τ' H' mm => ∃ (t : T) (r : List Bool), (t ∈ zbu us ∧ t.Ok n.toNat 0 ∧ r.length = n.toNat ∧ anyT us t r = anyT us (zcr us node) (List.replicate n.toNat false)) ∧ mm = t.sz ∧ H' = [.cells (avs (zb2 (zlo us) rs)), .cells (avs (r.map oD))] ∧ τ' = frL [(1, .d (iD (num us t))), (3, .op 0 0), (9, .os 1 1 0 n.toNat)]) ((zcr us node).sz) ?_ ⟨zcr us node, _, ⟨hti, hok0, by simp, rfl⟩, rfl, rfl, rfl⟩ ?_
     ·refine Rt.end (by repeat (first | exact zal _ | refine zai ?_ (by first | rfl | (simp [r_f, zae, zam, hnt]; done) | simp [r_f, zae, zam, hnt, *]))) ?_
      simp only [r_g, Nat.reduceAdd, ↓reduceIte, Nat.reduceEqDiff, zby, zb2]; simp [oD]
     rintro τ' H' mm ⟨t, r, ⟨htf, hto, hrl, hta⟩, rfl, rfl, rfl⟩
     refine zan fun K10 hK10 => ?_
     refine zac hp zaj hc rfl fun K11 hK11 => ?_
     simp -dsimp -implicitDefEqProofs (disch := first | assumption | omega | (simp only [r_z, zae, zam] <;> omega) | decide) only [r_r, ↓reduceIte, Nat.reduceEqDiff, Nat.reduceAdd, D.fix, Int.reduceToNat, Nat.reduceMul, Nat.reduceBNe, Nat.reduceBEq, zby, zb2, zet]
     refine hK11 _ _ ?_
     refine zap rfl (fun ht => ?_) (fun ht => ?_)
     ·have h2 : t.lf = false := by
       rcases zq4 t with h | h
       ·have := jjt (us := us) h; simp at ht; omega
       ·exact h
      obtain ⟨v, lo, hi, rfl⟩ := zq5 h2
      have h3 := zl1 hr htf h2
      have hlt := zeg htf
      have hx1 : ((num us (.node v lo hi) : Int) - 2).toNat = num us (.node v lo hi) - 2 := by omega
      have hg := zx8 hr htf h2
      have hcl : lo ∈ zbu us := (hr.chf htf).1
      have hch : hi ∈ zbu us := (hr.chf htf).2
      have hvn : v < n.toNat := hto.2.1
      refine za0 (hK10 _ _ ?_)
      refine za1 ?_
      refine zac hp zaj hc rfl fun K12 hK12 => ?_
      simp -dsimp -implicitDefEqProofs (disch := first | assumption | omega | (simp only [r_z, zae, zam] <;> omega) | decide) only [r_r, ↓reduceIte, Nat.reduceEqDiff, Nat.reduceAdd, D.fix, Int.reduceToNat, Nat.reduceMul, Nat.reduceBNe, Nat.reduceBEq, zby, zb2, hx1, zxx, jkv, hg, ndC, zjy, T.v, T.l, T.h, zet]
      refine hK12 _ _ ?_
      refine zac hp zaj hc rfl fun K13 hK13 => ?_
      by_cases hz : num us lo = 0
      ·have z0 : ((num us lo : Int) == 0) = true := by simp; omega
       have hgs : nth (r.set v true) v = true := by rw [zb9 (by simp; omega)]; simp
       simp -dsimp -implicitDefEqProofs (disch := first | assumption | omega | (simp only [r_z, zae, zam] <;> omega) | decide) only [r_r, ↓reduceIte, Nat.reduceEqDiff, Nat.reduceAdd, D.fix, Int.reduceToNat, Nat.reduceMul, Nat.reduceBNe, Nat.reduceBEq, zby, zb2, z0, zet]
       refine hK13 _ _ ?_
       refine zac hp zaj hc rfl fun K14 hK14 => ?_
       simp -dsimp -implicitDefEqProofs (disch := first | assumption | omega | (simp only [r_z, zae, zam] <;> omega) | decide) only [r_r, ↓reduceIte, Nat.reduceEqDiff, Nat.reduceAdd, D.fix, Int.reduceToNat, Nat.reduceMul, Nat.reduceBNe, Nat.reduceBEq, zby, zb2, hgs, zet]
       refine hK14 _ _ ?_
       refine zap rfl (fun ht => ?_) (fun ht => ?_)
       ·refine zbt hp zaj hc rfl fun K15 hK15 => ?_
        simp -dsimp -implicitDefEqProofs (disch := first | assumption | omega | (simp only [r_z, zae, zam] <;> omega) | decide) only [r_r, ↓reduceIte, Nat.reduceEqDiff, Nat.reduceAdd, D.fix, Int.reduceToNat, Nat.reduceMul, Nat.reduceBNe, Nat.reduceBEq, zby, zb2, zet]
        refine hK15 _ _ ⟨_, _, _, ?_, ⟨hi, r.set v true, ⟨hch, hto.h_ok, by simpa using hrl, by rw [← hta]; show _ = if _ then _ else _; rw [if_pos hz]; rfl⟩, rfl, rfl, rfl⟩, ?_⟩
        ·first | omega | (simp only [List.length_cons]; omega) | (dsimp only; omega) | (simp only [T.sz]; omega)
        ·refine Rt.trans (Rt.gc (keep := [0,1]) (by decide) (by decide) (by simp [fzH, gcH])) ?_
         refine Rt.end (by repeat (first | exact zal _ | refine zai ?_ (by first | rfl | (simp [r_f, zae, zam, hnt]; done) | simp [r_f, zae, zam, hnt, *]))) ?_
         first | rfl | (simp only [r_g, Nat.reduceAdd, ↓reduceIte, Nat.reduceEqDiff, zby, zb2]; first | done | rfl)
       ·cases ht
      ·have z0 : ((num us lo : Int) == 0) = false := by simp; omega
       have hgs : nth (r.set v false) v = false := by rw [zb9 (by simp; omega)]; simp
       simp -dsimp -implicitDefEqProofs (disch := first | assumption | omega | (simp only [r_z, zae, zam] <;> omega) | decide) only [r_r, ↓reduceIte, Nat.reduceEqDiff, Nat.reduceAdd, D.fix, Int.reduceToNat, Nat.reduceMul, Nat.reduceBNe, Nat.reduceBEq, zby, zb2, z0, zet]
       refine hK13 _ _ ?_
       refine zac hp zaj hc rfl fun K16 hK16 => ?_
       simp -dsimp -implicitDefEqProofs (disch := first | assumption | omega | (simp only [r_z, zae, zam] <;> omega) | decide) only [r_r, ↓reduceIte, Nat.reduceEqDiff, Nat.reduceAdd, D.fix, Int.reduceToNat, Nat.reduceMul, Nat.reduceBNe, Nat.reduceBEq, zby, zb2, hgs, zet]
       refine hK16 _ _ ?_
       refine zap rfl (fun ht => ?_) (fun ht => ?_)
       ·cases ht
       ·refine zbt hp zaj hc rfl fun K17 hK17 => ?_
        simp -dsimp -implicitDefEqProofs (disch := first | assumption | omega | (simp only [r_z, zae, zam] <;> omega) | decide) only [r_r, ↓reduceIte, Nat.reduceEqDiff, Nat.reduceAdd, D.fix, Int.reduceToNat, Nat.reduceMul, Nat.reduceBNe, Nat.reduceBEq, zby, zb2, zet]
        refine hK17 _ _ ⟨_, _, _, ?_, ⟨lo, r.set v false, ⟨hcl, hto.l_ok, by simpa using hrl, by rw [← hta]; show _ = if _ then _ else _; rw [if_neg hz]; rfl⟩, rfl, rfl, rfl⟩, ?_⟩
        ·first | omega | (simp only [List.length_cons]; omega) | (dsimp only; omega) | (simp only [T.sz]; omega)
        ·refine Rt.trans (Rt.gc (keep := [0,1]) (by decide) (by decide) (by simp [fzH, gcH])) ?_
         refine Rt.end (by repeat (first | exact zal _ | refine zai ?_ (by first | rfl | (simp [r_f, zae, zam, hnt]; done) | simp [r_f, zae, zam, hnt, *]))) ?_
         first | rfl | (simp only [r_g, Nat.reduceAdd, ↓reduceIte, Nat.reduceEqDiff, zby, zb2]; first | done | rfl)
     ·refine zbl (hK9 _ _ ?_)
      refine zac hp zaj hc rfl fun K18 hK18 => ?_
      simp -dsimp -implicitDefEqProofs (disch := first | assumption | omega | (simp only [r_z, zae, zam] <;> omega) | decide) only [r_r, ↓reduceIte, Nat.reduceEqDiff, Nat.reduceAdd, D.fix, Int.reduceToNat, Nat.reduceMul, Nat.reduceBNe, Nat.reduceBEq, zby, zb2]
      refine hK18 _ _ ?_
      refine za6 ?_
      show closeA _ _ = _
      simp (disch := first | assumption | omega | (simp only [r_z, zae, zam] <;> omega) | decide) only [r_c, Nat.reduceAdd, D.fix, ↓reduceIte, Nat.reduceEqDiff, zby, zb2]
      have h2 : t.lf = true := by
       rcases zq4 t with h | h
       ·exact h
       ·have := zl1 hr htf h; simp at ht; omega
      have e : jgn us node n = r := by
       unfold jgn
       rw [if_pos (by simp [q, hn0]), ← hta]
       cases t with
       | leaf b => rfl
       | node v lo hi => cases h2
      have e2 : jgo us node n = 0 := by unfold jgo; rw [if_pos q, if_neg hn0]
      rw [e, e2, hrl]
 ·have hae := zzb q
  rw [hae]
  simp -dsimp -implicitDefEqProofs (disch := first | assumption | omega | (simp only [r_z, zae, zam] <;> omega) | decide) only [r_r, ↓reduceIte, Nat.reduceEqDiff, Nat.reduceAdd, D.fix, Int.reduceToNat, Nat.reduceMul, Nat.reduceBNe, Nat.reduceBEq, zby, zb2, zet]
  refine hK4 _ _ ?_
  refine zap rfl (fun ht => ?_) (fun ht => ?_)
  ·refine zac hp zaj hc rfl fun K19 hK19 => ?_
   simp -dsimp -implicitDefEqProofs (disch := first | assumption | omega | (simp only [r_z, zae, zam] <;> omega) | decide) only [r_r, ↓reduceIte, Nat.reduceEqDiff, Nat.reduceAdd, D.fix, Int.reduceToNat, Nat.reduceMul, Nat.reduceBNe, Nat.reduceBEq, zby, zb2]
   refine hK19 _ _ ?_
   refine za6 ?_
   show closeA _ _ = _
   simp (disch := first | assumption | omega | (simp only [r_z, zae, zam] <;> omega) | decide) only [r_c, Nat.reduceAdd, D.fix, ↓reduceIte, Nat.reduceEqDiff, zby, zb2]
   simp [jgn, jgo, q]
  ·cases ht
end Go.Proofs.Ytignimmnnccblaa

/- The count. -/
set_option linter.unusedVariables false
set_option linter.unusedSimpArgs false
namespace Go.Proofs.Ytignimmnnccblaa
open Go Go.RowKit
def jrr (n : Nat) : T → Nat → Nat
 | .leaf b, k => if b then 2 ^ (n - k) else 0
 | .node v l h, k => (jrr n l (v + 1) + jrr n h (v + 1)) * 2 ^ (v - k)
def jt7 (n : Nat) (t : T) : Nat := jrr n t.l (t.v + 1) + jrr n t.h (t.v + 1)
theorem zx9 {a b m : Nat} (h : a * 2 ^ m = b) (hb : b ≤ 1152921504606846976) (hm : m ≤ 60) : IntKind.i64.wrap ((a : Int) * 2 ^ min m 64) = (b : Int) := by
 rw [Nat.min_eq_left (by omega)]
 have e : ((a : Int) * 2 ^ m) = ((b : Nat) : Int) := by rw [← h]; push_cast; rfl
 rw [e]
 exact zp2 (by omega) (by omega)
structure COk (us : List T) (n : Nat) (μ : Mp) : Prop where
 ok : OkM Try.prog tI μ
 inv : ∀ t ∈ zbu us, ∀ u, zgy (vi (num us t)) μ = some u → u = vi (jt7 n t)
end Go.Proofs.Ytignimmnnccblaa

/- What Build refuses; its results, as the laws take them. -/
set_option linter.unusedVariables false
set_option linter.unusedSimpArgs false
set_option maxRecDepth 100000
set_option maxHeartbeats 4000000
namespace Go.Proofs.Ytignimmnnccblaa
open Go Go.RowKit
structure BIn (V : Nat) (n : Net) (sh : Sh) (nodes : List Int) : Prop where
 hsh : ShOk sh
 hV : zci n.ins.length sh = V
 hV9 : V ≤ 900
 hgs : ∀ k, k < n.gates.length → GOp (2 + n.ins.length + k) (nth n.gates k)
 hno : nodes.any (zuf (2 + n.ins.length + n.gates.length)) = false
 hnl : nodes.length ≤ 1000000
 hil : n.ins.length ≤ 1000
 hgl : n.gates.length ≤ 1000
 hB : n.ins.length + n.gates.length * (8 + 7 * 2 ^ V) + 32 * 2 ^ V ≤ zeo
theorem BIn.build {V : Nat} {n : Net} {sh : Sh} {nodes : List Int} (h : BIn V n sh nodes) : RCalls Try.prog 48 [zas n, shD sh, intsD nodes] (BuK V n sh nodes) := jk2 V n sh nodes h.hsh h.hV h.hV9 h.hgs h.hno h.hnl h.hil h.hgl h.hB
end Go.Proofs.Ytignimmnnccblaa

/- Which diagrams are valid. -/
set_option linter.unusedVariables false
set_option linter.unusedSimpArgs false
namespace Go.Proofs.Ytignimmnnccblaa
open Go Go.RowKit
structure NI where
 v : Int
 lo : Int
 hi : Int
deriving DecidableEq, Inhabited
structure N64 (n : NI) : Prop where
 v : I64 n.v
 lo : I64 n.lo
 hi : I64 n.hi
end Go.Proofs.Ytignimmnnccblaa
