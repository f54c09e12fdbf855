/- The count and the path. -/
import Derived.Test.YtgfnpfchdlcoeaaQr
import Derived.Test.YtgfnpfchdlcoeaaQ
import Derived.Test.YtgfnpfchdlcoeaaCk
set_option linter.unusedVariables false
set_option linter.unusedSimpArgs false
set_option maxRecDepth 100000
set_option maxHeartbeats 4000000
namespace Go.Proofs.Ytgfnpfchdlcoeaa
open Go Go.RowKit
theorem jlx {V n : Nat} : ∀ {t : T} {k : Nat}, t.Ok V k → (∀ v ∈ t.vs, v < n) → t.Ok n k
 | .leaf b, _, _, _ => trivial
 | .node u l h, k, ht, hv => ⟨ht.1, hv u (by simp [T.vs]), ht.2.2.1, jlx ht.2.2.2.1 fun v h' => hv v (by simp [T.vs, h']), jlx ht.2.2.2.2 fun v h' => hv v (by simp [T.vs, h'])⟩
def zh3 (us : List T) (node n : Int) : Bool := zd5 us node && (decide (0 ≤ n) && (decide (n ≤ 60) && (ziz (zb5 us node)).all fun x => decide (x < n)))
def zzo (us : List T) (node n : Int) : Int := if zh3 us node n then 0 else 1
theorem jh7 {us : List T} {node n : Int} (h : zh3 us node n = true) : zzo us node n = 0 := by unfold zzo; rw [if_pos h]
theorem zxq {us : List T} {node n : Int} (h : zh3 us node n = false) : zzo us node n = 1 := by unfold zzo; rw [if_neg (by simp [h])]
theorem zzp {V : Nat} {us : List T} (hr : RowOk V us) (hV : V ≤ 1000) {node n : Int} (h : zh3 us node n = true) : 0 ≤ node ∧ node < 2 + us.length ∧ 0 ≤ n ∧ n ≤ 60 ∧ zb5 us node ∈ zbn us ∧ (zb5 us node).Ok n.toNat 0 := by
 simp only [zh3, zd5, Bool.and_eq_true, decide_eq_true_eq, List.all_eq_true] at h
 obtain ⟨⟨h1, h2⟩, h3, h4, h5⟩ := h
 have ht : zb5 us node ∈ zbn us := zlr (us := us) (k := node.toNat) (by omega)
 refine ⟨h1, h2, h3, h4, ht, jlx (hr.okf ht) fun v hv => ?_⟩
 have := h5 (v : Int) ((jff hV (hr.okf ht)).2 ⟨v, hv, rfl⟩)
 omega
theorem zxr {l : List Int} (h : l.Pairwise (fun a b => a < b)) (h0 : l ≠ []) (n : Int) : (l.all fun x => decide (x < n)) = decide (nth l (l.length - 1) < n) := by
 have hpos : 0 < l.length := List.length_pos_iff.2 h0
 have hm := zcf (l := l) (k := l.length - 1) (by omega)
 rw [Bool.eq_iff_iff]
 simp only [List.all_eq_true, decide_eq_true_eq]
 refine ⟨fun h' => h' _ hm, fun h' x hx => ?_⟩
 obtain ⟨i, hi, rfl⟩ := List.getElem_of_mem hx
 rw [zcd (by omega)] at h'
 by_cases e : i = l.length - 1
 ·subst e; exact h'
 ·have := List.pairwise_iff_getElem.1 h i (l.length - 1) hi (by omega) (by omega)
  omega
theorem zcl : (type_of% @zah) ∧ (type_of% @zbq) ∧ (type_of% @zbc) := ⟨@zah, @zbq, @zbc⟩
theorem jfg (V : Nat) (us : List T) (rs : List Nat) (hr : RowOk V us) (hV : V ≤ 1000) (hul : us.length ≤ zed) (node n : Int) : zbi Try.prog 67 [zfp (zdl us) rs, iD node, iD n] (.d (iD (zzo us node n))) := by
 have hul0 := hul
 unfold zed at hul
 have hel := zbc us
 refine za8 (fn := Try.f67) (by kernel_rfl) Try.func67 rfl (Nat.le_of_ble_eq_true rfl) fun c hc hp => ?_
 refine zba (τ' := frL [(0, .d (zfp (zdl us) rs)), (1, .d (iD node)), (2, .d (iD n))]) (zaa (zaa (zaa (zae _) rfl) rfl) rfl) ?_
 refine zab hp zad hc rfl fun K1 hK1 => ?_
 simp -dsimp -implicitDefEqProofs (disch := first | assumption | omega | (simp [maxLen, zcl] <;> omega) | decide) only [q_r, zau, zb0, ↓reduceIte, D.one, iD, zau, zfp, zdp]
 refine hK1 _ _ ?_
 refine zaf fun K2 hK2 => ?_
 refine zab hp zad hc rfl fun K3 hK3 => ?_
 rcases (show node < 0 ∨ (0 ≤ node ∧ 2 + (us.length : Int) ≤ node) ∨ (0 ≤ node ∧ node < 2 + (us.length : Int) ∧ n < 0) ∨ (0 ≤ node ∧ node < 2 + (us.length : Int) ∧ 0 ≤ n ∧ 60 < n) ∨ (0 ≤ node ∧ node < 2 + (us.length : Int) ∧ 0 ≤ n ∧ n ≤ 60) by omega) with q | ⟨q, q'⟩ | ⟨q, q', q''⟩ | ⟨q, q', q'', q4⟩ | ⟨q, q', q'', q4⟩
 ·have q1 : decide (node < 0) = true := by simp; omega
  have q2 := q1
  have q3 := q1
  have q5 := q1
  have hx : zh3 us node n = false := by simp [zh3, zd5]; omega
  simp -dsimp -implicitDefEqProofs (disch := first | assumption | omega | (simp [maxLen, zcl] <;> omega) | decide) only [q_r, ↓reduceIte, Nat.reduceEqDiff, q1]
  refine hK3 _ _ ?_
  refine zag rfl (fun ht => ?_) (fun ht => ?_)
  ·refine zab hp zad hc rfl fun K4 hK4 => ?_
   simp -dsimp -implicitDefEqProofs (disch := first | assumption | omega | (simp [maxLen, zcl] <;> omega) | decide) only [q_r]
   refine hK4 _ _ ?_
   refine zao ?_
   show zaj _ _ = _
   simp (disch := first | assumption | omega | (simp [maxLen, zcl] <;> omega) | decide) only [zaj, zct, za1, Nat.zero_add, D.fix, zat, ↓reduceIte, Option.map_some, List.length_cons, List.length_nil, iD]
   rw [zxq hx]
  ·cases ht
 ·have q1 : decide (node < 0) = false := by simp; omega
  have q2 : decide (2 + ((zdl us).length : Int) ≤ node) = true := by simp [hel]; omega
  have q3 := q1
  have q5 := q1
  have hx : zh3 us node n = false := by simp [zh3, zd5]; omega
  simp -dsimp -implicitDefEqProofs (disch := first | assumption | omega | (simp [maxLen, zcl] <;> omega) | decide) only [q_r, zam, zac, zc1, zar, ↓reduceIte, Nat.reduceEqDiff, q1, q2, zbk, zcj, zck, zcm]
  refine hK3 _ _ ?_
  refine zag rfl (fun ht => ?_) (fun ht => ?_)
  ·refine zab hp zad hc rfl fun K5 hK5 => ?_
   simp -dsimp -implicitDefEqProofs (disch := first | assumption | omega | (simp [maxLen, zcl] <;> omega) | decide) only [q_r]
   refine hK5 _ _ ?_
   refine zao ?_
   show zaj _ _ = _
   simp (disch := first | assumption | omega | (simp [maxLen, zcl] <;> omega) | decide) only [zaj, zct, za1, Nat.zero_add, D.fix, zat, ↓reduceIte, Option.map_some, List.length_cons, List.length_nil, iD]
   rw [zxq hx]
  ·cases ht
 ·have q1 : decide (node < 0) = false := by simp; omega
  have q2 : decide (2 + ((zdl us).length : Int) ≤ node) = false := by simp [hel]; omega
  have q3 : decide (n < 0) = true := by simp; omega
  have q5 := q1
  have hx : zh3 us node n = false := by simp [zh3, zd5]; omega
  simp -dsimp -implicitDefEqProofs (disch := first | assumption | omega | (simp [maxLen, zcl] <;> omega) | decide) only [q_r, zam, zac, zc1, zar, ↓reduceIte, Nat.reduceEqDiff, q1, q2, q3, zbk, zcj, zck, zcm]
  refine hK3 _ _ ?_
  refine zag rfl (fun ht => ?_) (fun ht => ?_)
  ·refine zab hp zad hc rfl fun K6 hK6 => ?_
   simp -dsimp -implicitDefEqProofs (disch := first | assumption | omega | (simp [maxLen, zcl] <;> omega) | decide) only [q_r]
   refine hK6 _ _ ?_
   refine zao ?_
   show zaj _ _ = _
   simp (disch := first | assumption | omega | (simp [maxLen, zcl] <;> omega) | decide) only [zaj, zct, za1, Nat.zero_add, D.fix, zat, ↓reduceIte, Option.map_some, List.length_cons, List.length_nil, iD]
   rw [zxq hx]
  ·cases ht
 ·have q1 : decide (node < 0) = false := by simp; omega
  have q2 : decide (2 + ((zdl us).length : Int) ≤ node) = false := by simp [hel]; omega
  have q3 : decide (n < 0) = false := by simp; omega
  have q5 : decide (60 < n) = true := by simp; omega
  have hx : zh3 us node n = false := by simp [zh3, zd5]; omega
  simp -dsimp -implicitDefEqProofs (disch := first | assumption | omega | (simp [maxLen, zcl] <;> omega) | decide) only [q_r, zam, zac, zc1, zar, ↓reduceIte, Nat.reduceEqDiff, q1, q2, q3, q5, zbk, zcj, zck, zcm]
  refine hK3 _ _ ?_
  refine zag rfl (fun ht => ?_) (fun ht => ?_)
  ·refine zab hp zad hc rfl fun K7 hK7 => ?_
   simp -dsimp -implicitDefEqProofs (disch := first | assumption | omega | (simp [maxLen, zcl] <;> omega) | decide) only [q_r]
   refine hK7 _ _ ?_
   refine zao ?_
   show zaj _ _ = _
   simp (disch := first | assumption | omega | (simp [maxLen, zcl] <;> omega) | decide) only [zaj, zct, za1, Nat.zero_add, D.fix, zat, ↓reduceIte, Option.map_some, List.length_cons, List.length_nil, iD]
   rw [zxq hx]
  ·cases ht
 ·have q1 : decide (node < 0) = false := by simp; omega
  have q2 : decide (2 + ((zdl us).length : Int) ≤ node) = false := by simp [hel]; omega
  have q3 : decide (n < 0) = false := by simp; omega
  have q5 : decide (60 < n) = false := by simp; omega
  have hnb : zd5 us node = true := by unfold zd5; rw [decide_eq_true q, decide_eq_true q']; rfl
  have hx : zh3 us node n = (ziz (zb5 us node)).all fun x => decide (x < n) := by simp [zh3, hnb, q'', q4]
  have hsb : zwc us node = ziz (zb5 us node) := by unfold zwc; rw [if_pos hnb]
  simp -dsimp -implicitDefEqProofs (disch := first | assumption | omega | (simp [maxLen, zcl] <;> omega) | decide) only [q_r, zam, zac, zc1, zar, ↓reduceIte, Nat.reduceEqDiff, q1, q2, q3, q5, zbk, zcj, zck, zcm]
  refine hK3 _ _ ?_
  refine zag rfl (fun ht => ?_) (fun ht => ?_)
  ·cases ht
  ·refine zan (hK2 _ _ ?_)
   refine zaf fun K8 hK8 => ?_
   refine zab hp zad hc rfl fun K9 hK9 => ?_
   simp -dsimp -implicitDefEqProofs (disch := first | assumption | omega | (simp [maxLen, zcl] <;> omega) | decide) only [q_r, zam, ↓reduceIte, Nat.reduceEqDiff, zc8, zds]
   refine zb9 (zp8 V us rs hr hV hul0 node) rfl ?_
   simp -dsimp -implicitDefEqProofs (disch := first | assumption | omega | (simp [maxLen, zcl] <;> omega) | decide) only [q_r, ↓reduceIte, zay]
   have hsl := zuc (zb5 us node)
   rw [hsb]
   refine hK9 _ _ ?_
   refine zab hp zad hc rfl fun K10 hK10 => ?_
   rcases (show ziz (zb5 us node) = [] ∨ (ziz (zb5 us node) ≠ [] ∧ n ≤ nth (ziz (zb5 us node)) ((ziz (zb5 us node)).length - 1)) ∨ (ziz (zb5 us node) ≠ [] ∧ nth (ziz (zb5 us node)) ((ziz (zb5 us node)).length - 1) < n) by by_cases h : ziz (zb5 us node) = [] <;> simp [h]; omega) with p | ⟨p, p'⟩ | ⟨p, p'⟩
   ·have p1 : decide (0 < ((ziz (zb5 us node)).length : Int)) = false := by simp [p]
    have p2 := p1
    have p3 := p1
    have hx2 : zh3 us node n = true := by rw [hx, p]; rfl
    simp -dsimp -implicitDefEqProofs (disch := first | assumption | omega | (simp [maxLen, zcl] <;> omega) | decide) only [q_r, zc1, zar, ↓reduceIte, Nat.reduceEqDiff, p1, zc3]
    refine hK10 _ _ ?_
    refine zag rfl (fun ht => ?_) (fun ht => ?_)
    ·cases ht
    ·refine zan (hK8 _ _ ?_)
     refine zab hp zad hc rfl fun K11 hK11 => ?_
     simp -dsimp -implicitDefEqProofs (disch := first | assumption | omega | (simp [maxLen, zcl] <;> omega) | decide) only [q_r]
     refine hK11 _ _ ?_
     refine zao ?_
     show zaj _ _ = _
     simp (disch := first | assumption | omega | (simp [maxLen, zcl] <;> omega) | decide) only [zaj, zct, za1, Nat.zero_add, D.fix, zat, ↓reduceIte, Option.map_some, List.length_cons, List.length_nil, iD]
     rw [jh7 hx2]
   ·have ppos : 0 < (ziz (zb5 us node)).length := List.length_pos_iff.2 p
    have p1 : decide (0 < ((ziz (zb5 us node)).length : Int)) = true := by simp; omega
    have p2 : (((ziz (zb5 us node)).length : Int) - 1).toNat = (ziz (zb5 us node)).length - 1 := by omega
    have p3 : decide (n ≤ nth (ziz (zb5 us node)) ((ziz (zb5 us node)).length - 1)) = true := by simpa using p'
    have hx2 : zh3 us node n = false := by rw [hx, zxr (zmj _) p]; simp; omega
    simp -dsimp -implicitDefEqProofs (disch := first | assumption | omega | (simp [maxLen, zcl] <;> omega) | decide) only [q_r, zam, ixO, zai, zc1, zar, ↓reduceIte, Nat.reduceEqDiff, iD, p1, p2, p3, zc3, zci, zcn]
    refine hK10 _ _ ?_
    refine zag rfl (fun ht => ?_) (fun ht => ?_)
    ·refine zab hp zad hc rfl fun K12 hK12 => ?_
     simp -dsimp -implicitDefEqProofs (disch := first | assumption | omega | (simp [maxLen, zcl] <;> omega) | decide) only [q_r]
     refine hK12 _ _ ?_
     refine zao ?_
     show zaj _ _ = _
     simp (disch := first | assumption | omega | (simp [maxLen, zcl] <;> omega) | decide) only [zaj, zct, za1, Nat.zero_add, D.fix, zat, ↓reduceIte, Option.map_some, List.length_cons, List.length_nil, iD]
     rw [zxq hx2]
    ·cases ht
   ·have ppos : 0 < (ziz (zb5 us node)).length := List.length_pos_iff.2 p
    have p1 : decide (0 < ((ziz (zb5 us node)).length : Int)) = true := by simp; omega
    have p2 : (((ziz (zb5 us node)).length : Int) - 1).toNat = (ziz (zb5 us node)).length - 1 := by omega
    have p3 : decide (n ≤ nth (ziz (zb5 us node)) ((ziz (zb5 us node)).length - 1)) = false := by simp; omega
    have hx2 : zh3 us node n = true := by rw [hx, zxr (zmj _) p]; simp; omega
    simp -dsimp -implicitDefEqProofs (disch := first | assumption | omega | (simp [maxLen, zcl] <;> omega) | decide) only [q_r, zam, ixO, zai, zc1, zar, ↓reduceIte, Nat.reduceEqDiff, iD, p1, p2, p3, zc3, zci, zcn]
    refine hK10 _ _ ?_
    refine zag rfl (fun ht => ?_) (fun ht => ?_)
    ·cases ht
    ·refine zan (hK8 _ _ ?_)
     refine zab hp zad hc rfl fun K13 hK13 => ?_
     simp -dsimp -implicitDefEqProofs (disch := first | assumption | omega | (simp [maxLen, zcl] <;> omega) | decide) only [q_r]
     refine hK13 _ _ ?_
     refine zao ?_
     show zaj _ _ = _
     simp (disch := first | assumption | omega | (simp [maxLen, zcl] <;> omega) | decide) only [zaj, zct, za1, Nat.zero_add, D.fix, zat, ↓reduceIte, Option.map_some, List.length_cons, List.length_nil, iD]
     rw [jh7 hx2]
def anyT (us : List T) : T → List Bool → List Bool
 | .leaf _, r => r
 | .node v l h, r => if num us l = 0 then anyT us h (setAt r v true) else anyT us l (setAt r v false)
where setAt (r : List Bool) (v : Nat) (b : Bool) : List Bool := r.set v b
def zq3 (us : List T) (node n : Int) : List Bool := if zh3 us node n && decide (node ≠ 0) then anyT us (zb5 us node) (List.replicate n.toNat false) else []
def zwd (us : List T) (node n : Int) : Int := if zh3 us node n then (if node = 0 then 4 else 0) else 1
theorem jru (V : Nat) (us : List T) (rs : List Nat) (hr : RowOk V us) (hV : V ≤ 1000) (hul : us.length ≤ zed) (node n : Int) : zbi Try.prog 46 [zfp (zdl us) rs, iD node, iD n] (.tup [.d (zas (zq3 us node n)), .d (iD (zwd us node n))]) := by
 have hul0 := hul
 unfold zed at hul
 have hel := zbc us
 refine za8 (fn := Try.f46) (by kernel_rfl) Try.func46 rfl (Nat.le_of_ble_eq_true rfl) fun c hc hp => ?_
 refine zba (τ' := frL [(0, .d (zfp (zdl us) rs)), (1, .d (iD node)), (2, .d (iD n))]) (zaa (zaa (zaa (zae _) rfl) rfl) rfl) ?_
 refine zab hp zad hc rfl fun K1 hK1 => ?_
 simp -dsimp -implicitDefEqProofs (disch := first | assumption | omega | (simp [maxLen, zcl] <;> omega) | decide) only [q_r, zau, zb0, ↓reduceIte, D.one, iD, zau, zfp, zdp]
 refine hK1 _ _ ?_
 refine zaf fun K2 hK2 => ?_
 refine zab hp zad hc rfl fun K3 hK3 => ?_
 simp -dsimp -implicitDefEqProofs (disch := first | assumption | omega | (simp [maxLen, zcl] <;> omega) | decide) only [q_r, zam, ↓reduceIte, Nat.reduceEqDiff, zc8, zds]
 refine zb9 (jfg V us rs hr hV hul0 node n) rfl ?_
 simp -dsimp -implicitDefEqProofs (disch := first | assumption | omega | (simp [maxLen, zcl] <;> omega) | decide) only [q_r, ↓reduceIte, iD]
 refine hK3 _ _ ?_
 refine zab hp zad hc rfl fun K4 hK4 => ?_
 rcases (show zh3 us node n = true ∨ zh3 us node n = false by cases zh3 us node n <;> simp) with q | q
 ·have hae := jh7 q
  obtain ⟨b1, b2, b3, b4, hti, hok0⟩ := zzp hr hV q
  have hnt : (num us (zb5 us node) : Int) = node := by unfold zb5; rw [ze1 hr (k := node.toNat) (by omega)]; omega
  rw [hae]
  simp -dsimp -implicitDefEqProofs (disch := first | assumption | omega | (simp [maxLen, zcl] <;> omega) | decide) only [q_r, ↓reduceIte]
  refine hK4 _ _ ?_
  refine zag rfl (fun ht => ?_) (fun ht => ?_)
  ·cases ht
  ·refine zan (hK2 _ _ ?_)
   refine zaf fun K5 hK5 => ?_
   refine zab hp zad hc rfl fun K6 hK6 => ?_
   by_cases hn0 : node = 0
   ·have p0 : decide (node = 0) = true := by simpa using hn0
    simp -dsimp -implicitDefEqProofs (disch := first | assumption | omega | (simp [maxLen, zcl] <;> omega) | decide) only [q_r, ↓reduceIte, Nat.reduceEqDiff]
    refine hK6 _ _ ?_
    refine zag rfl (fun ht => ?_) (fun ht => ?_)
    ·refine zab hp zad hc rfl fun K7 hK7 => ?_
     simp -dsimp -implicitDefEqProofs (disch := first | assumption | omega | (simp [maxLen, zcl] <;> omega) | decide) only [q_r]
     refine hK7 _ _ ?_
     refine zao ?_
     show zaj _ _ = _
     simp (disch := first | assumption | omega | (simp [maxLen, zcl] <;> omega) | decide) only [List.map_cons, List.map_nil, zaj, zct, za1, za9, za7, Nat.reduceAdd, Nat.zero_add, D.fix, zat, ↓reduceIte, Nat.reduceEqDiff, Option.map_some, Option.bind_some, List.length_cons, List.length_nil, iD, zas]
     subst hn0
     simp [zq3, zwd, q]
    ·simp [hn0] at ht
   ·have p0 : decide (node = 0) = false := by simpa using hn0
    simp -dsimp -implicitDefEqProofs (disch := first | assumption | omega | (simp [maxLen, zcl] <;> omega) | decide) only [q_r, ↓reduceIte, Nat.reduceEqDiff]
    refine hK6 _ _ ?_
    refine zag rfl (fun ht => ?_) (fun ht => ?_)
    ·simp [hn0] at ht
    ·refine zan (hK5 _ _ ?_)
     refine zab hp zad hc rfl fun K8 hK8 => ?_
     simp -dsimp -implicitDefEqProofs (disch := first | assumption | omega | (simp [maxLen, zcl] <;> omega) | decide) only [q_r, zau, ixO, zb0, ↓reduceIte, Nat.reduceEqDiff, zau, zmb]
     refine hK8 _ _ ?_
     refine zaf fun K9 hK9 => ?_
     refine zaq ?_
     refine za4 hp (fun τ' H' mm => ∃ (t : T) (r : List Bool), (t ∈ zbn us ∧ t.Ok n.toNat 0 ∧ r.length = n.toNat ∧ anyT us t r = anyT us (zb5 us node) (List.replicate n.toNat false)) ∧ mm = t.sz ∧ H' = [.cells (avs (zdp (zdl us) rs)), .cells (avs (r.map oD))] ∧ τ' = frL [(1, .d (iD (num us t))), (3, .op 0 0), (9, .os 1 1 0 n.toNat)]) ((zb5 us node).sz) ?_ ⟨zb5 us node, _, ⟨hti, hok0, by simp, rfl⟩, rfl, rfl, rfl⟩ ?_
     ·refine Rt.end (zaa (zaa (zaa (zae _) rfl) rfl) (by first | rfl | (simp [frL, iD, hnt]; done) | simp [Fr.put, frL, gcV, fzV, zcp, iD, bD, uD, oD, zay, zas, zbm, zbr, zbp, zbq, zbc, hnt, *])) ?_
      simp only [za2, zav, zdp]; simp [oD]
     rintro τ' H' mm ⟨t, r, ⟨htf, hto, hrl, hta⟩, rfl, rfl, rfl⟩
     refine zaf fun K10 hK10 => ?_
     refine zab hp zad hc rfl fun K11 hK11 => ?_
     simp -dsimp -implicitDefEqProofs (disch := first | assumption | omega | (simp [maxLen, zcl] <;> omega) | decide) only [q_r, ↓reduceIte, iD, zdp]
     refine hK11 _ _ ?_
     refine zag rfl (fun ht => ?_) (fun ht => ?_)
     ·have h2 : t.lf = false := by
       rcases zdj t with h | h
       ·have := zmi (us := us) h; simp at ht; omega
       ·exact h
      obtain ⟨v, lo, hi, rfl⟩ := zet h2
      have h3 := zfo hr htf h2
      have hlt := zdn htf
      have hx1 : ((num us (.node v lo hi) : Int) - 2).toNat = num us (.node v lo hi) - 2 := by omega
      have hg := zgp hr htf h2
      have hcl : lo ∈ zbn us := (hr.chf htf).1
      have hch : hi ∈ zbn us := (hr.chf htf).2
      have hvn : v < n.toNat := hto.2.1
      refine zan (hK10 _ _ ?_)
      refine zaq ?_
      refine zab hp zad hc rfl fun K12 hK12 => ?_
      simp -dsimp -implicitDefEqProofs (disch := first | assumption | omega | (simp [maxLen, zcl] <;> omega) | decide) only [q_r, zau, zam, zac, ixO, zai, zb0, za6, ↓reduceIte, D.one, Value.oneCell', Nat.reduceEqDiff, iD, Nat.reduceAdd, zau, hx1, zme, hg, ndC, zhz, T.v, T.l, T.h, zbk, zcj, zck, zcm, zgn, zg4, znu]
      refine hK12 _ _ ?_
      refine zab hp zad hc rfl fun K13 hK13 => ?_
      by_cases hz : num us lo = 0
      ·have z0 : ((num us lo : Int) == 0) = true := by simp; omega
       have hgs : nth (r.set v true) v = true := by rw [zcd (by simp; omega)]; simp
       simp -dsimp -implicitDefEqProofs (disch := first | assumption | omega | (simp [maxLen, zcl] <;> omega) | decide) only [q_r, zam, zac, ixO, zai, za6, ↓reduceIte, and_true, Int.toNat_natCast, Nat.reduceEqDiff, Nat.reduceAdd, List.length_map, z0, zb4, zci, zcn, zco, ze4, zus]
       refine hK13 _ _ ?_
       refine zab hp zad hc rfl fun K14 hK14 => ?_
       simp -dsimp -implicitDefEqProofs (disch := first | assumption | omega | (simp [maxLen, zcl] <;> omega) | decide) only [q_r, zam, zac, ixO, zai, ↓reduceIte, and_true, Int.toNat_natCast, Nat.reduceEqDiff, oD, Nat.reduceAdd, hgs, zb4, zci, zcn, ze4, zus, jep]
       refine hK14 _ _ ?_
       refine zag rfl (fun ht => ?_) (fun ht => ?_)
       ·refine zbs hp zad hc rfl fun K15 hK15 => ?_
        simp -dsimp -implicitDefEqProofs (disch := first | assumption | omega | (simp [maxLen, zcl] <;> omega) | decide) only [q_r, zam, zac, ↓reduceIte, Nat.reduceEqDiff, Nat.reduceAdd, zdd, zci, zcn]
        refine hK15 _ _ ⟨_, _, _, ?_, ⟨hi, r.set v true, ⟨hch, hto.h_ok, by simpa using hrl, by rw [← hta]; show _ = if _ then _ else _; rw [if_pos hz]; rfl⟩, rfl, rfl, rfl⟩, ?_⟩
        ·first | omega | (simp only [List.length_cons]; omega) | (dsimp only; omega) | (simp only [T.sz]; omega)
        ·refine Rt.trans (Rt.gc (keep := [0,1]) (by decide) (by decide) (by simp [])) ?_
         refine Rt.end (zaa (zaa (zaa (zae _) rfl) rfl) rfl) ?_
         first | rfl | (simp only [gcH, zbb, zap, zcb, gcV, za2, zav, List.map_cons, List.map_nil, List.getD_cons_zero, List.getD_cons_succ, zdp]; first | done | rfl)
       ·cases ht
      ·have z0 : ((num us lo : Int) == 0) = false := by simp; omega
       have hgs : nth (r.set v false) v = false := by rw [zcd (by simp; omega)]; simp
       simp -dsimp -implicitDefEqProofs (disch := first | assumption | omega | (simp [maxLen, zcl] <;> omega) | decide) only [q_r, zam, zac, ixO, zai, za6, ↓reduceIte, and_true, Int.toNat_natCast, Nat.reduceEqDiff, Nat.reduceAdd, List.length_map, z0, zb4, zci, zcn, zco, ze4, zus]
       refine hK13 _ _ ?_
       refine zab hp zad hc rfl fun K16 hK16 => ?_
       simp -dsimp -implicitDefEqProofs (disch := first | assumption | omega | (simp [maxLen, zcl] <;> omega) | decide) only [q_r, zam, zac, ixO, zai, ↓reduceIte, and_true, Int.toNat_natCast, Nat.reduceEqDiff, oD, Nat.reduceAdd, hgs, zb4, zci, zcn, ze4, zus, jep]
       refine hK16 _ _ ?_
       refine zag rfl (fun ht => ?_) (fun ht => ?_)
       ·cases ht
       ·refine zbs hp zad hc rfl fun K17 hK17 => ?_
        simp -dsimp -implicitDefEqProofs (disch := first | assumption | omega | (simp [maxLen, zcl] <;> omega) | decide) only [q_r, zam, zac, ↓reduceIte, Nat.reduceEqDiff, Nat.reduceAdd, zco, zci, zcn]
        refine hK17 _ _ ⟨_, _, _, ?_, ⟨lo, r.set v false, ⟨hcl, hto.l_ok, by simpa using hrl, by rw [← hta]; show _ = if _ then _ else _; rw [if_neg hz]; rfl⟩, rfl, rfl, rfl⟩, ?_⟩
        ·first | omega | (simp only [List.length_cons]; omega) | (dsimp only; omega) | (simp only [T.sz]; omega)
        ·refine Rt.trans (Rt.gc (keep := [0,1]) (by decide) (by decide) (by simp [])) ?_
         refine Rt.end (zaa (zaa (zaa (zae _) rfl) rfl) rfl) ?_
         first | rfl | (simp only [gcH, zbb, zap, zcb, gcV, za2, zav, List.map_cons, List.map_nil, List.getD_cons_zero, List.getD_cons_succ, zdp]; first | done | rfl)
     ·refine zbd (hK9 _ _ ?_)
      refine zab hp zad hc rfl fun K18 hK18 => ?_
      simp -dsimp -implicitDefEqProofs (disch := first | assumption | omega | (simp [maxLen, zcl] <;> omega) | decide) only [q_r, ↓reduceIte, Nat.reduceEqDiff]
      refine hK18 _ _ ?_
      refine zao ?_
      show zaj _ _ = _
      simp (disch := first | assumption | omega | (simp [maxLen, zcl] <;> omega) | decide) only [List.map_cons, List.map_nil, zaj, zct, za1, zce, za9, za7, zbt, zbl, zcg, Nat.reduceAdd, Nat.zero_add, zax, zn5, D.fix, zat, ↓reduceIte, Nat.reduceEqDiff, Option.map_some, Option.bind_some, Nat.mul_one, List.getElem?_cons_zero, List.getElem?_cons_succ, List.length_cons, List.length_nil, iD, zas]
      have h2 : t.lf = true := by
       rcases zdj t with h | h
       ·exact h
       ·have := zfo hr htf h; simp at ht; omega
      have e : zq3 us node n = r := by
       unfold zq3
       rw [if_pos (by simp [q, hn0]), ← hta]
       cases t with
       | leaf b => rfl
       | node v lo hi => cases h2
      have e2 : zwd us node n = 0 := by unfold zwd; rw [if_pos q, if_neg hn0]
      rw [e, e2, hrl]
 ·have hae := zxq q
  rw [hae]
  simp -dsimp -implicitDefEqProofs (disch := first | assumption | omega | (simp [maxLen, zcl] <;> omega) | decide) only [q_r, ↓reduceIte]
  refine hK4 _ _ ?_
  refine zag rfl (fun ht => ?_) (fun ht => ?_)
  ·refine zab hp zad hc rfl fun K19 hK19 => ?_
   simp -dsimp -implicitDefEqProofs (disch := first | assumption | omega | (simp [maxLen, zcl] <;> omega) | decide) only [q_r, ↓reduceIte, Nat.reduceEqDiff]
   refine hK19 _ _ ?_
   refine zao ?_
   show zaj _ _ = _
   simp (disch := first | assumption | omega | (simp [maxLen, zcl] <;> omega) | decide) only [List.map_cons, List.map_nil, zaj, zct, za1, za9, za7, Nat.reduceAdd, Nat.zero_add, D.fix, zat, ↓reduceIte, Nat.reduceEqDiff, Option.map_some, Option.bind_some, List.length_cons, List.length_nil, iD, zas]
   simp [zq3, zwd, q]
  ·cases ht
end Go.Proofs.Ytgfnpfchdlcoeaa

/- The count. -/
set_option linter.unusedVariables false
set_option linter.unusedSimpArgs false
set_option maxRecDepth 100000
set_option maxHeartbeats 4000000
namespace Go.Proofs.Ytgfnpfchdlcoeaa
open Go Go.RowKit
def zuu (n : Nat) : T → Nat → Nat
 | .leaf b, k => if b then 2 ^ (n - k) else 0
 | .node v l h, k => (zuu n l (v + 1) + zuu n h (v + 1)) * 2 ^ (v - k)
def jpf (n : Nat) (t : T) : Nat := zuu n t.l (t.v + 1) + zuu n t.h (t.v + 1)
theorem zsv {n : Nat} : ∀ {t : T} {k j : Nat}, t.Ok n j → k ≤ j → k ≤ n → zuu n t k ≤ 2 ^ (n - k)
 | .leaf b, k, j, _, _, _ => by cases b <;> simp [zuu]
 | .node v l h, k, j, ht, hj, hk => by
  have h1 := ht.1
  have h2 := ht.2.1
  have hl := zsv (k := v + 1) ht.2.2.2.1 (Nat.le_refl _) (by omega)
  have hh := zsv (k := v + 1) ht.2.2.2.2 (Nat.le_refl _) (by omega)
  unfold zuu
  have e : 2 ^ (n - k) = (2 ^ (n - (v + 1)) + 2 ^ (n - (v + 1))) * 2 ^ (v - k) := by
   rw [← Nat.two_mul, ← Nat.pow_succ', ← Nat.pow_add]; congr 1; omega
  rw [e]
  exact Nat.mul_le_mul_right _ (by omega)
theorem zzq {m : Nat} (h : m ≤ 60) : 2 ^ m ≤ 1152921504606846976 := by
 have : (2 : Nat) ^ m ≤ 2 ^ 60 := Nat.pow_le_pow_right (by decide) h
 omega
theorem zmk {a b m : Nat} (h : a * 2 ^ m = b) (hb : b ≤ 1152921504606846976) (hm : m ≤ 60) : IntKind.i64.wrap ((a : Int) * 2 ^ min m 64) = (b : Int) := by
 rw [Nat.min_eq_left (by omega)]
 have e : ((a : Int) * 2 ^ m) = ((b : Nat) : Int) := by rw [← h]; push_cast; rfl
 rw [e]
 exact ztn (by omega) (by omega)
structure COk (us : List T) (n : Nat) (μ : Mp) : Prop where
 ok : OkM Try.prog tI μ
 inv : ∀ t ∈ zbn us, ∀ u, zig (vi (num us t)) μ = some u → u = vi (jpf n t)
theorem COk.nil (us : List T) (n : Nat) : COk us n ([], 0) := ⟨OkM.nil tI 0, fun t ht u hu => by cases hu⟩
theorem COk.add {us : List T} {n : Nat} {μ : Mp} (h : COk us n μ) (hl : us.length ≤ zed) {t : T} (ht : t ∈ zbn us) : COk us n (zpm (vi (num us t)) (vi (jpf n t)) μ) := by
 have hk : zqy Try.prog tI (vi (num us t)) := jlk (zla hl ht)
 classical
 refine ⟨h.ok.put hk, fun s hs u hu => ?_⟩
 rw [zha hk.1 (jlk (zla hl hs)).1] at hu
 split at hu
 ·rename_i e
  rw [zd8 hs ht (zso e)]
  exact (Option.some.inj hu).symm
 ·exact h.inv s hs u hu
def zh4 (us : List T) (rs : List Nat) (n : Nat) (μ : Mp) : zal := [.cells (avs (zdp (zdl us) rs)), .cells [.d (iD n)], mO μ, .cells [.om 2], .cells [.clo (.func 70) [] [.op 1 0, .op 0 0, .op 3 0, .op 4 0]]]
def jtd (us : List T) (rs : List Nat) (n : Nat) (f : T) (k : Nat) (x : AV) (S' : zal) : Prop := ∃ μ', S' = zh4 us rs n μ' ∧ x = .d (iD (zuu n f k)) ∧ COk us n μ'
def jte (us : List T) (rs : List Nat) (n : Nat) (f : T) : Prop := ∀ (k : Nat) (ki : Int) (μ : Mp), ki = k → f ∈ zbn us → f.Ok n k → k ≤ n → COk us n μ →
 ScS Try.prog [0, 1, 2, 3, 4] 70 [.d (iD (num us f)), .d (iD ki), .op 1 0, .op 0 0, .op 3 0, .op 4 0] (zh4 us rs n μ) (jtd us rs n f k)
theorem jly {P : Program} {c : Cx} {H : zal} {code : Code} {QQ : Exit → Fr → zal → Prop} {x y z u v t : AV} (h : AWp P c code QQ (frL [(0, x), (1, y), (2, z), (3, u), (4, v), (5, t)]) H) : AWp P c code QQ (ze6 [x, y, z, u, v, t]) H := zba (zaa (zaa (zaa (zaa (zaa (zaa (zae _) rfl) rfl) rfl) rfl) rfl) rfl) h
theorem jrv (V : Nat) (us : List T) (rs : List Nat) (hr : RowOk V us) (hul : us.length ≤ zed) (n : Nat) (hn : n ≤ 60) (f : T) (ih : ∀ s : T, s.sz < f.sz → jte us rs n s) (k : Nat) (ki : Int) (μ : Mp) (hki : ki = k) (hf : f ∈ zbn us) (hok : f.Ok n k) (hkn : k ≤ n) (hC : COk us n μ) : ScS Try.prog [0, 1, 2, 3, 4] 70 [.d (iD (num us f)), .d (iD ki), .op 1 0, .op 0 0, .op 3 0, .op 4 0] (zh4 us rs n μ) (jtd us rs n f k) := by
 refine zlj (fn := Try.f70) (by kernel_rfl) Try.func70 rfl (Nat.le_of_ble_eq_true rfl) fun c hc hp => ?_
 refine jly ?_
 subst hki
 have hul0 := hul
 unfold zed at hul
 have hel := zbc us
 have nf := zdn hf
 have hk : zqy Try.prog tI (.int .i64 (num us f)) := jlk (zla hul0 hf)
 have hcb := zsv hok (Nat.le_refl _) hkn
 have hpw := zzq (m := n - k) (by omega)
 refine zab hp zad hc rfl fun K1 hK1 => ?_
 simp -dsimp -implicitDefEqProofs (disch := first | omega | decide) only [q_r, iD, zh4, zdp]
 refine hK1 _ _ ?_
 refine zaf fun K2 hK2 => ?_
 refine zab hp zad hc rfl fun K3 hK3 => ?_
 rcases zdj f with hlf | hlf
 ·have hnl := zmi (us := us) hlf
  have t0 : ((n : Int) - k).toNat = n - k := by omega
  have hw : IntKind.i64.wrap ((num us f : Int) * 2 ^ min (n - k) 64) = (zuu n f k : Nat) := zmk (by
   cases f with
   | leaf b => cases b <;> simp [zk0, znq, zuu]
   | node v l h => cases hlf) (by omega) (by omega)
  simp -dsimp -implicitDefEqProofs (disch := first | omega | decide) only [q_r, ↓reduceIte, Nat.reduceEqDiff]
  refine hK3 _ _ ?_
  refine zag rfl (fun ht => ?_) (fun ht => ?_)
  ·refine zab hp zad hc rfl fun K4 hK4 => ?_
   simp -dsimp -implicitDefEqProofs (disch := first | omega | decide) only [q_r, zam, ↓reduceIte, Nat.reduceEqDiff, Nat.reduceAdd, t0, hw, zci, zcn]
   refine hK4 _ _ ?_
   refine zbx hp (τ' := frL [(8, .d (iD (zuu n f k)))]) (H' := zh4 us rs n μ) ?_ ?_
   ·refine Rt.trans (Rt.gc (keep := [0,1,2,3,4]) (by decide) (by decide) (by simp [])) ?_
    refine Rt.end (zaa (zae _) rfl) ?_
    simp only [gcH, zbb, zcq, zcb, gcV, Nat.reduceAdd, zcp, za2, zav, List.map_cons, List.map_nil, List.getD_cons_zero, List.getD_cons_succ, ↓reduceIte, Nat.reduceEqDiff, Option.map_some, zcq, zh4, zdp]; rfl
   refine zao ?_
   refine zb3 (t := 8) rfl ?_
   show ∃ _, _
   exact ⟨μ, rfl, rfl, hC⟩
  ·simp at ht; omega
 ·have hn2 := zfo hr hf hlf
  simp -dsimp -implicitDefEqProofs (disch := first | omega | decide) only [q_r, ↓reduceIte, Nat.reduceEqDiff]
  refine hK3 _ _ ?_
  refine zag rfl (fun ht => ?_) (fun ht => ?_)
  ·simp at ht; omega
  ·refine zan (hK2 _ _ ?_)
   obtain ⟨v, lo, hi, rfl⟩ := zet hlf
   have hx1 : ((num us (.node v lo hi) : Int) - 2).toNat = num us (.node v lo hi) - 2 := by omega
   have hg := zgp hr hf hlf
   have hcl : lo ∈ zbn us := (hr.chf hf).1
   have hch : hi ∈ zbn us := (hr.chf hf).2
   have hkv : k ≤ v := hok.1
   have hvn : v < n := hok.2.1
   have hol : lo.Ok n (v + 1) := hok.2.2.2.1
   have hoh : hi.Ok n (v + 1) := hok.2.2.2.2
   have hcl1 := zsv hol (Nat.le_refl _) (by omega)
   have hch1 := zsv hoh (Nat.le_refl _) (by omega)
   have hp1 := zzq (m := n - (v + 1)) (by omega)
   refine zab hp zad hc rfl fun K5 hK5 => ?_
   simp -dsimp -implicitDefEqProofs (disch := first | omega | decide) only [q_r, zau, zam, zac, ixO, zai, zb0, za6, ↓reduceIte, D.one, Value.oneCell', Nat.reduceEqDiff, iD, Nat.reduceAdd, zau, hx1, zme, hg, ndC, zhz, T.v, T.l, T.h, zbk, zcj, zck, zcm, zgn, zg4, znu]
   refine hK5 _ _ ?_
   refine zaf fun K6 hK6 => ?_
   have hJ6 : ∀ τ' H', (∃ τ1 H1, ∃ (μ' : Mp), (COk us n μ' ∧ zig (.int .i64 (num us (.node v lo hi))) μ' = some (vi (jpf n (.node v lo hi)))) ∧ H1 = zh4 us rs n μ' ++ [.cells [.d (iD v), .d (iD (num us lo)), .d (iD (num us hi))]] ∧ τ1 = frL [(0, .d (iD (num us (.node v lo hi)))), (1, .d (iD k)), (4, .op 3 0), (9, .op 5 0)] ∧ Rt [0, 1, 2, 3, 4] τ' H' τ1 H1) → K6 τ' H' := by
    rintro τ' H' ⟨_, _, μ', ⟨hC', hgm'⟩, rfl, rfl, hrt⟩
    refine hK6 _ _ (zbx hp hrt ?_)
    clear hrt
    have t1 : ((v : Int) - k).toNat = v - k := by omega
    have hw : IntKind.i64.wrap ((jpf n (.node v lo hi) : Int) * 2 ^ min (v - k) 64) = (zuu n (.node v lo hi) k : Nat) := zmk rfl (by omega) (by omega)
    refine zab hp zad hc rfl fun K7 hK7 => ?_
    simp -dsimp -implicitDefEqProofs (disch := first | omega | decide) only [q_r, zam, zac, ↓reduceIte, Nat.reduceEqDiff, iD, Nat.reduceAdd, zgf, ziw, zh4, zdp, zhv, jef mtI hk hC'.ok, hgm', Option.getD_some, vi, t1, hw, zix, zk9, zb4, zci, zcn]
    refine hK7 _ _ ?_
    refine zbx hp (τ' := frL [(8, .d (iD (zuu n (.node v lo hi) k)))]) (H' := zh4 us rs n μ') ?_ ?_
    ·refine Rt.trans (Rt.gc (keep := [0,1,2,3,4]) (by decide) (by decide) (by simp [])) ?_
     refine Rt.end (zaa (zae _) rfl) ?_
     first | rfl | (simp only [gcH, zbb, zcq, zcb, gcV, Nat.reduceAdd, zcp, za2, zav, List.map_cons, List.map_nil, List.getD_cons_zero, List.getD_cons_succ, ↓reduceIte, Nat.reduceEqDiff, Option.map_some, zcq, zh4, zdp]; first | done | rfl)
    refine zao ?_
    refine zb3 (t := 8) rfl ?_
    show ∃ _, _
    exact ⟨μ', rfl, rfl, hC'⟩
   refine zab hp zad hc rfl fun K8 hK8 => ?_
   rcases hgm : zig (.int .i64 (num us (.node v lo hi))) μ with _ | u
   ·skip
    simp -dsimp -implicitDefEqProofs (disch := first | omega | decide) only [q_r, zam, ↓reduceIte, Nat.reduceEqDiff, Nat.reduceAdd, zgf, ziw, zhv, zvr mtI hk hC.ok, hgm, Option.getD_none, Option.isSome_none, zix, zk9]
    refine hK8 _ _ ?_
    refine zab hp zad hc rfl fun K9 hK9 => ?_
    simp -dsimp -implicitDefEqProofs (disch := first | omega | decide) only [q_r, ↓reduceIte]
    refine hK9 _ _ ?_
    refine zag rfl (fun ht => ?_) (fun ht => ?_)
    ·refine zbx hp (τ' := frL [(0, .d (iD (num us (.node v lo hi)))), (1, .d (iD k)), (4, .op 3 0), (5, .op 4 0), (9, .op 5 0)]) (H' := zh4 us rs n μ ++ [.cells [.d (iD v), .d (iD (num us lo)), .d (iD (num us hi))]]) ?_ ?_
     ·refine Rt.trans (Rt.gc (keep := [0,1,2,3,4,5]) (by decide) (by decide) (by simp [])) ?_
      refine Rt.end (zaa (zaa (zaa (zaa (zaa (zae _) rfl) rfl) rfl) rfl) rfl) ?_
      first | rfl | (simp only [gcH, zbb, zcq, zcb, gcV, Nat.reduceAdd, zcp, za2, zav, List.map_cons, List.map_nil, List.getD_cons_zero, List.getD_cons_succ, ↓reduceIte, Nat.reduceEqDiff, Option.map_some, List.cons_append, List.nil_append, zcq, zh4, zdp]; first | done | rfl)
     refine zl8 zad hp hc mixed rfl [(0, []), (1, []), (2, []), (3, []), (4, []), (5, []), (6, []), (7, []), (9, []), (10, []), (11, []), (12, []), (13, []), (14, []), (8, [0, 9, 11, 13]), (15, [0]), (16, []), (17, [])] [[], [], [], [], [3], [], [5], [5, 6], [2, 3, 4, 5, 6, 7], [], [], [10], [], [12], [12, 13], [2, 3, 4, 5, 6, 7, 8, 9, 10, 11, 12, 13, 14], [2, 3, 4, 5, 6, 7, 8, 9, 10, 11, 12, 13, 14, 15], [0, 1, 2, 3, 4, 5, 6, 7, 8, 9, 10, 11, 12, 13, 14, 15, 16]] 0 (by kernel_rfl) fun K10 hK10 => ?_
     simp -dsimp -implicitDefEqProofs (disch := first | omega | decide) only [q_r, zam, zac, ↓reduceIte, List.append_nil, List.replicate_zero, Nat.reduceEqDiff, iD, Nat.reduceAdd, List.getD_cons_zero, List.getD_cons_succ, zh4, zdp, zix, zk9, zzc, je4, zco, zci, zcn, zb4, zdd]
     refine zvs (S := zh4 us rs n μ) (T := [.cells [.d (iD v), .d (iD (num us lo)), .d (iD (num us hi))]]) (ih lo (by simp only [T.sz]; omega) (v + 1) _ μ rfl hcl hol (by omega) hC) rfl (Nat.le_of_ble_eq_true rfl) (by first | rfl | (simp [AV.allIs, AV.allI, zaz, za5, za3, okI, ltI, zak, zbj, zh4]; done) | (intro o ho; simp at ho; done)) (fun t => zbv (by first | rfl | (simp [AV.allIs, AV.allI, zaz, za5, za3, okI, ltI, zak, zbj, zh4]; done) | (intro o ho; simp at ho; done)) t) (fun t => zbv (by first | rfl | (simp [AV.allIs, AV.allI, zaz, za5, za3, okI, ltI, zak, zbj, zh4]; done) | (intro o ho; simp at ho; done)) t) (by first | rfl | (simp [AV.allIs, AV.allI, zaz, za5, za3, okI, ltI, zak, zbj, zh4]; done) | (intro o ho; simp at ho; done)) (by first | rfl | (simp [AV.allIs, AV.allI, zaz, ltI, zak, zbj, zh4]; done) | (intro o ho; simp at ho; done)) (by first | rfl | (simp [AV.allIs, AV.allI, zaz, zh4]; done) | (intro o ho; simp at ho; done)) ?_
     rintro _ _ ⟨μ1, rfl, rfl, hC1⟩
     refine ⟨rfl, ?_⟩
     simp -dsimp -implicitDefEqProofs (disch := first | omega | decide) only [q_r, zam, ↓reduceIte, Nat.reduceEqDiff, iD, zh4, zdp, zix, zk9, zzc, je4, zci, zcn]
     refine zvs (S := zh4 us rs n μ1) (T := [.cells [.d (iD v), .d (iD (num us lo)), .d (iD (num us hi))]]) (ih hi (by simp only [T.sz]; omega) (v + 1) _ μ1 rfl hch hoh (by omega) hC1) rfl (Nat.le_of_ble_eq_true rfl) (by first | rfl | (simp [AV.allIs, AV.allI, zaz, za5, za3, okI, ltI, zak, zbj, zh4]; done) | (intro o ho; simp at ho; done)) (fun t => zbv (by first | rfl | (simp [AV.allIs, AV.allI, zaz, za5, za3, okI, ltI, zak, zbj, zh4]; done) | (intro o ho; simp at ho; done)) t) (fun t => zbv (by first | rfl | (simp [AV.allIs, AV.allI, zaz, za5, za3, okI, ltI, zak, zbj, zh4]; done) | (intro o ho; simp at ho; done)) t) (by first | rfl | (simp [AV.allIs, AV.allI, zaz, za5, za3, okI, ltI, zak, zbj, zh4]; done) | (intro o ho; simp at ho; done)) (by first | rfl | (simp [AV.allIs, AV.allI, zaz, ltI, zak, zbj, zh4]; done) | (intro o ho; simp at ho; done)) (by first | rfl | (simp [AV.allIs, AV.allI, zaz, zh4]; done) | (intro o ho; simp at ho; done)) ?_
     rintro _ _ ⟨μ2, rfl, rfl, hC2⟩
     refine ⟨rfl, ?_⟩
     simp -dsimp -implicitDefEqProofs (disch := first | omega | decide) only [q_r, zam, ↓reduceIte, Nat.reduceEqDiff, iD, zih, zn6, ziw, zh4, zdp, jbu mtI hk hC2.ok, zix, zk9]
     refine hK10 _ _ (hJ6 _ _ ⟨_, _, zpm (vi (num us (.node v lo hi))) (vi (jpf n (.node v lo hi))) μ2, ⟨hC2.add hul0 hf, zp0 rfl⟩, rfl, rfl, ?_⟩)
     refine Rt.trans (Rt.gc (keep := [0,1,2,3,4,5]) (by decide) (by decide) (by simp [])) ?_
     refine Rt.end (zaa (zaa (zaa (zaa (zae _) rfl) rfl) rfl) rfl) ?_
     first | rfl | (simp only [gcH, zbb, zcq, zcb, gcV, Nat.reduceAdd, zcp, za2, zav, List.map_cons, List.map_nil, List.getD_cons_zero, List.getD_cons_succ, ↓reduceIte, Nat.reduceEqDiff, Option.map_some, List.cons_append, List.nil_append, zcq, zh4, zdp]; first | done | rfl)
    ·cases ht
   ·have hu := hC.inv _ hf u hgm
    subst hu
    simp -dsimp -implicitDefEqProofs (disch := first | omega | decide) only [q_r, zam, ↓reduceIte, Nat.reduceEqDiff, Nat.reduceAdd, zgf, ziw, zhv, zvr mtI hk hC.ok, hgm, Option.getD_some, Option.isSome_some, zix, zk9]
    refine hK8 _ _ ?_
    refine zab hp zad hc rfl fun K11 hK11 => ?_
    simp -dsimp -implicitDefEqProofs (disch := first | omega | decide) only [q_r, ↓reduceIte]
    refine hK11 _ _ ?_
    refine zag rfl (fun ht => ?_) (fun ht => ?_)
    ·cases ht
    ·refine zan (hJ6 _ _ ⟨_, _, μ, ⟨hC, hgm⟩, rfl, rfl, ?_⟩)
     refine Rt.trans (Rt.gc (keep := [0,1,2,3,4,5]) (by decide) (by decide) (by simp [])) ?_
     refine Rt.end (zaa (zaa (zaa (zaa (zae _) rfl) rfl) rfl) rfl) ?_
     first | rfl | (simp only [gcH, zbb, zcq, zcb, gcV, Nat.reduceAdd, zcp, za2, zav, List.map_cons, List.map_nil, List.getD_cons_zero, List.getD_cons_succ, ↓reduceIte, Nat.reduceEqDiff, Option.map_some, List.cons_append, List.nil_append, zcq, zh4, zdp]; first | done | rfl)
theorem jpg (V : Nat) (us : List T) (rs : List Nat) (hr : RowOk V us) (hul : us.length ≤ zed) (n : Nat) (hn : n ≤ 60) : ∀ (m : Nat) (f : T), f.sz ≤ m → jte us rs n f
 | 0, f, h => by cases f <;> simp [T.sz] at h
 | m + 1, f, h => fun k ki μ hki hf hok hkn hC => jrv V us rs hr hul n hn f (fun s hs => jpg V us rs hr hul n hn m s (by omega)) k ki μ hki hf hok hkn hC
def jh8 (us : List T) (node n : Int) : Int := if zh3 us node n then (zuu n.toNat (zb5 us node) 0 : Nat) else 0
theorem jlz (V : Nat) (us : List T) (rs : List Nat) (hr : RowOk V us) (hV : V ≤ 1000) (hul : us.length ≤ zed) (node n : Int) : zbi Try.prog 50 [zfp (zdl us) rs, iD node, iD n] (.tup [.d (iD (jh8 us node n)), .d (iD (zzo us node n))]) := by
 have hul0 := hul
 unfold zed at hul
 have hel := zbc us
 refine za8 (fn := Try.f50) (by kernel_rfl) Try.func50 rfl (Nat.le_of_ble_eq_true rfl) fun c hc hp => ?_
 refine zba (τ' := frL [(0, .d (zfp (zdl us) rs)), (1, .d (iD node)), (2, .d (iD n))]) (zaa (zaa (zaa (zae _) rfl) rfl) rfl) ?_
 refine zab hp zad hc rfl fun K1 hK1 => ?_
 simp -dsimp -implicitDefEqProofs (disch := first | omega | decide) only [q_r, zau, zb0, ↓reduceIte, D.one, Nat.reduceEqDiff, iD, zau, zfp, zdp]
 refine hK1 _ _ ?_
 refine zaf fun K2 hK2 => ?_
 refine zab hp zad hc rfl fun K3 hK3 => ?_
 simp -dsimp -implicitDefEqProofs (disch := first | assumption | omega | (simp [maxLen, zah, zbq, zbc] <;> omega) | decide) only [q_r, zam, ↓reduceIte, Nat.reduceEqDiff, Nat.reduceAdd, zc8, zds, zci, zcn]
 refine zb9 (jfg V us rs hr hV hul0 node n) rfl ?_
 simp -dsimp -implicitDefEqProofs (disch := first | omega | decide) only [q_r, ↓reduceIte, iD]
 refine hK3 _ _ ?_
 refine zab hp zad hc rfl fun K4 hK4 => ?_
 rcases (show zh3 us node n = true ∨ zh3 us node n = false by cases zh3 us node n <;> simp) with q | q
 ·have hae := jh7 q
  obtain ⟨b1, b2, b3, b4, hti, hok0⟩ := zzp hr hV q
  have hnt : (num us (zb5 us node) : Int) = node := by unfold zb5; rw [ze1 hr (k := node.toNat) (by omega)]; omega
  have hnn : (n.toNat : Int) = n := by omega
  rw [hae]
  simp -dsimp -implicitDefEqProofs (disch := first | omega | decide) only [q_r, ↓reduceIte]
  refine hK4 _ _ ?_
  refine zag rfl (fun ht => ?_) (fun ht => ?_)
  ·cases ht
  ·refine zan (hK2 _ _ ?_)
   refine zab hp zad hc rfl fun K5 hK5 => ?_
   simp -dsimp -implicitDefEqProofs (disch := first | omega | decide) only [q_r, zau, zb0, za6, ↓reduceIte, Nat.reduceEqDiff, Nat.reduceAdd, zau, jkv, zix, jjj]
   refine hK5 _ _ ?_
   refine zab hp zad hc rfl fun K6 hK6 => ?_
   simp -dsimp -implicitDefEqProofs (disch := first | omega | decide) only [q_r, zau, zb0, Nat.reduceAdd, zau, jom]
   refine hK6 _ _ ?_
   refine zab hp zad hc rfl fun K7 hK7 => ?_
   simp -dsimp -implicitDefEqProofs (disch := first | omega | decide) only [q_r, za6, ↓reduceIte, Nat.reduceEqDiff, jjr, zzc]
   refine hK7 _ _ ?_
   refine zbx hp (τ' := frL [(1, .d (iD (num us (zb5 us node)))), (10, .op 4 0)]) (H' := zh4 us rs n.toNat ([], 0)) ?_ ?_
   ·refine Rt.trans (Rt.gc (keep := [0,1,2,3,4]) (by decide) (by decide) (by simp [])) ?_
    refine Rt.end (zaa (zaa (zae _) rfl) (by first | rfl | (simp [frL, gcV, iD, hnt]; done) | simp [Fr.put, frL, gcV, fzV, zcp, iD, bD, uD, oD, zay, zas, zbm, zbr, zbp, zbq, zbc, hnt, hnn, *])) ?_
    simp only [gcH, zbb, zcq, zcb, gcV, Nat.reduceAdd, zcp, za2, zav, List.map_cons, List.map_nil, List.getD_cons_zero, List.getD_cons_succ, ↓reduceIte, Nat.reduceEqDiff, Option.map_some, zcq, zdp, zh4]; simp [hnn]; rfl
   refine zab hp zad hc rfl fun K8 hK8 => ?_
   simp -dsimp -implicitDefEqProofs (disch := first | omega | decide) only [q_r, zam, ↓reduceIte, Nat.reduceEqDiff, iD, Nat.reduceAdd, zdp, zh4, zzc, je4]
   refine jnp (S := zh4 us rs n.toNat ([], 0)) (T := []) (jpg V us rs hr hul0 n.toNat (by omega) _ (zb5 us node) (Nat.le_refl _) 0 _ ([], 0) rfl hti hok0 (by omega) (COk.nil us _)) rfl (by first | rfl | (simp [AV.allIs, AV.allI, zaz, za5, za3, okI, ltI, zak, zbj, zh4]; done) | (intro o ho; simp at ho; done)) (fun t => zbv (by first | rfl | (simp [AV.allIs, AV.allI, zaz, za5, za3, okI, ltI, zak, zbj, zh4]; done) | (intro o ho; simp at ho; done)) t) (by first | rfl | (simp [AV.allIs, AV.allI, zaz, za5, za3, okI, ltI, zak, zbj, zh4]; done) | (intro o ho; simp at ho; done)) (by first | rfl | (simp [AV.allIs, AV.allI, zaz, ltI, zak, zbj, zh4]; done) | (intro o ho; simp at ho; done)) (by first | rfl | (simp [zh4]; done) | (intro o ho; simp at ho; done)) ?_
   rintro _ _ ⟨μ1, rfl, rfl, hC1⟩
   refine ⟨rfl, ?_⟩
   simp -dsimp -implicitDefEqProofs (disch := first | omega | decide) only [q_r, ↓reduceIte, List.append_nil, iD, zdp, zh4]
   refine hK8 _ _ ?_
   refine zao ?_
   show zaj _ _ = _
   simp (disch := first | omega | decide) only [List.map_cons, List.map_nil, zaj, zct, za1, za9, za7, Nat.reduceAdd, Nat.zero_add, D.fix, zat, ↓reduceIte, Nat.reduceEqDiff, Option.map_some, Option.bind_some, List.length_cons, List.length_nil, iD]
   simp [jh8, q, zzo]
 ·have hae := zxq q
  rw [hae]
  simp -dsimp -implicitDefEqProofs (disch := first | omega | decide) only [q_r, ↓reduceIte]
  refine hK4 _ _ ?_
  refine zag rfl (fun ht => ?_) (fun ht => ?_)
  ·refine zab hp zad hc rfl fun K9 hK9 => ?_
   simp -dsimp -implicitDefEqProofs (disch := first | omega | decide) only [q_r, ↓reduceIte, Nat.reduceEqDiff]
   refine hK9 _ _ ?_
   refine zao ?_
   show zaj _ _ = _
   simp (disch := first | omega | decide) only [List.map_cons, List.map_nil, zaj, zct, za1, za9, za7, Nat.reduceAdd, Nat.zero_add, D.fix, zat, ↓reduceIte, Nat.reduceEqDiff, Option.map_some, Option.bind_some, List.length_cons, List.length_nil, iD]
   simp [jh8, q, zzo]
  ·cases ht
end Go.Proofs.Ytgfnpfchdlcoeaa

/- What Build refuses; its results, as the laws take them. -/
set_option linter.unusedVariables false
set_option linter.unusedSimpArgs false
set_option maxRecDepth 100000
set_option maxHeartbeats 4000000
namespace Go.Proofs.Ytgfnpfchdlcoeaa
open Go Go.RowKit
def jm3 (n : Net) (sh : List (Int × Int)) (nodes : List Int) : Bool := decide (8 < sh.length) || (sh.any zn7 || nodes.any (zh7 (2 + n.ins.length + n.gates.length)))
theorem jl0 (n : Net) (sh : List (Int × Int)) (nodes : List Int) (h : jm3 n sh nodes = true) (hsl : sh.length ≤ maxLen) (hnl : nodes.length ≤ maxLen) (hil : n.ins.length ≤ 1000000) (hgl : n.gates.length ≤ 1000000) : zbi Try.prog 41 [zf1 n, shI sh, zay nodes] (.tup [.d (zfp [] []), .d (iD 1)]) := by
 have hin := zst sh hsl
 have hun := zsu nodes (2 + n.ins.length + n.gates.length) hnl
 have hsl' := hsl
 unfold maxLen at hsl'
 refine za8 (fn := Try.f41) (by kernel_rfl) Try.func41 rfl (Nat.le_of_ble_eq_true rfl) fun c hc hp => ?_
 refine zba (τ' := frL [(0, .d (zf1 n)), (1, .d (shI sh)), (2, .d (zay nodes))]) (zaa (zaa (zaa (zae _) rfl) rfl) rfl) ?_
 refine zab hp zad hc rfl fun K1 hK1 => ?_
 simp -dsimp -implicitDefEqProofs (disch := first | omega | decide) only [q_r, zau, zb0, ↓reduceIte, D.one, zay, zau, zf1, zc2, zbh, zbg, shI, zvy]
 refine hK1 _ _ ?_
 refine zab hp zad hc rfl fun K2 hK2 => ?_
 simp -dsimp -implicitDefEqProofs (disch := first | omega | decide) only [q_r]
 refine hK2 _ _ ?_
 refine zab hp zad hc rfl fun K3 hK3 => ?_
 simp -dsimp -implicitDefEqProofs (disch := first | omega | decide) only [q_r, zau, zam, zac, zc1, zar, zb0, za6, ↓reduceIte, Nat.reduceEqDiff, Nat.reduceAdd, zau, zfm, zjo, zjp, zof, zci, zge, zog, zoh, ztu, js5]
 refine hK3 _ _ ?_
 refine zab hp zad hc rfl fun K4 hK4 => ?_
 simp -dsimp -implicitDefEqProofs (disch := first | omega | decide) only [q_r, ↓reduceIte]
 refine hK4 _ _ ?_
 refine zaf fun K5 hK5 => ?_
 refine zab hp zad hc rfl fun K6 hK6 => ?_
 rcases (show 8 < sh.length ∨ (sh.length ≤ 8 ∧ sh.any zn7 = true) ∨ (sh.length ≤ 8 ∧ sh.any zn7 = false ∧ nodes.any (zh7 (2 + n.ins.length + n.gates.length)) = true) by simp only [jm3, Bool.or_eq_true, decide_eq_true_eq] at h; rcases h with h | h | h; exact .inl h; by_cases h8 : 8 < sh.length; exact .inl h8; exact .inr (.inl ⟨by omega, h⟩); by_cases h8 : 8 < sh.length; exact .inl h8; cases e : sh.any zn7; exact .inr (.inr ⟨by omega, rfl, h⟩); exact .inr (.inl ⟨by omega, rfl⟩)) with q | ⟨q, q'⟩ | ⟨q, q', q''⟩
 ·have q0 : decide ((8 : Int) < sh.length) = true := by simp; omega
  simp -dsimp -implicitDefEqProofs (disch := first | omega | decide) only [q_r, zc1, zar, ↓reduceIte, Nat.reduceEqDiff, q0, zgd]
  refine hK6 _ _ ?_
  refine zag rfl (fun ht => ?_) (fun ht => ?_)
  ·refine zab hp zad hc rfl fun K7 hK7 => ?_
   simp -dsimp -implicitDefEqProofs (disch := first | omega | decide) only [q_r, zb7, za6, ↓reduceIte, AV.one, D.one, Value.oneCell', Nat.reduceEqDiff, Nat.reduceAdd, zvz, zc8, zvx]
   refine hK7 _ _ ?_
   refine zao ?_
   try dsimp only [zfd, zcc]
   refine zg0 rfl ?_
   simp -dsimp -implicitDefEqProofs (disch := first | omega | decide) only [q_r, zam, ↓reduceIte, Nat.reduceEqDiff, iD, Nat.reduceAdd, zc8, zds]
   show zaj _ _ = _
   simp (disch := first | omega | decide) only [List.map_cons, List.map_nil, zaj, za1, zcr, za9, za7, Nat.reduceAdd, Nat.zero_add, D.fix, Option.map_some, Option.bind_some, List.length_cons, List.length_nil]
   rfl
  ·cases ht
 ·have q0 : decide ((8 : Int) < sh.length) = false := by simp; omega
  rw [q'] at hin
  simp -dsimp -implicitDefEqProofs (disch := first | omega | decide) only [q_r, zc1, zar, ↓reduceIte, Nat.reduceEqDiff, Nat.reduceAdd, q0, zgd]
  refine zb9 (hin) rfl ?_
  simp -dsimp -implicitDefEqProofs (disch := first | omega | decide) only [q_r, ↓reduceIte, Nat.reduceEqDiff, oD]
  refine hK6 _ _ ?_
  refine zag rfl (fun ht => ?_) (fun ht => ?_)
  ·refine zab hp zad hc rfl fun K8 hK8 => ?_
   simp -dsimp -implicitDefEqProofs (disch := first | omega | decide) only [q_r, zb7, za6, ↓reduceIte, AV.one, D.one, Value.oneCell', Nat.reduceEqDiff, Nat.reduceAdd, zvz, zc8, zvx]
   refine hK8 _ _ ?_
   refine zao ?_
   try dsimp only [zfd, zcc]
   refine zg0 rfl ?_
   simp -dsimp -implicitDefEqProofs (disch := first | omega | decide) only [q_r, zam, ↓reduceIte, Nat.reduceEqDiff, iD, Nat.reduceAdd, zc8, zds]
   show zaj _ _ = _
   simp (disch := first | omega | decide) only [List.map_cons, List.map_nil, zaj, za1, zcr, za9, za7, Nat.reduceAdd, Nat.zero_add, D.fix, Option.map_some, Option.bind_some, List.length_cons, List.length_nil]
   rfl
  ·cases ht
 ·have q0 : decide ((8 : Int) < sh.length) = false := by simp; omega
  rw [q'] at hin
  rw [q''] at hun
  simp -dsimp -implicitDefEqProofs (disch := first | omega | decide) only [q_r, zc1, zar, ↓reduceIte, Nat.reduceEqDiff, Nat.reduceAdd, q0, zgd]
  refine zb9 (hin) rfl ?_
  simp -dsimp -implicitDefEqProofs (disch := first | omega | decide) only [q_r, ↓reduceIte, Nat.reduceEqDiff, oD, Nat.reduceAdd]
  refine zl4 (hun) ?_ ?_
  ·simp (disch := first | omega | decide) only [za1, za9, za7, zbt, zbl, zfj, zkv, Nat.reduceAdd, D.fix, Option.map_some, Option.bind_some, List.getElem?_cons_zero, List.getElem?_cons_succ, iD, zay]
  simp -dsimp -implicitDefEqProofs (disch := first | omega | decide) only [q_r, ↓reduceIte, Nat.reduceEqDiff]
  refine hK6 _ _ ?_
  refine zag rfl (fun ht => ?_) (fun ht => ?_)
  ·refine zab hp zad hc rfl fun K9 hK9 => ?_
   simp -dsimp -implicitDefEqProofs (disch := first | omega | decide) only [q_r, zb7, za6, ↓reduceIte, AV.one, D.one, Value.oneCell', Nat.reduceEqDiff, Nat.reduceAdd, zvz, zc8, zvx]
   refine hK9 _ _ ?_
   refine zao ?_
   try dsimp only [zfd, zcc]
   refine zg0 rfl ?_
   simp -dsimp -implicitDefEqProofs (disch := first | omega | decide) only [q_r, zam, ↓reduceIte, Nat.reduceEqDiff, iD, Nat.reduceAdd, zc8, zds]
   show zaj _ _ = _
   simp (disch := first | omega | decide) only [List.map_cons, List.map_nil, zaj, za1, zcr, za9, za7, Nat.reduceAdd, Nat.zero_add, D.fix, Option.map_some, Option.bind_some, List.length_cons, List.length_nil]
   rfl
  ·cases ht
def BuR (V : Nat) (n : Net) (sh : Sh) (nodes : List Int) (ns : List Nd) (rs : List Nat) (e : Int) : Prop :=
 (e = 2 ∧ ns = [] ∧ rs = [] ∧ ∃ j fs, j ≤ n.gates.length ∧ FsP V n.ins.length sh n.gates j fs ∧ 3000 < (zd1 fs).length) ∨
 (e = 0 ∧ ∃ fs, FsP V n.ins.length sh n.gates n.gates.length fs ∧ (∀ q, q < n.gates.length → (zd1 (fs.take (2 + n.ins.length + (q + 1)))).length ≤ 3000) ∧ ns = zdl (zd1 (zej fs nodes)) ∧ rs = (zej fs nodes).map (num (zd1 (zej fs nodes))))
theorem BuK.parts {V : Nat} {n : Net} {sh : Sh} {nodes : List Int} {r : AV} (h : BuK V n sh nodes r) : ∃ ns rs e, r = .tup [.d (zfp ns rs), .d (iD e)] ∧ BuR V n sh nodes ns rs e := by
 rcases h with ⟨j, fs, h1, h2, h3, rfl⟩ | ⟨fs, h1, h2, rfl⟩
 ·exact ⟨_, _, _, rfl, .inl ⟨rfl, rfl, rfl, j, fs, h1, h2, h3⟩⟩
 ·exact ⟨_, _, _, rfl, .inr ⟨rfl, fs, h1, h2, rfl, rfl⟩⟩
def zsw (ns : List Nd) (rs : List Nat) (e : Int) : D := .agg (zdp ns rs ++ [iD e])
structure BIn (V : Nat) (n : Net) (sh : Sh) (nodes : List Int) : Prop where
 hsh : ShOk sh
 hV : zcz n.ins.length sh = V
 hV9 : V ≤ 900
 hgs : ∀ k, k < n.gates.length → GOp (2 + n.ins.length + k) (nth n.gates k)
 hno : nodes.any (zh7 (2 + n.ins.length + n.gates.length)) = false
 hnl : nodes.length ≤ 1000000
 hil : n.ins.length ≤ 1000
 hgl : n.gates.length ≤ 1000
 hB : n.ins.length + n.gates.length * (8 + 7 * 2 ^ V) + 32 * 2 ^ V ≤ zed
theorem BIn.build {V : Nat} {n : Net} {sh : Sh} {nodes : List Int} (h : BIn V n sh nodes) : RCalls Try.prog 41 [zf1 n, shD sh, zay nodes] (BuK V n sh nodes) := jlq V n sh nodes h.hsh h.hV h.hV9 h.hgs h.hno h.hnl h.hil h.hgl h.hB
theorem zxs (V : Nat) (n : Net) (sh : Sh) (nodes : List Int) (hb : BIn V n sh nodes) : RCalls Try.prog 15 [zf1 n, shD sh, zay nodes] (fun r => ∃ ns rs e, r = .d (zsw ns rs e) ∧ BuR V n sh nodes ns rs e) := by
 refine zgr (fn := Try.f15) (by kernel_rfl) Try.func15 rfl (Nat.le_of_ble_eq_true rfl) fun c hc hp => ?_
 refine zba (τ' := frL [(0, .d (zf1 n)), (1, .d (shD sh)), (2, .d (zay nodes))]) (zaa (zaa (zaa (zae _) rfl) rfl) rfl) ?_
 refine zab hp zad hc rfl fun K1 hK1 => ?_
 simp -dsimp -implicitDefEqProofs (disch := first | omega | decide) only [q_r, zau, zb0, ↓reduceIte, D.one, zay, zau, zf1, zc2, zbh, zbg, shD, jb4]
 refine hK1 _ _ ?_
 refine zab hp zad hc rfl fun K2 hK2 => ?_
 simp -dsimp -implicitDefEqProofs (disch := first | omega | decide) only [q_r, zam, ↓reduceIte, Nat.reduceEqDiff, Nat.reduceAdd, zf0, zgm]
 refine zvg (hb.build) rfl fun r hr0 => ?_
 obtain ⟨ns, rs, e, rfl, hr⟩ := BuK.parts hr0
 simp -dsimp -implicitDefEqProofs (disch := first | omega | decide) only [q_r, zau, zb0, za6, ↓reduceIte, D.one, Nat.reduceEqDiff, iD, Nat.reduceAdd, zau, zfp, zdp, zc8, zvy]
 refine hK2 _ _ ?_
 refine zab hp zad hc rfl fun K3 hK3 => ?_
 simp -dsimp -implicitDefEqProofs (disch := first | omega | decide) only [q_r, zam, zb7, za6, ↓reduceIte, AV.one, D.one, Value.oneCell', Nat.reduceEqDiff, Nat.reduceAdd, zc8, zds, zv4, zpt, zpu, zk2, zv3]
 refine hK3 _ _ ?_
 refine zao ?_
 try dsimp only [zfd, zcc]
 refine zch rfl ?_
 simp -dsimp -implicitDefEqProofs (disch := first | omega | decide) only [q_r, zam, ↓reduceIte, Nat.reduceEqDiff, Nat.reduceAdd, zk2, zv2]
 show ∃ r, zaj _ _ = some r ∧ _
 simp (disch := first | omega | decide) only [zaj, za1, zcr, za9, za7, Nat.reduceAdd, Nat.zero_add, D.fix, Option.map_some, Option.bind_some, List.length_cons, List.length_nil]
 exact ⟨_, rfl, ns, rs, e, rfl, hr⟩
theorem zud (n : Net) (sh : List (Int × Int)) (nodes : List Int) (h : jm3 n sh nodes = true) (hsl : sh.length ≤ maxLen) (hnl : nodes.length ≤ maxLen) (hil : n.ins.length ≤ 1000000) (hgl : n.gates.length ≤ 1000000) : zbi Try.prog 15 [zf1 n, shI sh, zay nodes] (.d (zsw [] [] 1)) := by
 refine za8 (fn := Try.f15) (by kernel_rfl) Try.func15 rfl (Nat.le_of_ble_eq_true rfl) fun c hc hp => ?_
 refine zba (τ' := frL [(0, .d (zf1 n)), (1, .d (shI sh)), (2, .d (zay nodes))]) (zaa (zaa (zaa (zae _) rfl) rfl) rfl) ?_
 refine zab hp zad hc rfl fun K1 hK1 => ?_
 simp -dsimp -implicitDefEqProofs (disch := first | omega | decide) only [q_r, zau, zb0, ↓reduceIte, D.one, zay, zau, zf1, zc2, zbh, zbg, shI, jb4]
 refine hK1 _ _ ?_
 refine zab hp zad hc rfl fun K2 hK2 => ?_
 simp -dsimp -implicitDefEqProofs (disch := first | omega | decide) only [q_r, zam, ↓reduceIte, Nat.reduceEqDiff, Nat.reduceAdd, zf0, zgm]
 refine zb9 (jl0 n sh nodes h hsl hnl hil hgl) rfl ?_
 simp -dsimp -implicitDefEqProofs (disch := first | omega | decide) only [q_r, zau, zb0, za6, ↓reduceIte, D.one, Nat.reduceEqDiff, iD, Nat.reduceAdd, zau, zfp, zdp, zc8, zvy]
 refine hK2 _ _ ?_
 refine zab hp zad hc rfl fun K3 hK3 => ?_
 simp -dsimp -implicitDefEqProofs (disch := first | omega | decide) only [q_r, zam, zb7, za6, ↓reduceIte, AV.one, D.one, Value.oneCell', Nat.reduceEqDiff, Nat.reduceAdd, zc8, zds, zv4, zpt, zpu, zk2, zv3]
 refine hK3 _ _ ?_
 refine zao ?_
 try dsimp only [zfd, zcc]
 refine zch rfl ?_
 simp -dsimp -implicitDefEqProofs (disch := first | omega | decide) only [q_r, zam, ↓reduceIte, Nat.reduceEqDiff, Nat.reduceAdd, zk2, zv2]
 show zaj _ _ = _
 simp (disch := first | omega | decide) only [zaj, za1, zcr, za9, za7, Nat.reduceAdd, Nat.zero_add, D.fix, Option.map_some, Option.bind_some, List.length_cons, List.length_nil]
 rfl
theorem zxt (V : Nat) (us : List T) (rs : List Nat) (hr : RowOk V us) (hV : V ≤ 1000) (hul : us.length ≤ zed) (node n : Int) : zbi Try.prog 20 [zfp (zdl us) rs, iD node, iD n] (.d (.agg [zas (zq3 us node n), iD (zwd us node n)])) := by
 refine za8 (fn := Try.f20) (by kernel_rfl) Try.func20 rfl (Nat.le_of_ble_eq_true rfl) fun c hc hp => ?_
 refine zba (τ' := frL [(0, .d (zfp (zdl us) rs)), (1, .d (iD node)), (2, .d (iD n))]) (zaa (zaa (zaa (zae _) rfl) rfl) rfl) ?_
 refine zab hp zad hc rfl fun K1 hK1 => ?_
 simp -dsimp -implicitDefEqProofs (disch := first | omega | decide) only [q_r, zau, zb0, ↓reduceIte, D.one, iD, zau, zfp, zdp, jev]
 refine hK1 _ _ ?_
 refine zab hp zad hc rfl fun K2 hK2 => ?_
 simp -dsimp -implicitDefEqProofs (disch := first | omega | decide) only [q_r, zam, ↓reduceIte, Nat.reduceEqDiff, Nat.reduceAdd, zc8, zds]
 refine zb9 (jru V us rs hr hV hul node n) rfl ?_
 simp -dsimp -implicitDefEqProofs (disch := first | omega | decide) only [q_r, ↓reduceIte, Nat.reduceEqDiff, iD, zas]
 refine hK2 _ _ ?_
 refine zab hp zad hc rfl fun K3 hK3 => ?_
 simp -dsimp -implicitDefEqProofs (disch := first | omega | decide) only [q_r, zb7, za6, ↓reduceIte, AV.one, D.one, Value.oneCell', Nat.reduceEqDiff, Nat.reduceAdd, jhe, jex, zxg, zpv, jhd]
 refine hK3 _ _ ?_
 refine zao ?_
 try dsimp only [zfd, zcc]
 refine zch rfl ?_
 simp -dsimp -implicitDefEqProofs (disch := first | omega | decide) only [q_r, zam, ↓reduceIte, Nat.reduceEqDiff, iD, zas, Nat.reduceAdd, zpv, jhc]
 show zaj _ _ = _
 simp (disch := first | omega | decide) only [zaj, za1, zcr, za9, za7, Nat.reduceAdd, Nat.zero_add, D.fix, Option.map_some, Option.bind_some, List.length_cons, List.length_nil]
theorem zp9 (V : Nat) (us : List T) (rs : List Nat) (hr : RowOk V us) (hV : V ≤ 1000) (hul : us.length ≤ zed) (node n : Int) : zbi Try.prog 27 [zfp (zdl us) rs, iD node, iD n] (.d (.agg [iD (jh8 us node n), iD (zzo us node n)])) := by
 refine za8 (fn := Try.f27) (by kernel_rfl) Try.func27 rfl (Nat.le_of_ble_eq_true rfl) fun c hc hp => ?_
 refine zba (τ' := frL [(0, .d (zfp (zdl us) rs)), (1, .d (iD node)), (2, .d (iD n))]) (zaa (zaa (zaa (zae _) rfl) rfl) rfl) ?_
 refine zab hp zad hc rfl fun K1 hK1 => ?_
 simp -dsimp -implicitDefEqProofs (disch := first | omega | decide) only [q_r, zau, zb0, ↓reduceIte, D.one, iD, zau, zfp, zdp, jn8]
 refine hK1 _ _ ?_
 refine zab hp zad hc rfl fun K2 hK2 => ?_
 simp -dsimp -implicitDefEqProofs (disch := first | omega | decide) only [q_r, zam, ↓reduceIte, Nat.reduceEqDiff, Nat.reduceAdd, zc8, zds]
 refine zb9 (jlz V us rs hr hV hul node n) rfl ?_
 simp -dsimp -implicitDefEqProofs (disch := first | omega | decide) only [q_r, ↓reduceIte, Nat.reduceEqDiff, iD]
 refine hK2 _ _ ?_
 refine zab hp zad hc rfl fun K3 hK3 => ?_
 simp -dsimp -implicitDefEqProofs (disch := first | omega | decide) only [q_r, zb7, za6, ↓reduceIte, AV.one, D.one, Value.oneCell', Nat.reduceEqDiff, Nat.reduceAdd, jhg, zxh, jez, jb5, jhf]
 refine hK3 _ _ ?_
 refine zao ?_
 try dsimp only [zfd, zcc]
 refine zch rfl ?_
 simp -dsimp -implicitDefEqProofs (disch := first | omega | decide) only [q_r, zam, ↓reduceIte, Nat.reduceEqDiff, iD, Nat.reduceAdd, jb5, jk6]
 show zaj _ _ = _
 simp (disch := first | omega | decide) only [zaj, za1, zcr, za9, za7, Nat.reduceAdd, Nat.zero_add, D.fix, Option.map_some, Option.bind_some, List.length_cons, List.length_nil]
end Go.Proofs.Ytgfnpfchdlcoeaa
