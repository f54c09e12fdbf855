/- The count and the path. -/
import Derived.Test.YtgfnpfchdlcoeaaQ
import Derived.Test.YtgfnpfchdlcoeaaCk
set_option linter.unusedVariables false
set_option linter.unusedSimpArgs false
namespace Go.Proofs.Ytgfnpfchdlcoeaa
open Go Go.RowKit
theorem ok_vs {V n : Nat} : ∀ {t : T} {k : Nat}, t.Ok V k → (∀ v ∈ t.vs, v < n) → t.Ok n k
  | .leaf b, _, _, _ => trivial
  | .node u l h, k, ht, hv => ⟨ht.1, hv u (by simp [T.vs]), ht.2.2.1, ok_vs ht.2.2.2.1 fun v h' => hv v (by simp [T.vs, h']), ok_vs ht.2.2.2.2 fun v h' => hv v (by simp [T.vs, h'])⟩
def askB (us : List T) (node n : Int) : Bool := zhn us node && (decide (0 ≤ n) && (decide (n ≤ 60) && (supL (zdz us node)).all fun x => decide (x < n)))
def askE (us : List T) (node n : Int) : Int := if askB us node n then 0 else 1
theorem ask_0 {us : List T} {node n : Int} (h : askB us node n = true) : askE us node n = 0 := by unfold askE; rw [if_pos h]
theorem zvd {us : List T} {node n : Int} (h : askB us node n = false) : askE us node n = 1 := by unfold askE; rw [if_neg (by simp [h])]
theorem ask_ok {V : Nat} {us : List T} (hr : RowOk V us) (hV : V ≤ 1000) {node n : Int} (h : askB us node n = true) : 0 ≤ node ∧ node < 2 + us.length ∧ 0 ≤ n ∧ n ≤ 60 ∧ zdz us node ∈ full us ∧ (zdz us node).Ok n.toNat 0 := by
  simp only [askB, zhn, Bool.and_eq_true, decide_eq_true_eq, List.all_eq_true] at h
  obtain ⟨⟨h1, h2⟩, h3, h4, h5⟩ := h
  have ht : zdz us node ∈ full us := zva (us := us) (k := node.toNat) (by omega)
  refine ⟨h1, h2, h3, h4, ht, ok_vs (hr.okf ht) fun v hv => ?_⟩
  have := h5 (v : Int) ((zvc hV (hr.okf ht)).2 ⟨v, hv, rfl⟩)
  omega
theorem last_lt {l : List Int} (h : l.Pairwise (fun a b => a < b)) (h0 : l ≠ []) (n : Int) : (l.all fun x => decide (x < n)) = decide (nth l (l.length - 1) < n) := by
  have hpos : 0 < l.length := List.length_pos_iff.2 h0
  have hm := zdi (l := l) (k := l.length - 1) (by omega)
  rw [Bool.eq_iff_iff]
  simp only [List.all_eq_true, decide_eq_true_eq]
  refine ⟨fun h' => h' _ hm, fun h' x hx => ?_⟩
  obtain ⟨i, hi, rfl⟩ := List.getElem_of_mem hx
  rw [zde (by omega)] at h'
  by_cases e : i = l.length - 1
  · subst e; exact h'
  · have := List.pairwise_iff_getElem.1 h i (l.length - 1) hi (by omega) (by omega)
    omega
set_option maxRecDepth 100000 in
set_option linter.unusedVariables false in
set_option maxHeartbeats 4000000 in
theorem asked_c (V : Nat) (us : List T) (rs : List Nat) (hr : RowOk V us) (hV : V ≤ 1000) (hul : us.length ≤ bigB) (node n : Int) : zce Try.prog 67 [bddD (erow us) rs, iD node, iD n] (.d (iD (askE us node n))) := by
  have hul0 := hul
  unfold bigB at hul
  have hel := zai us
  refine zb7 (fn := Try.f67) (by kernel_rfl) Try.func67 rfl (Nat.le_of_ble_eq_true rfl) fun c hc hp => ?_
  refine zch (τ' := frL [(0, .d (bddD (erow us) rs)), (1, .d (iD node)), (2, .d (iD n))]) (zaa (zaa (zaa (zaq _) rfl) rfl) rfl) ?_
  refine zac hp zao hc rfl fun K1 hK1 => ?_
  simp -dsimp -implicitDefEqProofs (disch := first | assumption | omega | (simp [maxLen, zab, zah, zai] <;> omega) | decide) only [zag, zdy, zbd, zaj, zae, q_o, layF, ↓reduceIte, q_b, q_f, q_s, q_l, zca, D.one, iD, zbd, bddD, bddC]
  refine hK1 _ _ ?_
  refine zas fun K2 hK2 => ?_
  refine zac hp zao hc rfl fun K3 hK3 => ?_
  rcases (show node < 0 ∨ (0 ≤ node ∧ 2 + (us.length : Int) ≤ node) ∨ (0 ≤ node ∧ node < 2 + (us.length : Int) ∧ n < 0) ∨ (0 ≤ node ∧ node < 2 + (us.length : Int) ∧ 0 ≤ n ∧ 60 < n) ∨ (0 ≤ node ∧ node < 2 + (us.length : Int) ∧ 0 ≤ n ∧ n ≤ 60) by omega) with q | ⟨q, q'⟩ | ⟨q, q', q''⟩ | ⟨q, q', q'', q4⟩ | ⟨q, q', q'', q4⟩
  · have q1 : decide (node < 0) = true := by simp; omega
    have q2 := q1
    have q3 := q1
    have q5 := q1
    have hx : askB us node n = false := by simp [askB, zhn]; omega
    simp -dsimp -implicitDefEqProofs (disch := first | assumption | omega | (simp [maxLen, zab, zah, zai] <;> omega) | decide) only [zal, zbq, za1, zaj, sT_g, zae, gK_f, q_o, zay, zcz, ↓reduceIte, q_b, zar, zbk, q_f, q_l, Nat.reduceEqDiff, q1]
    refine hK3 _ _ ?_
    refine zau rfl (fun ht => ?_) (fun ht => ?_)
    · refine zac hp zao hc rfl fun K4 hK4 => ?_
      simp -dsimp -implicitDefEqProofs (disch := first | assumption | omega | (simp [maxLen, zab, zah, zai] <;> omega) | decide) only [zag, zaj, q_f]
      refine hK4 _ _ ?_
      refine zbc ?_
      show za7 _ _ = _
      simp (disch := first | assumption | omega | (simp [maxLen, zab, zah, zai] <;> omega) | decide) only [za7, retV, zbr, Nat.zero_add, D.fix, zbi, ↓reduceIte, Option.map_some, List.length_cons, List.length_nil, iD]
      rw [zvd hx]
    · cases ht
  · have q1 : decide (node < 0) = false := by simp; omega
    have q2 : decide (2 + ((erow us).length : Int) ≤ node) = true := by simp [hel]; omega
    have q3 := q1
    have q5 := q1
    have hx : askB us node n = false := by simp [askB, zhn]; omega
    simp -dsimp -implicitDefEqProofs (disch := first | assumption | omega | (simp [maxLen, zab, zah, zai] <;> omega) | decide) only [zal, zbq, zat, zb6, za1, zb8, zaj, sT_g, zae, gK_t, gK_f, q_o, za8, zam, zay, lenF, zbe, zcu, zcz, zeb, ↓reduceIte, q_b, ifp, zar, zbk, q_f, q_s, q_l, q_n, Nat.reduceEqDiff, q1, q2, zdc, zen, zeo, zep]
    refine hK3 _ _ ?_
    refine zau rfl (fun ht => ?_) (fun ht => ?_)
    · refine zac hp zao hc rfl fun K5 hK5 => ?_
      simp -dsimp -implicitDefEqProofs (disch := first | assumption | omega | (simp [maxLen, zab, zah, zai] <;> omega) | decide) only [zag, zaj, q_f]
      refine hK5 _ _ ?_
      refine zbc ?_
      show za7 _ _ = _
      simp (disch := first | assumption | omega | (simp [maxLen, zab, zah, zai] <;> omega) | decide) only [za7, retV, zbr, Nat.zero_add, D.fix, zbi, ↓reduceIte, Option.map_some, List.length_cons, List.length_nil, iD]
      rw [zvd hx]
    · cases ht
  · have q1 : decide (node < 0) = false := by simp; omega
    have q2 : decide (2 + ((erow us).length : Int) ≤ node) = false := by simp [hel]; omega
    have q3 : decide (n < 0) = true := by simp; omega
    have q5 := q1
    have hx : askB us node n = false := by simp [askB, zhn]; omega
    simp -dsimp -implicitDefEqProofs (disch := first | assumption | omega | (simp [maxLen, zab, zah, zai] <;> omega) | decide) only [zal, zbq, zat, zb6, za1, zb8, zaj, sT_g, zae, gK_t, gK_f, q_o, za8, zam, zay, lenF, zbe, zcu, zcz, zeb, ↓reduceIte, q_b, ifp, zar, zbk, q_f, q_s, q_l, q_n, Nat.reduceEqDiff, q1, q2, q3, zdc, zen, zeo, zep]
    refine hK3 _ _ ?_
    refine zau rfl (fun ht => ?_) (fun ht => ?_)
    · refine zac hp zao hc rfl fun K6 hK6 => ?_
      simp -dsimp -implicitDefEqProofs (disch := first | assumption | omega | (simp [maxLen, zab, zah, zai] <;> omega) | decide) only [zag, zaj, q_f]
      refine hK6 _ _ ?_
      refine zbc ?_
      show za7 _ _ = _
      simp (disch := first | assumption | omega | (simp [maxLen, zab, zah, zai] <;> omega) | decide) only [za7, retV, zbr, Nat.zero_add, D.fix, zbi, ↓reduceIte, Option.map_some, List.length_cons, List.length_nil, iD]
      rw [zvd hx]
    · cases ht
  · have q1 : decide (node < 0) = false := by simp; omega
    have q2 : decide (2 + ((erow us).length : Int) ≤ node) = false := by simp [hel]; omega
    have q3 : decide (n < 0) = false := by simp; omega
    have q5 : decide (60 < n) = true := by simp; omega
    have hx : askB us node n = false := by simp [askB, zhn]; omega
    simp -dsimp -implicitDefEqProofs (disch := first | assumption | omega | (simp [maxLen, zab, zah, zai] <;> omega) | decide) only [zal, zbq, zat, zb6, za1, zb8, zaj, sT_g, zae, gK_t, q_o, za8, zam, zay, lenF, zbe, zcu, zcz, zgj, zeb, ↓reduceIte, q_b, ifp, zar, zbk, q_f, q_s, q_l, q_n, Nat.reduceEqDiff, q1, q2, q3, q5, zdc, zen, zeo, zep]
    refine hK3 _ _ ?_
    refine zau rfl (fun ht => ?_) (fun ht => ?_)
    · refine zac hp zao hc rfl fun K7 hK7 => ?_
      simp -dsimp -implicitDefEqProofs (disch := first | assumption | omega | (simp [maxLen, zab, zah, zai] <;> omega) | decide) only [zag, zaj, q_f]
      refine hK7 _ _ ?_
      refine zbc ?_
      show za7 _ _ = _
      simp (disch := first | assumption | omega | (simp [maxLen, zab, zah, zai] <;> omega) | decide) only [za7, retV, zbr, Nat.zero_add, D.fix, zbi, ↓reduceIte, Option.map_some, List.length_cons, List.length_nil, iD]
      rw [zvd hx]
    · cases ht
  · have q1 : decide (node < 0) = false := by simp; omega
    have q2 : decide (2 + ((erow us).length : Int) ≤ node) = false := by simp [hel]; omega
    have q3 : decide (n < 0) = false := by simp; omega
    have q5 : decide (60 < n) = false := by simp; omega
    have hnb : zhn us node = true := by unfold zhn; rw [decide_eq_true q, decide_eq_true q']; rfl
    have hx : askB us node n = (supL (zdz us node)).all fun x => decide (x < n) := by simp [askB, hnb, q'', q4]
    have hsb : supB us node = supL (zdz us node) := by unfold supB; rw [if_pos hnb]
    simp -dsimp -implicitDefEqProofs (disch := first | assumption | omega | (simp [maxLen, zab, zah, zai] <;> omega) | decide) only [zal, zbq, zat, zb6, za1, zb8, zaj, sT_g, zae, gK_t, q_o, za8, zam, zay, lenF, zbe, zcu, zcz, zgj, zeb, ↓reduceIte, q_b, ifp, zar, zbk, q_f, q_s, q_l, q_n, Nat.reduceEqDiff, q1, q2, q3, q5, zdc, zen, zeo, zep]
    refine hK3 _ _ ?_
    refine zau rfl (fun ht => ?_) (fun ht => ?_)
    · cases ht
    · refine zbb (hK2 _ _ ?_)
      refine zas fun K8 hK8 => ?_
      refine zac hp zao hc rfl fun K9 hK9 => ?_
      simp -dsimp -implicitDefEqProofs (disch := first | assumption | omega | (simp [maxLen, zab, zah, zai] <;> omega) | decide) only [zal, zat, zbh, zae, q_o, za8, ↓reduceIte, q_b, ifp, q_f, q_s, q_l, q_n, Nat.reduceEqDiff, zak, zez, zft]
      refine zda (zpq V us rs hr hV hul0 node) rfl ?_
      simp -dsimp -implicitDefEqProofs (disch := first | assumption | omega | (simp [maxLen, zab, zah, zai] <;> omega) | decide) only [zag, zaj, ↓reduceIte, q_b, q_f, zbj]
      have hsl := sup_len (zdz us node)
      rw [hsb]
      refine hK9 _ _ ?_
      refine zac hp zao hc rfl fun K10 hK10 => ?_
      rcases (show supL (zdz us node) = [] ∨ (supL (zdz us node) ≠ [] ∧ n ≤ nth (supL (zdz us node)) ((supL (zdz us node)).length - 1)) ∨ (supL (zdz us node) ≠ [] ∧ nth (supL (zdz us node)) ((supL (zdz us node)).length - 1) < n) by by_cases h : supL (zdz us node) = [] <;> simp [h]; omega) with p | ⟨p, p'⟩ | ⟨p, p'⟩
      · have p1 : decide (0 < ((supL (zdz us node)).length : Int)) = false := by simp [p]
        have p2 := p1
        have p3 := p1
        have hx2 : askB us node n = true := by rw [hx, p]; rfl
        simp -dsimp -implicitDefEqProofs (disch := first | assumption | omega | (simp [maxLen, zab, zah, zai] <;> omega) | decide) only [zal, zbq, za1, zb8, zaj, sT_g, zae, gK_f, q_o, zay, lenF, zbe, zgj, ↓reduceIte, q_b, zar, zck, q_f, q_s, q_l, Nat.reduceEqDiff, p1, zea]
        refine hK10 _ _ ?_
        refine zau rfl (fun ht => ?_) (fun ht => ?_)
        · cases ht
        · refine zbb (hK8 _ _ ?_)
          refine zac hp zao hc rfl fun K11 hK11 => ?_
          simp -dsimp -implicitDefEqProofs (disch := first | assumption | omega | (simp [maxLen, zab, zah, zai] <;> omega) | decide) only [zag, zaj, q_f]
          refine hK11 _ _ ?_
          refine zbc ?_
          show za7 _ _ = _
          simp (disch := first | assumption | omega | (simp [maxLen, zab, zah, zai] <;> omega) | decide) only [za7, retV, zbr, Nat.zero_add, D.fix, zbi, ↓reduceIte, Option.map_some, List.length_cons, List.length_nil, iD]
          rw [ask_0 hx2]
      · have ppos : 0 < (supL (zdz us node)).length := List.length_pos_iff.2 p
        have p1 : decide (0 < ((supL (zdz us node)).length : Int)) = true := by simp; omega
        have p2 : (((supL (zdz us node)).length : Int) - 1).toNat = (supL (zdz us node)).length - 1 := by omega
        have p3 : decide (n ≤ nth (supL (zdz us node)) ((supL (zdz us node)).length - 1)) = true := by simpa using p'
        have hx2 : askB us node n = false := by rw [hx, last_lt (zoo _) p]; simp; omega
        simp -dsimp -implicitDefEqProofs (disch := first | assumption | omega | (simp [maxLen, zab, zah, zai] <;> omega) | decide) only [zal, zbq, zat, zdo, za1, zb8, zaj, sT_g, zae, gK_t, q_o, za8, ixO, za2, zay, lenF, zbe, zg7, zgj, zeb, ↓reduceIte, q_b, ifp, zar, zck, q_f, q_s, q_l, q_n, Nat.reduceEqDiff, zcg, iD, p1, p2, p3, zea, sz_3, ag_3]
        refine hK10 _ _ ?_
        refine zau rfl (fun ht => ?_) (fun ht => ?_)
        · refine zac hp zao hc rfl fun K12 hK12 => ?_
          simp -dsimp -implicitDefEqProofs (disch := first | assumption | omega | (simp [maxLen, zab, zah, zai] <;> omega) | decide) only [zag, zaj, q_f]
          refine hK12 _ _ ?_
          refine zbc ?_
          show za7 _ _ = _
          simp (disch := first | assumption | omega | (simp [maxLen, zab, zah, zai] <;> omega) | decide) only [za7, retV, zbr, Nat.zero_add, D.fix, zbi, ↓reduceIte, Option.map_some, List.length_cons, List.length_nil, iD]
          rw [zvd hx2]
        · cases ht
      · have ppos : 0 < (supL (zdz us node)).length := List.length_pos_iff.2 p
        have p1 : decide (0 < ((supL (zdz us node)).length : Int)) = true := by simp; omega
        have p2 : (((supL (zdz us node)).length : Int) - 1).toNat = (supL (zdz us node)).length - 1 := by omega
        have p3 : decide (n ≤ nth (supL (zdz us node)) ((supL (zdz us node)).length - 1)) = false := by simp; omega
        have hx2 : askB us node n = true := by rw [hx, last_lt (zoo _) p]; simp; omega
        simp -dsimp -implicitDefEqProofs (disch := first | assumption | omega | (simp [maxLen, zab, zah, zai] <;> omega) | decide) only [zal, zbq, zat, zdo, za1, zb8, zaj, sT_g, zae, gK_t, q_o, za8, ixO, za2, zay, lenF, zbe, zg7, zgj, zeb, ↓reduceIte, q_b, ifp, zar, zck, q_f, q_s, q_l, q_n, Nat.reduceEqDiff, zcg, iD, p1, p2, p3, zea, sz_3, ag_3]
        refine hK10 _ _ ?_
        refine zau rfl (fun ht => ?_) (fun ht => ?_)
        · cases ht
        · refine zbb (hK8 _ _ ?_)
          refine zac hp zao hc rfl fun K13 hK13 => ?_
          simp -dsimp -implicitDefEqProofs (disch := first | assumption | omega | (simp [maxLen, zab, zah, zai] <;> omega) | decide) only [zag, zaj, q_f]
          refine hK13 _ _ ?_
          refine zbc ?_
          show za7 _ _ = _
          simp (disch := first | assumption | omega | (simp [maxLen, zab, zah, zai] <;> omega) | decide) only [za7, retV, zbr, Nat.zero_add, D.fix, zbi, ↓reduceIte, Option.map_some, List.length_cons, List.length_nil, iD]
          rw [ask_0 hx2]
/-! ### A path to true -/
def anyT (us : List T) : T → List Bool → List Bool
  | .leaf _, r => r
  | .node v l h, r => if num us l = 0 then anyT us h (setAt r v true) else anyT us l (setAt r v false)
where setAt (r : List Bool) (v : Nat) (b : Bool) : List Bool := r.set v b
def anyL (us : List T) (node n : Int) : List Bool := if askB us node n && decide (node ≠ 0) then anyT us (zdz us node) (List.replicate n.toNat false) else []
def anyE (us : List T) (node n : Int) : Int := if askB us node n then (if node = 0 then 4 else 0) else 1
set_option maxRecDepth 100000 in
set_option linter.unusedVariables false in
set_option maxHeartbeats 4000000 in
theorem any_c (V : Nat) (us : List T) (rs : List Nat) (hr : RowOk V us) (hV : V ≤ 1000) (hul : us.length ≤ bigB) (node n : Int) : zce Try.prog 46 [bddD (erow us) rs, iD node, iD n] (.tup [.d (za9 (anyL us node n)), .d (iD (anyE us node n))]) := by
  have hul0 := hul
  unfold bigB at hul
  have hel := zai us
  refine zb7 (fn := Try.f46) (by kernel_rfl) Try.func46 rfl (Nat.le_of_ble_eq_true rfl) fun c hc hp => ?_
  refine zch (τ' := frL [(0, .d (bddD (erow us) rs)), (1, .d (iD node)), (2, .d (iD n))]) (zaa (zaa (zaa (zaq _) rfl) rfl) rfl) ?_
  refine zac hp zao hc rfl fun K1 hK1 => ?_
  simp -dsimp -implicitDefEqProofs (disch := first | assumption | omega | (simp [maxLen, zab, zah, zai] <;> omega) | decide) only [zag, zdy, zbd, zaj, zae, q_o, layF, ↓reduceIte, q_b, q_f, q_s, q_l, zca, D.one, iD, zbd, bddD, bddC]
  refine hK1 _ _ ?_
  refine zas fun K2 hK2 => ?_
  refine zac hp zao hc rfl fun K3 hK3 => ?_
  simp -dsimp -implicitDefEqProofs (disch := first | assumption | omega | (simp [maxLen, zab, zah, zai] <;> omega) | decide) only [zal, zat, zbh, zae, q_o, za8, ↓reduceIte, q_b, ifp, q_f, q_s, q_l, q_n, Nat.reduceEqDiff, zak, zez, zft]
  refine zda (asked_c V us rs hr hV hul0 node n) rfl ?_
  simp -dsimp -implicitDefEqProofs (disch := first | assumption | omega | (simp [maxLen, zab, zah, zai] <;> omega) | decide) only [zag, zaj, ↓reduceIte, q_b, q_f, iD]
  refine hK3 _ _ ?_
  refine zac hp zao hc rfl fun K4 hK4 => ?_
  rcases (show askB us node n = true ∨ askB us node n = false by cases askB us node n <;> simp) with q | q
  · have hae := ask_0 q
    obtain ⟨b1, b2, b3, b4, hti, hok0⟩ := ask_ok hr hV q
    have hnt : (num us (zdz us node) : Int) = node := by unfold zdz; rw [zmn hr (k := node.toNat) (by omega)]; omega
    rw [hae]
    simp -dsimp -implicitDefEqProofs (disch := first | assumption | omega | (simp [maxLen, zab, zah, zai] <;> omega) | decide) only [zal, za1, zaj, zae, q_o, zay, zff, ↓reduceIte, q_b, q_f]
    refine hK4 _ _ ?_
    refine zau rfl (fun ht => ?_) (fun ht => ?_)
    · cases ht
    · refine zbb (hK2 _ _ ?_)
      refine zas fun K5 hK5 => ?_
      refine zac hp zao hc rfl fun K6 hK6 => ?_
      by_cases hn0 : node = 0
      · have p0 : decide (node = 0) = true := by simpa using hn0
        simp -dsimp -implicitDefEqProofs (disch := first | assumption | omega | (simp [maxLen, zab, zah, zai] <;> omega) | decide) only [zal, za1, zaj, zae, q_o, zay, zd9, ↓reduceIte, q_b, q_f, Nat.reduceEqDiff]
        refine hK6 _ _ ?_
        refine zau rfl (fun ht => ?_) (fun ht => ?_)
        · refine zac hp zao hc rfl fun K7 hK7 => ?_
          simp -dsimp -implicitDefEqProofs (disch := first | assumption | omega | (simp [maxLen, zab, zah, zai] <;> omega) | decide) only [zag, zaj, q_f]
          refine hK7 _ _ ?_
          refine zbc ?_
          show za7 _ _ = _
          simp (disch := first | assumption | omega | (simp [maxLen, zab, zah, zai] <;> omega) | decide) only [List.map_cons, List.map_nil, za7, retV, zbr, zb5, zb0, Nat.reduceAdd, Nat.zero_add, D.fix, zbi, ↓reduceIte, Nat.reduceEqDiff, Option.map_some, Option.bind_some, List.length_cons, List.length_nil, iD, za9]
          subst hn0
          simp [anyL, anyE, q]
        · simp [hn0] at ht
      · have p0 : decide (node = 0) = false := by simpa using hn0
        simp -dsimp -implicitDefEqProofs (disch := first | assumption | omega | (simp [maxLen, zab, zah, zai] <;> omega) | decide) only [zal, za1, zaj, zae, q_o, zay, zd9, ↓reduceIte, q_b, q_f, Nat.reduceEqDiff]
        refine hK6 _ _ ?_
        refine zau rfl (fun ht => ?_) (fun ht => ?_)
        · simp [hn0] at ht
        · refine zbb (hK5 _ _ ?_)
          refine zac hp zao hc rfl fun K8 hK8 => ?_
          simp -dsimp -implicitDefEqProofs (disch := first | assumption | omega | (simp [maxLen, zab, zah, zai] <;> omega) | decide) only [zal, zag, zlk, zbd, zaj, zae, ixO, layF, ↓reduceIte, q_b, ifp, q_f, q_l, q_s, zbv, q_n, Nat.reduceEqDiff, zbd, zgz, zjw]
          refine hK8 _ _ ?_
          refine zas fun K9 hK9 => ?_
          refine zbg ?_
          refine zby hp (fun τ' H' mm => ∃ (t : T) (r : List Bool), (t ∈ full us ∧ t.Ok n.toNat 0 ∧ r.length = n.toNat ∧ anyT us t r = anyT us (zdz us node) (List.replicate n.toNat false)) ∧ mm = t.sz ∧ H' = [.cells (avs (bddC (erow us) rs)), .cells (avs (r.map oD))] ∧ τ' = frL [(1, .d (iD (num us t))), (3, .op 0 0), (9, .os 1 1 0 n.toNat)]) ((zdz us node).sz) ?_ ⟨zdz us node, _, ⟨hti, hok0, by simp, rfl⟩, rfl, rfl, rfl⟩ ?_
          · refine Rt.end (zaa (zaa (zaa (zaq _) rfl) rfl) (by first | rfl | (simp [frL, iD, hnt]; done) | simp [Fr.put, frL, gcV, fzV, posN, iD, bD, uD, oD, zbj, za9, zbp, zbt, zbm, zah, zai, hnt, *])) ?_
            simp only [zav, zap, bddC]; simp [oD]
          rintro τ' H' mm ⟨t, r, ⟨htf, hto, hrl, hta⟩, rfl, rfl, rfl⟩
          refine zas fun K10 hK10 => ?_
          refine zac hp zao hc rfl fun K11 hK11 => ?_
          simp -dsimp -implicitDefEqProofs (disch := first | assumption | omega | (simp [maxLen, zab, zah, zai] <;> omega) | decide) only [zal, za1, zaj, zae, q_o, zay, zeb, ↓reduceIte, q_b, q_f, zav, zap, iD, bddC]
          refine hK11 _ _ ?_
          refine zau rfl (fun ht => ?_) (fun ht => ?_)
          · have h2 : t.lf = false := by
              rcases zji t with h | h
              · have := zt0 (us := us) h; simp at ht; omega
              · exact h
            obtain ⟨v, lo, hi, rfl⟩ := zln h2
            have h3 := zjq hr htf h2
            have hlt := zer htf
            have hx1 : ((num us (.node v lo hi) : Int) - 2).toNat = num us (.node v lo hi) - 2 := by omega
            have hg := zmm hr htf h2
            have hcl : lo ∈ full us := (hr.chf htf).1
            have hch : hi ∈ full us := (hr.chf htf).2
            have hvn : v < n.toNat := hto.2.1
            refine zbb (hK10 _ _ ?_)
            refine zbg ?_
            refine zac hp zao hc rfl fun K12 hK12 => ?_
            simp -dsimp -implicitDefEqProofs (disch := first | assumption | omega | (simp [maxLen, zab, zah, zai] <;> omega) | decide) only [zal, zat, zb6, zdo, za1, zcm, zbu, zbd, zaj, zae, q_o, za8, zam, ixO, za2, zay, layF, zb4, zg7, ↓reduceIte, q_b, ifp, q_f, q_s, q_l, zca, q_a, D.one, Value.oneCell', q_n, Nat.reduceEqDiff, zdk, zav, zap, iD, Nat.reduceAdd, zbd, hx1, zqw, hg, ndC, ndOf, T.v, T.l, T.h, zdc, zen, zeo, zep, zis, zje, zp7]
            refine hK12 _ _ ?_
            refine zac hp zao hc rfl fun K13 hK13 => ?_
            by_cases hz : num us lo = 0
            · have z0 : ((num us lo : Int) == 0) = true := by simp; omega
              have hgs : nth (r.set v true) v = true := by rw [zde (by simp; omega)]; simp
              simp -dsimp -implicitDefEqProofs (disch := first | assumption | omega | (simp [maxLen, zab, zah, zai] <;> omega) | decide) only [zal, zat, zb6, zdo, za1, zbu, zaj, zae, q_o, za8, zam, ixO, za2, zay, zb4, zd9, ↓reduceIte, q_b, ifp, q_f, q_l, q_s, q_a, and_true, Int.toNat_natCast, q_n, Nat.reduceEqDiff, zab, zj9, Nat.reduceAdd, List.length_map, ziy, z0, zdf, sz_3, ag_3, zd3, zhy, sz_4]
              refine hK13 _ _ ?_
              refine zac hp zao hc rfl fun K14 hK14 => ?_
              simp -dsimp -implicitDefEqProofs (disch := first | assumption | omega | (simp [maxLen, zab, zah, zai] <;> omega) | decide) only [zal, zat, zb6, zdo, zaj, zae, q_o, za8, zam, ixO, za2, ↓reduceIte, q_b, ifp, q_f, q_l, and_true, Int.toNat_natCast, q_n, Nat.reduceEqDiff, ze4, zcg, oD, Nat.reduceAdd, hgs, zdf, sz_3, ag_3, zhy, sz_4, ag_4]
              refine hK14 _ _ ?_
              refine zau rfl (fun ht => ?_) (fun ht => ?_)
              · refine zcw hp zao hc rfl fun K15 hK15 => ?_
                simp -dsimp -implicitDefEqProofs (disch := first | assumption | omega | (simp [maxLen, zab, zah, zai] <;> omega) | decide) only [zag, zat, zb6, zaj, zae, za8, zam, ↓reduceIte, q_b, ifp, q_f, q_l, q_n, Nat.reduceEqDiff, Nat.reduceAdd, ze0, sz_3, ag_3]
                refine hK15 _ _ ⟨_, _, _, ?_, ⟨hi, r.set v true, ⟨hch, hto.h_ok, by simpa using hrl, by rw [← hta]; show _ = if _ then _ else _; rw [if_pos hz]; rfl⟩, rfl, rfl, rfl⟩, ?_⟩
                · first | omega | (simp only [List.length_cons]; omega) | (dsimp only; omega) | (simp only [T.sz]; omega)
                · refine Rt.trans (Rt.gc (keep := [0,1]) (by decide) (by decide) (by simp [])) ?_
                  refine Rt.end (zaa (zaa (zaa (zaq _) rfl) rfl) rfl) ?_
                  first | rfl | (simp only [gcH, zb1, zaz, gcVs, gcV, zav, zap, List.map_cons, List.map_nil, List.getD_cons_zero, List.getD_cons_succ, bddC]; first | done | rfl)
              · cases ht
            · have z0 : ((num us lo : Int) == 0) = false := by simp; omega
              have hgs : nth (r.set v false) v = false := by rw [zde (by simp; omega)]; simp
              simp -dsimp -implicitDefEqProofs (disch := first | assumption | omega | (simp [maxLen, zab, zah, zai] <;> omega) | decide) only [zal, zat, zb6, zdo, za1, zbu, zaj, zae, q_o, za8, zam, ixO, za2, zay, zb4, zd9, ↓reduceIte, q_b, ifp, q_f, q_l, q_s, q_a, and_true, Int.toNat_natCast, q_n, Nat.reduceEqDiff, zab, zj9, Nat.reduceAdd, List.length_map, ziy, z0, zdf, sz_3, ag_3, zd3, zhy, sz_4]
              refine hK13 _ _ ?_
              refine zac hp zao hc rfl fun K16 hK16 => ?_
              simp -dsimp -implicitDefEqProofs (disch := first | assumption | omega | (simp [maxLen, zab, zah, zai] <;> omega) | decide) only [zal, zat, zb6, zdo, zaj, zae, q_o, za8, zam, ixO, za2, ↓reduceIte, q_b, ifp, q_f, q_l, and_true, Int.toNat_natCast, q_n, Nat.reduceEqDiff, ze4, zcg, oD, Nat.reduceAdd, hgs, zdf, sz_3, ag_3, zhy, sz_4, ag_4]
              refine hK16 _ _ ?_
              refine zau rfl (fun ht => ?_) (fun ht => ?_)
              · cases ht
              · refine zcw hp zao hc rfl fun K17 hK17 => ?_
                simp -dsimp -implicitDefEqProofs (disch := first | assumption | omega | (simp [maxLen, zab, zah, zai] <;> omega) | decide) only [zag, zat, zb6, zaj, zae, za8, zam, ↓reduceIte, q_b, ifp, q_f, q_l, q_n, Nat.reduceEqDiff, Nat.reduceAdd, zd3, sz_3, ag_3]
                refine hK17 _ _ ⟨_, _, _, ?_, ⟨lo, r.set v false, ⟨hcl, hto.l_ok, by simpa using hrl, by rw [← hta]; show _ = if _ then _ else _; rw [if_neg hz]; rfl⟩, rfl, rfl, rfl⟩, ?_⟩
                · first | omega | (simp only [List.length_cons]; omega) | (dsimp only; omega) | (simp only [T.sz]; omega)
                · refine Rt.trans (Rt.gc (keep := [0,1]) (by decide) (by decide) (by simp [])) ?_
                  refine Rt.end (zaa (zaa (zaa (zaq _) rfl) rfl) rfl) ?_
                  first | rfl | (simp only [gcH, zb1, zaz, gcVs, gcV, zav, zap, List.map_cons, List.map_nil, List.getD_cons_zero, List.getD_cons_succ, bddC]; first | done | rfl)
          · refine zcl (hK9 _ _ ?_)
            refine zac hp zao hc rfl fun K18 hK18 => ?_
            simp -dsimp -implicitDefEqProofs (disch := first | assumption | omega | (simp [maxLen, zab, zah, zai] <;> omega) | decide) only [zal, zag, zaj, ↓reduceIte, q_b, q_f, Nat.reduceEqDiff]
            refine hK18 _ _ ?_
            refine zbc ?_
            show za7 _ _ = _
            simp (disch := first | assumption | omega | (simp [maxLen, zab, zah, zai] <;> omega) | decide) only [List.map_cons, List.map_nil, za7, retV, zbr, zc2, zb5, zb0, zcn, zcf, zc7, Nat.reduceAdd, Nat.zero_add, zak, zpa, D.fix, zbi, ↓reduceIte, Nat.reduceEqDiff, Option.map_some, Option.bind_some, Nat.mul_one, List.getElem?_cons_zero, List.getElem?_cons_succ, List.length_cons, List.length_nil, iD, za9]
            have h2 : t.lf = true := by
              rcases zji t with h | h
              · exact h
              · have := zjq hr htf h; simp at ht; omega
            have e : anyL us node n = r := by
              unfold anyL
              rw [if_pos (by simp [q, hn0]), ← hta]
              cases t with
              | leaf b => rfl
              | node v lo hi => cases h2
            have e2 : anyE us node n = 0 := by unfold anyE; rw [if_pos q, if_neg hn0]
            rw [e, e2, hrl]
  · have hae := zvd q
    rw [hae]
    simp -dsimp -implicitDefEqProofs (disch := first | assumption | omega | (simp [maxLen, zab, zah, zai] <;> omega) | decide) only [zal, za1, zaj, zae, q_o, zay, zff, ↓reduceIte, q_b, q_f]
    refine hK4 _ _ ?_
    refine zau rfl (fun ht => ?_) (fun ht => ?_)
    · refine zac hp zao hc rfl fun K19 hK19 => ?_
      simp -dsimp -implicitDefEqProofs (disch := first | assumption | omega | (simp [maxLen, zab, zah, zai] <;> omega) | decide) only [zal, zag, zaj, ↓reduceIte, q_b, q_f, Nat.reduceEqDiff]
      refine hK19 _ _ ?_
      refine zbc ?_
      show za7 _ _ = _
      simp (disch := first | assumption | omega | (simp [maxLen, zab, zah, zai] <;> omega) | decide) only [List.map_cons, List.map_nil, za7, retV, zbr, zb5, zb0, Nat.reduceAdd, Nat.zero_add, D.fix, zbi, ↓reduceIte, Nat.reduceEqDiff, Option.map_some, Option.bind_some, List.length_cons, List.length_nil, iD, za9]
      simp [anyL, anyE, q]
    · cases ht
end Go.Proofs.Ytgfnpfchdlcoeaa
