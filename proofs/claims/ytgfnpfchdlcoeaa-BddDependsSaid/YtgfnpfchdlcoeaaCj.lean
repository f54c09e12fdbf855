/- Evaluation and support of a diagram. -/
import Derived.Test.YtgfnpfchdlcoeaaQ
import Derived.Test.YtgfnpfchdlcoeaaCi
import Derived.Test.YtgfnpfchdlcoeaaSa
set_option linter.unusedVariables false
set_option linter.unusedSimpArgs false
namespace Go.Proofs.Ytgfnpfchdlcoeaa
open Go Go.RowKit
/-- A node's number in a diagram. -/
def zhn (us : List T) (node : Int) : Bool := decide (0 ≤ node) && decide (node < 2 + us.length)
def zdz (us : List T) (node : Int) : T := nth (full us) node.toNat
def atB (l : List Bool) (v : Nat) : Bool := decide (v < l.length) && nth l v
theorem mrow_e (us : List T) : mrow us = ndOf us (.leaf false) :: ndOf us (.leaf true) :: erow us := rfl
theorem node_in {us : List T} {t : T} (h : t ∈ full us) (h2 : t.lf = false) : t ∈ us := by
  simp only [full, List.mem_cons] at h
  rcases h with rfl | rfl | h
  · cases h2
  · cases h2
  · exact h
theorem zt0 {us : List T} {t : T} (h : t.lf = true) : num us t < 2 := by
  cases t with
  | leaf b => cases b
              · rw [zjt]; omega
              · rw [zph]; omega
  | node v l r => cases h
theorem zjq {V : Nat} {us : List T} (hr : RowOk V us) {t : T} (h : t ∈ full us) (h2 : t.lf = false) : 2 ≤ num us t := by
  have hn : t ≠ .leaf false := fun e => by rw [e] at h2; cases h2
  have hn' : t ≠ .leaf true := fun e => by rw [e] at h2; cases h2
  have h0 : num us t ≠ 0 := fun e => hn (zey h (zju us) (e.trans (zjt us).symm))
  have h1 : num us t ≠ 1 := fun e => hn' (zey h (zr1 us) (e.trans (zph us).symm))
  omega
theorem zmm {V : Nat} {us : List T} (hr : RowOk V us) {t : T} (h : t ∈ full us) (h2 : t.lf = false) : nth (erow us) (num us t - 2) = ndOf us t := by
  have h3 := zks h
  have h4 := zjq hr h h2
  obtain ⟨k, hk⟩ : ∃ k, num us t = k + 2 := ⟨num us t - 2, by omega⟩
  rw [hk, mrow_e] at h3
  rw [hk, Nat.add_sub_cancel]
  exact h3
theorem zji (t : T) : t.lf = true ∨ t.lf = false := by cases t.lf <;> simp
theorem zln {t : T} (h : t.lf = false) : ∃ v l r, t = .node v l r := by
  cases t with
  | leaf b => cases h
  | node v l r => exact ⟨v, l, r, rfl⟩
theorem zmn {V : Nat} {us : List T} (hr : RowOk V us) {k : Nat} (h : k < 2 + us.length) : num us (nth (full us) k) = k := by
  have hl : k < (full us).length := by rw [zfe]; exact h
  rw [zde hl]
  exact List.Nodup.idxOf_getElem hr.nd k hl
theorem zva {us : List T} {k : Nat} (h : k < 2 + us.length) : nth (full us) k ∈ full us := zdi (by rw [zfe]; exact h)
def evB (us : List T) (node : Int) (l : List Bool) : Bool := zhn us node && (zdz us node).eval (atB l)
set_option maxRecDepth 100000 in
set_option linter.unusedVariables false in
set_option maxHeartbeats 4000000 in
theorem eval_b (V : Nat) (us : List T) (rs : List Nat) (hr : RowOk V us) (hV : V ≤ 1000) (hul : us.length ≤ bigB) (node : Int) (l : List Bool) (hl : l.length ≤ maxLen) : zce Try.prog 22 [bddD (erow us) rs, iD node, za9 l] (.d (oD (evB us node l))) := by
  unfold maxLen at hl
  unfold bigB at hul
  have hel := zai us
  refine zb7 (fn := Try.f22) (by kernel_rfl) Try.func22 rfl (Nat.le_of_ble_eq_true rfl) fun c hc hp => ?_
  refine zch (τ' := frL [(0, .d (bddD (erow us) rs)), (1, .d (iD node)), (2, .d (za9 l))]) (zaa (zaa (zaa (zaq _) rfl) rfl) rfl) ?_
  refine zac hp zao hc rfl fun K1 hK1 => ?_
  simp -dsimp -implicitDefEqProofs (disch := first | assumption | omega | (simp [maxLen, zab, zah, zai] <;> omega) | decide) only [zag, zdy, zbd, zaj, zae, q_o, layF, ↓reduceIte, q_b, q_f, q_s, q_l, zca, D.one, iD, za9, zbd, bddD, bddC]
  refine hK1 _ _ ?_
  refine zas fun K2 hK2 => ?_
  refine zac hp zao hc rfl fun K3 hK3 => ?_
  rcases (show node < 0 ∨ (0 ≤ node ∧ 2 + (us.length : Int) ≤ node) ∨ (0 ≤ node ∧ node < 2 + (us.length : Int)) by omega) with q | ⟨q, q'⟩ | ⟨q, q'⟩
  · have q1 : decide (node < 0) = true := by simp; omega
    have q2 := q1
    have hx : zhn us node = false := by unfold zhn; rw [decide_eq_false (by omega)]; rfl
    simp -dsimp -implicitDefEqProofs (disch := first | assumption | omega | (simp [maxLen, zab, zah, zai] <;> omega) | decide) only [zal, zbq, za1, zaj, sT_g, zae, gK_f, q_o, zay, zcz, ↓reduceIte, q_b, zar, zbk, q_f, q_l, Nat.reduceEqDiff, q1]
    refine hK3 _ _ ?_
    refine zau rfl (fun ht => ?_) (fun ht => ?_)
    · refine zac hp zao hc rfl fun K4 hK4 => ?_
      simp -dsimp -implicitDefEqProofs (disch := first | assumption | omega | (simp [maxLen, zab, zah, zai] <;> omega) | decide) only [zag, zaj, q_f]
      refine hK4 _ _ ?_
      refine zbc ?_
      show za7 _ _ = _
      simp (disch := first | assumption | omega | (simp [maxLen, zab, zah, zai] <;> omega) | decide) only [za7, retV, zbr, Nat.zero_add, D.fix, zbi, ↓reduceIte, Option.map_some, List.length_cons, List.length_nil, oD]
      simp [evB, hx]
    · cases ht
  · have q1 : decide (node < 0) = false := by simp; omega
    have q2 : decide (2 + ((erow us).length : Int) ≤ node) = true := by simp [hel]; omega
    have hx : zhn us node = false := by unfold zhn; rw [decide_eq_false (p := node < 2 + (us.length : Int)) (by omega)]; simp
    simp -dsimp -implicitDefEqProofs (disch := first | assumption | omega | (simp [maxLen, zab, zah, zai] <;> omega) | decide) only [zal, zbq, zat, zb6, za1, zb8, zaj, sT_g, zae, gK_t, q_o, za8, zam, zay, lenF, zbe, zcu, zcz, zeb, ↓reduceIte, q_b, ifp, zar, zbk, q_f, q_s, q_l, q_n, Nat.reduceEqDiff, q1, q2, zdc, zen, zeo, zep]
    refine hK3 _ _ ?_
    refine zau rfl (fun ht => ?_) (fun ht => ?_)
    · refine zac hp zao hc rfl fun K5 hK5 => ?_
      simp -dsimp -implicitDefEqProofs (disch := first | assumption | omega | (simp [maxLen, zab, zah, zai] <;> omega) | decide) only [zag, zaj, q_f]
      refine hK5 _ _ ?_
      refine zbc ?_
      show za7 _ _ = _
      simp (disch := first | assumption | omega | (simp [maxLen, zab, zah, zai] <;> omega) | decide) only [za7, retV, zbr, Nat.zero_add, D.fix, zbi, ↓reduceIte, Option.map_some, List.length_cons, List.length_nil, oD]
      simp [evB, hx]
    · cases ht
  · have q1 : decide (node < 0) = false := by simp; omega
    have q2 : decide (2 + ((erow us).length : Int) ≤ node) = false := by simp [hel]; omega
    have hx : zhn us node = true := by unfold zhn; rw [decide_eq_true q, decide_eq_true q']; rfl
    have hnt : (num us (zdz us node) : Int) = node := by unfold zdz; rw [zmn hr (k := node.toNat) (by omega)]; omega
    have hti := zva (us := us) (k := node.toNat) (by omega)
    simp -dsimp -implicitDefEqProofs (disch := first | assumption | omega | (simp [maxLen, zab, zah, zai] <;> omega) | decide) only [zal, zbq, zat, zb6, za1, zb8, zaj, sT_g, zae, gK_t, q_o, za8, zam, zay, lenF, zbe, zcu, zcz, zeb, ↓reduceIte, q_b, ifp, zar, zbk, q_f, q_s, q_l, q_n, Nat.reduceEqDiff, q1, q2, zdc, zen, zeo, zep]
    refine hK3 _ _ ?_
    refine zau rfl (fun ht => ?_) (fun ht => ?_)
    · cases ht
    · refine zbb (hK2 _ _ ?_)
      refine zas fun K6 hK6 => ?_
      refine zbg ?_
      refine zby hp (fun τ' H' mm => ∃ (t : T), (t ∈ full us ∧ t.eval (atB l) = (zdz us node).eval (atB l)) ∧ mm = t.sz ∧ H' = [.cells (avs (bddC (erow us) rs))] ∧ τ' = frL [(1, .d (iD (num us t))), (2, .d (za9 l)), (3, .op 0 0)]) ((zdz us node).sz) ?_ ⟨zdz us node, ⟨hti, rfl⟩, rfl, rfl, rfl⟩ ?_
      · refine Rt.trans (Rt.gc (keep := [0]) (by decide) (by decide) (by simp [])) ?_
        refine Rt.end (zaa (zaa (zaa (zaq _) rfl) rfl) (by first | rfl | (simp [frL, gcV, iD, hnt]; done) | simp [Fr.put, frL, gcV, fzV, posN, iD, bD, uD, oD, zbj, za9, zbp, zbt, zbm, zah, zai, hnt, *])) ?_
        simp only [gcH, zb1, gcVs, gcV, zav, zap, List.map_cons, List.map_nil, List.getD_cons_zero, bddC]; first | done | rfl
      rintro τ' H' mm ⟨t, ⟨htf, hte⟩, rfl, rfl, rfl⟩
      refine zas fun K7 hK7 => ?_
      refine zac hp zao hc rfl fun K8 hK8 => ?_
      simp -dsimp -implicitDefEqProofs (disch := first | assumption | omega | (simp [maxLen, zab, zah, zai] <;> omega) | decide) only [zal, za1, zaj, zae, q_o, zay, zeb, ↓reduceIte, q_b, q_f, zav, zap, iD, za9, bddC]
      refine hK8 _ _ ?_
      refine zau rfl (fun ht => ?_) (fun ht => ?_)
      · have h2 : t.lf = false := by
          rcases zji t with h | h
          · have := zt0 (us := us) h; simp at ht; omega
          · exact h
        obtain ⟨v, lo, hi, rfl⟩ := zln h2
        have h3 := zjq hr htf h2
        have hlt := zer htf
        have hx1 : ((num us (.node v lo hi) : Int) - 2).toNat = num us (.node v lo hi) - 2 := by omega
        have hg := zmm hr htf h2
        obtain ⟨hcl, hch⟩ := hr.chf htf
        have hok := hr.okf htf
        refine zbb (hK7 _ _ ?_)
        refine zbg ?_
        refine zac hp zao hc rfl fun K9 hK9 => ?_
        simp -dsimp -implicitDefEqProofs (disch := first | assumption | omega | (simp [maxLen, zab, zah, zai] <;> omega) | decide) only [zal, zat, zb6, zdo, za1, zcm, zbu, zbd, zaj, zae, q_o, za8, zam, ixO, za2, zay, layF, zb4, zg7, ↓reduceIte, q_b, ifp, q_f, q_s, q_l, zca, q_a, D.one, Value.oneCell', q_n, Nat.reduceEqDiff, zdk, zav, zap, iD, Nat.reduceAdd, zbd, hx1, zqw, hg, ndC, ndOf, T.v, T.l, T.h, zdc, zen, zeo, zep, zis, zje, zp7]
        refine hK9 _ _ ?_
        refine zac hp zao hc rfl fun K10 hK10 => ?_
        by_cases hv : v < l.length
        · have q5 : decide ((v : Int) < (l.length : Int)) = true := by simp; omega
          simp -dsimp -implicitDefEqProofs (disch := first | assumption | omega | (simp [maxLen, zab, zah, zai] <;> omega) | decide) only [zal, zbq, zat, zb6, zdo, za1, zb8, zaj, sT_g, zae, gK_t, q_o, za8, zam, ixO, za2, zay, lenF, zbe, zcz, ↓reduceIte, q_b, ifp, zar, zck, q_f, q_s, q_l, Int.toNat_natCast, q_n, Nat.reduceEqDiff, zcg, oD, Nat.reduceAdd, q5, zcg, zdf, sz_3, ag_3, zhy, sz_4, ag_4]
          refine hK10 _ _ ?_
          refine zau rfl (fun ht => ?_) (fun ht => ?_)
          · have hav : atB l v = true := by unfold atB; rw [decide_eq_true hv, ht]; rfl
            refine zcw hp zao hc rfl fun K11 hK11 => ?_
            simp -dsimp -implicitDefEqProofs (disch := first | assumption | omega | (simp [maxLen, zab, zah, zai] <;> omega) | decide) only [zag, zat, zb6, zaj, zae, za8, zam, ↓reduceIte, q_b, ifp, q_f, q_l, q_n, Nat.reduceEqDiff, Nat.reduceAdd, ze0, sz_3, ag_3]
            refine hK11 _ _ ⟨_, _, _, ?_, ⟨hi, ⟨hch, by rw [← hte]; show _ = if atB l v then _ else _; rw [hav]; rfl⟩, rfl, rfl, rfl⟩, ?_⟩
            · first | omega | (simp only [List.length_cons]; omega) | (dsimp only; omega) | (simp only [T.sz]; omega)
            · refine Rt.trans (Rt.gc (keep := [0]) (by decide) (by decide) (by simp [])) ?_
              refine Rt.end (zaa (zaa (zaa (zaq _) rfl) rfl) rfl) ?_
              first | rfl | (simp only [zbj, za9, zbp, zbt, zbm, gcH, zb1, zcb, zcc, gc_m, fz_m, zaz, gcVs, gcV, zcy, fzH, zc0, zb9, zcd, zbl, Nat.reduceAdd, fzVs, fzV, posN, zav, zap, List.map_cons, List.map_nil, List.getD_cons_zero, List.getD_cons_succ, ↓reduceIte, Nat.reduceEqDiff, Option.map_some, List.set_cons_zero, List.set_cons_succ, zba, zak, Nat.mul_one, List.length_map, List.cons_append, List.nil_append, bddD, bddC]; first | done | rfl)
          · have hav : atB l v = false := by unfold atB; rw [ht]; simp
            refine zcw hp zao hc rfl fun K12 hK12 => ?_
            simp -dsimp -implicitDefEqProofs (disch := first | assumption | omega | (simp [maxLen, zab, zah, zai] <;> omega) | decide) only [zag, zat, zb6, zaj, zae, za8, zam, ↓reduceIte, q_b, ifp, q_f, q_l, q_n, Nat.reduceEqDiff, Nat.reduceAdd, zd3, sz_3, ag_3]
            refine hK12 _ _ ⟨_, _, _, ?_, ⟨lo, ⟨hcl, by rw [← hte]; show _ = if atB l v then _ else _; rw [hav]; rfl⟩, rfl, rfl, rfl⟩, ?_⟩
            · first | omega | (simp only [List.length_cons]; omega) | (dsimp only; omega) | (simp only [T.sz]; omega)
            · refine Rt.trans (Rt.gc (keep := [0]) (by decide) (by decide) (by simp [])) ?_
              refine Rt.end (zaa (zaa (zaa (zaq _) rfl) rfl) rfl) ?_
              first | rfl | (simp only [zbj, za9, zbp, zbt, zbm, gcH, zb1, zcb, zcc, gc_m, fz_m, zaz, gcVs, gcV, zcy, fzH, zc0, zb9, zcd, zbl, Nat.reduceAdd, fzVs, fzV, posN, zav, zap, List.map_cons, List.map_nil, List.getD_cons_zero, List.getD_cons_succ, ↓reduceIte, Nat.reduceEqDiff, Option.map_some, List.set_cons_zero, List.set_cons_succ, zba, zak, Nat.mul_one, List.length_map, List.cons_append, List.nil_append, bddD, bddC]; first | done | rfl)
        · have q5 : decide ((v : Int) < (l.length : Int)) = false := by simp; omega
          simp -dsimp -implicitDefEqProofs (disch := first | assumption | omega | (simp [maxLen, zab, zah, zai] <;> omega) | decide) only [zal, zbq, zat, zb6, za1, zb8, zaj, sT_g, zae, gK_f, q_o, za8, zam, zay, lenF, zbe, zcz, ↓reduceIte, q_b, ifp, zar, zck, q_f, q_s, q_l, q_n, Nat.reduceEqDiff, Nat.reduceAdd, q5, zdf, sz_3, ag_3, zhy]
          refine hK10 _ _ ?_
          refine zau rfl (fun ht => ?_) (fun ht => ?_)
          · cases ht
          · have hav : atB l v = false := by unfold atB; rw [decide_eq_false hv]; rfl
            refine zcw hp zao hc rfl fun K13 hK13 => ?_
            simp -dsimp -implicitDefEqProofs (disch := first | assumption | omega | (simp [maxLen, zab, zah, zai] <;> omega) | decide) only [zag, zat, zb6, zaj, zae, za8, zam, ↓reduceIte, q_b, ifp, q_f, q_l, q_n, Nat.reduceEqDiff, Nat.reduceAdd, zd3, sz_3, ag_3]
            refine hK13 _ _ ⟨_, _, _, ?_, ⟨lo, ⟨hcl, by rw [← hte]; show _ = if atB l v then _ else _; rw [hav]; rfl⟩, rfl, rfl, rfl⟩, ?_⟩
            · first | omega | (simp only [List.length_cons]; omega) | (dsimp only; omega) | (simp only [T.sz]; omega)
            · refine Rt.trans (Rt.gc (keep := [0]) (by decide) (by decide) (by simp [])) ?_
              refine Rt.end (zaa (zaa (zaa (zaq _) rfl) rfl) rfl) ?_
              first | rfl | (simp only [zbj, za9, zbp, zbt, zbm, gcH, zb1, zcb, zcc, gc_m, fz_m, zaz, gcVs, gcV, zcy, fzH, zc0, zb9, zcd, zbl, Nat.reduceAdd, fzVs, fzV, posN, zav, zap, List.map_cons, List.map_nil, List.getD_cons_zero, List.getD_cons_succ, ↓reduceIte, Nat.reduceEqDiff, Option.map_some, List.set_cons_zero, List.set_cons_succ, zba, zak, Nat.mul_one, List.length_map, List.cons_append, List.nil_append, bddD, bddC]; first | done | rfl)
      · have h2 : t.lf = true := by
          rcases zji t with h | h
          · exact h
          · have := zjq hr htf h; simp at ht; omega
        refine zcl (hK6 _ _ ?_)
        refine zac hp zao hc rfl fun K14 hK14 => ?_
        simp -dsimp -implicitDefEqProofs (disch := first | assumption | omega | (simp [maxLen, zab, zah, zai] <;> omega) | decide) only [zal, zag, za1, zaj, zae, q_o, zay, zd9, ↓reduceIte, q_b, q_f, Nat.reduceEqDiff]
        refine hK14 _ _ ?_
        refine zbc ?_
        show za7 _ _ = _
        simp (disch := first | assumption | omega | (simp [maxLen, zab, zah, zai] <;> omega) | decide) only [za7, retV, zbr, Nat.zero_add, D.fix, zbi, ↓reduceIte, Option.map_some, List.length_cons, List.length_nil, oD]
        unfold evB
        rw [hx, ← hte]
        cases t with
        | leaf b => cases b <;> simp [T.eval, zjt, zph]
        | node v lo hi => cases h2
end Go.Proofs.Ytgfnpfchdlcoeaa
