/- The reference's small functions: equal lists and diagrams, assignments, inputs, memories, shapes. -/
import Derived.Test.YtgfnpfchdlcoeaaQ
import Derived.Test.YtgfnpfchdlcoeaaCp
import Derived.Test.YtgfnpfchdlcoeaaDb
set_option linter.unusedVariables false
set_option linter.unusedSimpArgs false
namespace Go.Proofs.Ytgfnpfchdlcoeaa
open Go Go.RowKit
set_option maxRecDepth 100000 in
set_option linter.unusedVariables false in
set_option maxHeartbeats 4000000 in
theorem zvf (a b : List Bool) (ha : a.length ≤ maxLen) : zce Try.prog 29 [za9 a, za9 b] (.d (oD (decide (a = b)))) := by
  refine zb7 (fn := Try.f29) (by kernel_rfl) Try.func29 rfl (Nat.le_of_ble_eq_true rfl) fun c hc hp => ?_
  refine zch (τ' := frL [(0, .d (za9 a)), (1, .d (za9 b))]) (zaa (zaa (zaq _) rfl) rfl) ?_
  unfold maxLen at ha
  refine zac hp zao hc rfl fun K1 hK1 => ?_
  simp -dsimp -implicitDefEqProofs (disch := first | assumption | omega | (simp [maxLen, zab] <;> omega) | decide) only [zag, zaj, q_f, za9]
  refine hK1 _ _ ?_
  refine zas fun K2 hK2 => ?_
  refine zac hp zao hc rfl fun K3 hK3 => ?_
  simp -dsimp -implicitDefEqProofs (disch := first | assumption | omega | (simp [maxLen, zab] <;> omega) | decide) only [zal, za1, zb8, zaj, zae, q_o, zay, lenF, zbe, zff, ↓reduceIte, q_b, q_f, q_s, Nat.reduceEqDiff, zhy]
  refine hK3 _ _ ?_
  refine zau rfl (fun ht => ?_) (fun ht => ?_)
  · have hne : a ≠ b := fun e => by subst e; simp at ht
    refine zac hp zao hc rfl fun K4 hK4 => ?_
    simp -dsimp -implicitDefEqProofs (disch := first | assumption | omega | (simp [maxLen, zab] <;> omega) | decide) only [zag, zaj, q_f]
    refine hK4 _ _ ?_
    refine zbc ?_
    show za7 _ _ = _
    simp (disch := first | assumption | omega | (simp [maxLen, zab] <;> omega) | decide) only [za7, retV, zbr, D.fix, zbi, ↓reduceIte, Option.map_some, List.length_nil, oD]
    simp [hne]
  · have hl : a.length = b.length := by simp at ht; omega
    refine zbb (hK2 _ _ ?_)
    refine zas fun K5 hK5 => ?_
    refine zac hp zao hc rfl fun K6 hK6 => ?_
    simp -dsimp -implicitDefEqProofs (disch := first | assumption | omega | (simp [maxLen, zab] <;> omega) | decide) only [zag, zaj, q_f]
    refine hK6 _ _ ?_
    refine zbg ?_
    refine zby hp (fun τ' H' mm => ∃ k, (k ≤ a.length ∧ a.take k = b.take k) ∧ mm = a.length - k ∧ H' = [] ∧ τ' = frL [(5, .d (iD k)), (0, .d (za9 a)), (1, .d (za9 b))]) (a.length) ?_ ⟨0, ⟨Nat.zero_le _, rfl⟩, rfl, rfl, rfl⟩ ?_
    · refine Rt.end (zaa (zaa (zaa (zaq _) rfl) rfl) rfl) ?_
      first | rfl | (simp only [zbj, za9, zbp, zbt, zbm, gcH, zb1, zcb, zcc, gc_m, fz_m, zaz, gcVs, gcV, zcy, fzH, zc0, zb9, zcd, zbl, Nat.reduceAdd, fzVs, fzV, posN, zav, zap, List.map_cons, List.map_nil, List.getD_cons_zero, List.getD_cons_succ, ↓reduceIte, Nat.reduceEqDiff, Option.map_some, List.set_cons_zero, List.set_cons_succ, zba, zak, Nat.mul_one, List.length_map, List.cons_append, List.nil_append]; first | done | rfl)
    rintro τ' H' mm ⟨k, ⟨hk, htake⟩, rfl, rfl, rfl⟩
    refine zas fun K7 hK7 => ?_
    refine zac hp zao hc rfl fun K8 hK8 => ?_
    simp -dsimp -implicitDefEqProofs (disch := first | assumption | omega | (simp [maxLen, zab] <;> omega) | decide) only [zal, za1, zb8, zaj, zae, q_o, zay, lenF, zbe, zcz, ↓reduceIte, q_b, q_f, q_s, Nat.reduceEqDiff, iD, za9, zhy]
    refine hK8 _ _ ?_
    refine zau rfl (fun ht => ?_) (fun ht => ?_)
    · have hlt : k < a.length := by simp at ht; omega
      have hlt2 : k < b.length := by omega
      refine zbb (hK7 _ _ ?_)
      refine zas fun K9 hK9 => ?_
      refine zbg ?_
      refine zcs zao hc mixed rfl (q := 0) (by kernel_rfl) (by kernel_rfl) fun K10 hK10 => ?_
      simp -dsimp -implicitDefEqProofs (disch := first | assumption | omega | (simp [maxLen, zab] <;> omega) | decide) only [zco, zcq, ze2, zdt, zc4, zae, q_o, za8, ixO, za2, zay, zo8, ↓reduceIte, q_b, ifp, q_f, q_l, List.append_nil, List.replicate_zero, Int.toNat_natCast, q_n, Nat.reduceEqDiff, killAll, zcg, oD, Nat.reduceAdd, zhy, sz_4, ag_4, bt_4]
      refine hK10 _ _ ?_
      refine zau rfl (fun ht => ?_) (fun ht => ?_)
      · have hne : a ≠ b := fun e => by subst e; simp at ht
        refine zac hp zao hc rfl fun K11 hK11 => ?_
        simp -dsimp -implicitDefEqProofs (disch := first | assumption | omega | (simp [maxLen, zab] <;> omega) | decide) only [zag, zaj, q_f]
        refine hK11 _ _ ?_
        refine zbc ?_
        show za7 _ _ = _
        simp (disch := first | assumption | omega | (simp [maxLen, zab] <;> omega) | decide) only [za7, retV, zbr, D.fix, zbi, ↓reduceIte, Option.map_some, List.length_nil, oD]
        simp [hne]
      · refine zbb (hK9 _ _ ?_)
        refine zcw hp zao hc rfl fun K12 hK12 => ?_
        simp -dsimp -implicitDefEqProofs (disch := first | assumption | omega | (simp [maxLen, zab] <;> omega) | decide) only [zal, zag, za1, zaj, zae, q_o, zay, zcu, ↓reduceIte, q_b, q_f, Nat.reduceEqDiff]
        refine hK12 _ _ ⟨_, _, _, ?_, ⟨k + 1, ⟨by omega, zib hlt hlt2 htake (by simpa using ht)⟩, rfl, rfl, rfl⟩, ?_⟩
        · first | omega | (simp only [List.length_cons]; omega) | (dsimp only; omega)
        · refine Rt.end (zaa (zaa (zaa (zaq _) rfl) rfl) rfl) ?_
          first | rfl | (simp only [zbj, za9, zbp, zbt, zbm, gcH, zb1, zcb, zcc, gc_m, fz_m, zaz, gcVs, gcV, zcy, fzH, zc0, zb9, zcd, zbl, Nat.reduceAdd, fzVs, fzV, posN, zav, zap, List.map_cons, List.map_nil, List.getD_cons_zero, List.getD_cons_succ, ↓reduceIte, Nat.reduceEqDiff, Option.map_some, List.set_cons_zero, List.set_cons_succ, zba, zak, Nat.mul_one, List.length_map, List.cons_append, List.nil_append]; first | done | rfl)
    · have hge : k = a.length := by simp at ht; omega
      have he : a = b := by rw [hge, List.take_length, hl, List.take_length] at htake; exact htake
      refine zcl (hK5 _ _ ?_)
      refine zac hp zao hc rfl fun K13 hK13 => ?_
      simp -dsimp -implicitDefEqProofs (disch := first | assumption | omega | (simp [maxLen, zab] <;> omega) | decide) only [zag, zaj, q_f]
      refine hK13 _ _ ?_
      refine zbc ?_
      show za7 _ _ = _
      simp (disch := first | assumption | omega | (simp [maxLen, zab] <;> omega) | decide) only [za7, retV, zbr, D.fix, zbi, ↓reduceIte, Option.map_some, List.length_nil, oD]
      simp [he]
set_option maxRecDepth 100000 in
set_option linter.unusedVariables false in
set_option maxHeartbeats 4000000 in
theorem at_c (l : List Bool) (i : Nat) (hl : l.length ≤ maxLen) (hi : i ≤ 1000000) : zce Try.prog 48 [za9 l, iD i] (.d (oD (atB l i))) := by
  unfold maxLen at hl
  refine zb7 (fn := Try.f48) (by kernel_rfl) Try.func48 rfl (Nat.le_of_ble_eq_true rfl) fun c hc hp => ?_
  refine zch (τ' := frL [(0, .d (za9 l)), (1, .d (iD i))]) (zaa (zaa (zaq _) rfl) rfl) ?_
  refine zac hp zao hc rfl fun K1 hK1 => ?_
  simp -dsimp -implicitDefEqProofs (disch := first | assumption | omega | (simp [maxLen, zab] <;> omega) | decide) only [zag, zaj, q_f, iD, za9]
  refine hK1 _ _ ?_
  refine zac hp zao hc rfl fun K2 hK2 => ?_
  by_cases h : i < l.length
  · have q0 : decide ((0 : Int) ≤ i) = true := by simp
    have q1 : decide ((i : Int) < l.length) = true := by simp; omega
    have hx : atB l i = nth l i := by unfold atB; rw [decide_eq_true h]; rfl
    simp -dsimp -implicitDefEqProofs (disch := first | assumption | omega | (simp [maxLen, zab] <;> omega) | decide) only [zal, zag, zbq, zat, zdo, za1, zb8, zaj, sT_g, zae, gK_t, q_o, za8, ixO, za2, zay, lenF, zbe, zcz, zeb, ↓reduceIte, q_b, ifp, zar, zck, q_f, q_s, q_l, Int.toNat_natCast, q_n, Nat.reduceEqDiff, zcg, oD, q0, q1, zcg, zhy, sz_4, ag_4]
    refine hK2 _ _ ?_
    refine zbc ?_
    show za7 _ _ = _
    simp (disch := first | assumption | omega | (simp [maxLen, zab] <;> omega) | decide) only [za7, retV, zbr, D.fix, zbi, ↓reduceIte, Option.map_some, List.length_nil, oD]
    rw [hx]
  · have q0 : decide ((0 : Int) ≤ i) = true := by simp
    have q1 : decide ((i : Int) < l.length) = false := by simp; omega
    have hx : atB l i = false := by unfold atB; rw [decide_eq_false h]; rfl
    simp -dsimp -implicitDefEqProofs (disch := first | assumption | omega | (simp [maxLen, zab] <;> omega) | decide) only [zal, zag, zbq, za1, zb8, zaj, sT_g, zae, gK_t, gK_f, q_o, zay, lenF, zbe, zcz, zeb, ↓reduceIte, q_b, zar, zck, q_f, q_s, q_l, Nat.reduceEqDiff, q0, q1, zhy]
    refine hK2 _ _ ?_
    refine zbc ?_
    show za7 _ _ = _
    simp (disch := first | assumption | omega | (simp [maxLen, zab] <;> omega) | decide) only [za7, retV, zbr, D.fix, zbi, ↓reduceIte, Option.map_some, List.length_nil, oD]
    rw [hx]
def inpA (m : Nat) (l : List Bool) : List Bool := (List.range m).map (atB l)
theorem zkj {α : Type} {f : Nat → α} {k : Nat} : (List.range (k + 1)).map f = (List.range k).map f ++ [f k] := by rw [List.range_succ, List.map_append]; rfl
set_option maxRecDepth 100000 in
set_option linter.unusedVariables false in
set_option maxHeartbeats 4000000 in
theorem inputs_c (n : Net) (l : List Bool) (hl : l.length ≤ maxLen) (hi : n.ins.length ≤ 1000000) (hg : n.gates.length ≤ 1000000) : zce Try.prog 35 [netD n, za9 l] (.d (za9 (inpA n.ins.length l))) := by
  refine zb7 (fn := Try.f35) (by kernel_rfl) Try.func35 rfl (Nat.le_of_ble_eq_true rfl) fun c hc hp => ?_
  refine zch (τ' := frL [(0, .d (netD n)), (1, .d (za9 l))]) (zaa (zaa (zaq _) rfl) rfl) ?_
  refine zac hp zao hc rfl fun K1 hK1 => ?_
  simp -dsimp -implicitDefEqProofs (disch := first | assumption | omega | (simp [maxLen, zab, zad] <;> omega) | decide) only [zag, zdy, zbd, zaj, zae, q_o, layF, ↓reduceIte, q_b, q_f, q_s, q_l, zca, D.one, zbj, za9, zbd, netD, netC, zbw, zbx]
  refine hK1 _ _ ?_
  refine zac hp zao hc rfl fun K2 hK2 => ?_
  simp -dsimp -implicitDefEqProofs (disch := first | assumption | omega | (simp [maxLen, zab, zad] <;> omega) | decide) only [zag, zdw, zbd, zaj, zae, q_o, layF, ↓reduceIte, q_b, ifp, q_f, q_s, q_l, List.replicate_zero, zbv, q_a, q_n, zbd, zjw]
  refine hK2 _ _ ?_
  refine zas fun K3 hK3 => ?_
  refine zac hp zao hc rfl fun K4 hK4 => ?_
  simp -dsimp -implicitDefEqProofs (disch := first | assumption | omega | (simp [maxLen, zab, zad] <;> omega) | decide) only [zag, zaj, q_f]
  refine hK4 _ _ ?_
  refine zbg ?_
  refine zby hp (fun τ' H' mm => ∃ (k : Nat), (k ≤ n.ins.length) ∧ mm = n.ins.length - k ∧ H' = [.cells (avs (netC n)), .cells (avs ((inpA k l).map oD))] ∧ τ' = frL [(1, .d (za9 l)), (2, .op 0 0), (5, .os 1 1 0 k), (6, .d (iD k))]) (n.ins.length) ?_ ⟨0, Nat.zero_le _, rfl, rfl, rfl⟩ ?_
  · refine Rt.end (zaa (zaa (zaa (zaa (zaq _) rfl) rfl) rfl) rfl) ?_
    simp only [zbj, zav, zap, netC, zbw, zbx]; simp; rfl
  rintro τ' H' mm ⟨k, hk, rfl, rfl, rfl⟩
  refine zas fun K5 hK5 => ?_
  refine zac hp zao hc rfl fun K6 hK6 => ?_
  simp -dsimp -implicitDefEqProofs (disch := first | assumption | omega | (simp [maxLen, zab, zad] <;> omega) | decide) only [zal, zat, zb6, za1, zb8, zaj, zae, q_o, za8, zam, zay, lenF, zbe, zcz, ↓reduceIte, q_b, ifp, q_f, q_s, q_l, q_n, Nat.reduceEqDiff, zav, zap, iD, zbj, za9, Nat.reduceAdd, netC, zbw, zbx, zgq, zkc, zkd, znp]
  refine hK6 _ _ ?_
  refine zau rfl (fun ht => ?_) (fun ht => ?_)
  · have hlt : k < n.ins.length := by simp at ht; omega
    have hlen : (inpA k l).length = k := by simp [inpA]
    refine zbb (hK5 _ _ ?_)
    refine zas fun K7 hK7 => ?_
    refine zbg ?_
    refine zcw hp zao hc rfl fun K8 hK8 => ?_
    simp -dsimp -implicitDefEqProofs (disch := first | assumption | omega | (simp [maxLen, zab, zad] <;> omega) | decide) only [zal, zbh, ↓reduceIte, q_b, q_f, q_s, q_l, q_n, Nat.reduceEqDiff, Nat.reduceAdd]
    refine zda (at_c l k hl (by omega)) rfl ?_
    simp -dsimp -implicitDefEqProofs (disch := first | assumption | omega | (simp [maxLen, zab, zad] <;> omega) | decide) only [zag, zdw, zd6, zbd, zaj, zae, q_o, layF, srcF, ↓reduceIte, q_b, ifp, ifn, q_f, q_s, q_l, List.append_nil, List.replicate_zero, List.replicate_succ, zbv, q_a, zbn, q_n, Nat.reduceEqDiff, zab, zcv, zak, List.drop_zero, oD, Nat.reduceAdd, zbd, List.length_map, zjw]
    refine hK8 _ _ (hK7 _ _ ?_)
    refine zcw hp zao hc rfl fun K9 hK9 => ?_
    simp -dsimp -implicitDefEqProofs (disch := first | assumption | omega | (simp [maxLen, zab, zad] <;> omega) | decide) only [zal, zag, za1, zaj, zae, q_o, zay, zcu, ↓reduceIte, q_b, q_f, Nat.reduceEqDiff]
    refine hK9 _ _ ⟨_, _, _, ?_, ⟨k + 1, by omega, rfl, rfl, rfl⟩, ?_⟩
    · first | omega | (simp only [List.length_cons]; omega) | (dsimp only; omega)
    · refine Rt.trans (Rt.gc (keep := [0,3]) (by decide) (by decide) (by simp [])) ?_
      refine Rt.end (zaa (zaa (zaa (zaa (zaq _) rfl) rfl) rfl) rfl) ?_
      simp only [zbj, gcH, zb1, zaz, gcVs, gcV, zav, zap, List.map_cons, List.map_nil, List.getD_cons_zero, List.getD_cons_succ, netC, zbw, zbx]; simp [inpA, zkj, oD]
  · have hke : k = n.ins.length := by simp at ht; omega
    subst hke
    have hlen : (inpA n.ins.length l).length = n.ins.length := by simp [inpA]
    refine zcl (hK3 _ _ ?_)
    refine zac hp zao hc rfl fun K10 hK10 => ?_
    simp -dsimp -implicitDefEqProofs (disch := first | assumption | omega | (simp [maxLen, zab, zad] <;> omega) | decide) only [zal, zag, zaj, ↓reduceIte, q_b, q_f, Nat.reduceEqDiff]
    refine hK10 _ _ ?_
    refine zbc ?_
    show za7 _ _ = _
    simp (disch := first | assumption | omega | (simp [maxLen, zab, zad] <;> omega) | decide) only [za7, retV, zc2, zcn, zcf, zc7, Nat.reduceAdd, Nat.zero_add, zak, zpa, zbi, ↓reduceIte, Option.map_some, Option.bind_some, Nat.mul_one, List.getElem?_cons_zero, List.getElem?_cons_succ, List.length_cons, List.length_nil, za9]
    simp [hlen]
set_option maxRecDepth 100000 in
set_option linter.unusedVariables false in
set_option maxHeartbeats 4000000 in
theorem zit (n : Net) (hi : n.ins.length ≤ 1000000) (hg : n.gates.length ≤ 1000000) : zce Try.prog 30 [netD n] (.d (iD (2 + n.ins.length + n.gates.length))) := by
  refine zb7 (fn := Try.f30) (by kernel_rfl) Try.func30 rfl (Nat.le_of_ble_eq_true rfl) fun c hc hp => ?_
  refine zch (τ' := frL [(0, .d (netD n))]) (zaa (zaq _) rfl) ?_
  refine zac hp zao hc rfl fun K1 hK1 => ?_
  simp -dsimp -implicitDefEqProofs (disch := first | assumption | omega | (simp [maxLen, zab, zad, zaf] <;> omega) | decide) only [zag, zdy, zbd, zaj, zae, q_o, layF, ↓reduceIte, q_b, q_f, q_s, q_l, zca, D.one, zbj, zbd, netD, netC, zbw, zbx]
  refine hK1 _ _ ?_
  refine zac hp zao hc rfl fun K2 hK2 => ?_
  simp -dsimp -implicitDefEqProofs (disch := first | assumption | omega | (simp [maxLen, zab, zad, zaf] <;> omega) | decide) only [zag, zat, zb6, za1, zb8, zaj, zae, q_o, za8, zam, zay, lenF, zbe, zcu, ↓reduceIte, q_b, ifp, q_f, q_s, q_l, q_n, Nat.reduceEqDiff, zgq, zkc, zkd, znp, zhe, znq, znr, zr2]
  refine hK2 _ _ ?_
  refine zbc ?_
  show za7 _ _ = _
  simp (disch := first | assumption | omega | (simp [maxLen, zab, zad, zaf] <;> omega) | decide) only [za7, retV, zbr, Nat.zero_add, D.fix, zbi, ↓reduceIte, Option.map_some, List.length_cons, List.length_nil, iD]
def allL (n : Net) : List Int := (List.range (2 + n.ins.length + n.gates.length)).map fun (k : Nat) => (k : Int)
theorem allL_len (n : Net) : (allL n).length = 2 + n.ins.length + n.gates.length := by simp [allL]
set_option maxRecDepth 100000 in
set_option linter.unusedVariables false in
set_option maxHeartbeats 4000000 in
theorem all_c (n : Net) (hi : n.ins.length ≤ 1000000) (hg : n.gates.length ≤ 1000000) : zce Try.prog 33 [netD n] (.d (zbj (allL n))) := by
  refine zb7 (fn := Try.f33) (by kernel_rfl) Try.func33 rfl (Nat.le_of_ble_eq_true rfl) fun c hc hp => ?_
  refine zch (τ' := frL [(0, .d (netD n))]) (zaa (zaq _) rfl) ?_
  refine zac hp zao hc rfl fun K1 hK1 => ?_
  simp -dsimp -implicitDefEqProofs (disch := first | assumption | omega | (simp [maxLen, zab, zad, zaf] <;> omega) | decide) only [zag, zdy, zbd, zaj, zae, q_o, layF, ↓reduceIte, q_b, q_f, q_s, q_l, zca, D.one, zbj, zbd, netD, netC, zbw, zbx]
  refine hK1 _ _ ?_
  refine zac hp zao hc rfl fun K2 hK2 => ?_
  simp -dsimp -implicitDefEqProofs (disch := first | assumption | omega | (simp [maxLen, zab, zad, zaf] <;> omega) | decide) only [zag, zdw, zbd, zaj, zae, q_o, layF, ↓reduceIte, q_b, ifp, q_f, q_s, q_l, List.replicate_zero, zbv, q_a, q_n, zbd, zgp]
  refine hK2 _ _ ?_
  refine zas fun K3 hK3 => ?_
  refine zac hp zao hc rfl fun K4 hK4 => ?_
  simp -dsimp -implicitDefEqProofs (disch := first | assumption | omega | (simp [maxLen, zab, zad, zaf] <;> omega) | decide) only [zag, zaj, q_f]
  refine hK4 _ _ ?_
  refine zbg ?_
  refine zby hp (fun τ' H' mm => ∃ (k : Nat), (k ≤ 2 + n.ins.length + n.gates.length) ∧ mm = 2 + n.ins.length + n.gates.length - k ∧ H' = [.cells (avs (netC n)), .cells (avs (((List.range k).map fun (k : Nat) => (k : Int)).map iD))] ∧ τ' = frL [(1, .op 0 0), (3, .os 1 1 0 k), (4, .d (iD k))]) (2 + n.ins.length + n.gates.length) ?_ ⟨0, Nat.zero_le _, rfl, rfl, rfl⟩ ?_
  · refine Rt.end (zaa (zaa (zaa (zaq _) rfl) rfl) rfl) ?_
    first | rfl | (simp only [zbj, za9, zbp, zbt, zbm, gcH, zb1, zcb, zcc, gc_m, fz_m, zaz, gcVs, gcV, zcy, fzH, zc0, zb9, zcd, zbl, Nat.reduceAdd, fzVs, fzV, posN, zav, zap, List.map_cons, List.map_nil, List.getD_cons_zero, List.getD_cons_succ, ↓reduceIte, Nat.reduceEqDiff, Option.map_some, List.set_cons_zero, List.set_cons_succ, zba, zak, Nat.mul_one, List.length_map, List.cons_append, List.nil_append, netD, netC, zbw, zbx]; first | done | rfl)
  rintro τ' H' mm ⟨k, hk, rfl, rfl, rfl⟩
  refine zas fun K5 hK5 => ?_
  refine zac hp zao hc rfl fun K6 hK6 => ?_
  simp -dsimp -implicitDefEqProofs (disch := first | assumption | omega | (simp [maxLen, zab, zad, zaf] <;> omega) | decide) only [zal, zat, zbh, zae, q_o, za8, ↓reduceIte, q_b, ifp, q_f, q_s, q_l, q_n, Nat.reduceEqDiff, zav, zap, zak, iD, zbj, Nat.reduceAdd, netC, zbw, zbx, zes, zfi]
  refine zhh (zit n hi hg) ?_ ?_
  · simp (disch := first | assumption | omega | (simp [maxLen, zab, zad, zaf] <;> omega) | decide) only [zbr, zek, zb5, zb0, Nat.reduceAdd, D.fix, Option.map_some, Option.bind_some, zbj, netD, netC, zbw, zbx]
  simp -dsimp -implicitDefEqProofs (disch := first | assumption | omega | (simp [maxLen, zab, zad, zaf] <;> omega) | decide) only [za1, zaj, zae, q_o, zay, zcz, ↓reduceIte, q_b, q_f, Nat.reduceEqDiff]
  refine hK6 _ _ ?_
  refine zau rfl (fun ht => ?_) (fun ht => ?_)
  · have hlt : k < 2 + n.ins.length + n.gates.length := by simp at ht; omega
    refine zbb (hK5 _ _ ?_)
    refine zas fun K7 hK7 => ?_
    refine zbg ?_
    refine zcw hp zao hc rfl fun K8 hK8 => ?_
    simp -dsimp -implicitDefEqProofs (disch := first | assumption | omega | (simp [maxLen, zab, zad, zaf] <;> omega) | decide) only [zal, zag, zdw, zd6, zbd, zaj, zae, q_o, layF, srcF, ↓reduceIte, q_b, ifp, ifn, q_f, q_s, q_l, List.append_nil, List.replicate_zero, List.replicate_succ, zbv, q_a, zbn, q_n, Nat.reduceEqDiff, zab, zcv, zak, List.drop_zero, Nat.reduceAdd, zbd, List.length_map, zgp]
    refine hK8 _ _ (hK7 _ _ ?_)
    refine zcw hp zao hc rfl fun K9 hK9 => ?_
    simp -dsimp -implicitDefEqProofs (disch := first | assumption | omega | (simp [maxLen, zab, zad, zaf] <;> omega) | decide) only [zal, zag, za1, zaj, zae, q_o, zay, zcu, ↓reduceIte, q_b, q_f, Nat.reduceEqDiff]
    refine hK9 _ _ ⟨_, _, _, ?_, ⟨k + 1, by omega, rfl, rfl, rfl⟩, ?_⟩
    · first | omega | (simp only [List.length_cons]; omega) | (dsimp only; omega)
    · refine Rt.trans (Rt.gc (keep := [0,3]) (by decide) (by decide) (by simp [])) ?_
      refine Rt.end (zaa (zaa (zaa (zaq _) rfl) rfl) rfl) ?_
      simp only [zbj, gcH, zb1, zaz, gcVs, gcV, zav, zap, List.map_cons, List.map_nil, List.getD_cons_zero, List.getD_cons_succ, netC, zbw, zbx]; rw [zkj]; simp [iD]
  · have hke : k = 2 + n.ins.length + n.gates.length := by simp at ht; omega
    have hal := allL_len n
    refine zcl (hK3 _ _ ?_)
    refine zac hp zao hc rfl fun K10 hK10 => ?_
    simp -dsimp -implicitDefEqProofs (disch := first | assumption | omega | (simp [maxLen, zab, zad, zaf] <;> omega) | decide) only [zal, zag, zaj, ↓reduceIte, q_b, q_f, Nat.reduceEqDiff]
    refine hK10 _ _ ?_
    refine zbc ?_
    show za7 _ _ = _
    simp (disch := first | assumption | omega | (simp [maxLen, zab, zad, zaf] <;> omega) | decide) only [za7, retV, zc2, zcn, zcf, zc7, Nat.reduceAdd, Nat.zero_add, zak, zo9, zbi, ↓reduceIte, Option.map_some, Option.bind_some, Nat.mul_one, List.getElem?_cons_zero, List.getElem?_cons_succ, List.length_cons, List.length_nil, zbj]
    subst hke
    simp [allL]
set_option maxRecDepth 100000 in
set_option linter.unusedVariables false in
set_option maxHeartbeats 4000000 in
theorem vars_c (n : Net) (sh : Sh) (hsh : ShOk sh) (hi : n.ins.length ≤ 1000000) : zce Try.prog 38 [netD n, shD sh] (.d (iD (zcr n.ins.length sh))) := by
  have hs8 := hsh.len
  refine zb7 (fn := Try.f38) (by kernel_rfl) Try.func38 rfl (Nat.le_of_ble_eq_true rfl) fun c hc hp => ?_
  refine zch (τ' := frL [(0, .d (netD n)), (1, .d (shD sh))]) (zaa (zaa (zaq _) rfl) rfl) ?_
  refine zac hp zao hc rfl fun K1 hK1 => ?_
  simp -dsimp -implicitDefEqProofs (disch := first | assumption | omega | (simp [maxLen, zab, zad, zan] <;> omega) | decide) only [zag, zdy, zbd, zaj, zae, q_o, layF, ↓reduceIte, q_b, q_f, q_s, q_l, zca, D.one, zbj, zbd, netD, netC, zbw, zbx, shD]
  refine hK1 _ _ ?_
  refine zac hp zao hc rfl fun K2 hK2 => ?_
  simp -dsimp -implicitDefEqProofs (disch := first | assumption | omega | (simp [maxLen, zab, zad, zan] <;> omega) | decide) only [zag, zat, zb6, zb8, zaj, zae, q_o, za8, zam, lenF, zbe, ↓reduceIte, q_b, ifp, q_f, q_s, q_l, q_n, Nat.reduceEqDiff, zgq, zkc, zkd, znp]
  refine hK2 _ _ ?_
  refine zas fun K3 hK3 => ?_
  refine zac hp zao hc rfl fun K4 hK4 => ?_
  simp -dsimp -implicitDefEqProofs (disch := first | assumption | omega | (simp [maxLen, zab, zad, zan] <;> omega) | decide) only [zag, zaj, q_f]
  refine hK4 _ _ ?_
  refine zbg ?_
  refine zby hp (fun τ' H' mm => ∃ (k : Nat), (k ≤ sh.length) ∧ mm = sh.length - k ∧ H' = [] ∧ τ' = frL [(1, .d (shD sh)), (5, .d (iD (zc6 n.ins.length sh k))), (6, .d (iD k))]) (sh.length) ?_ ⟨0, Nat.zero_le _, rfl, rfl, rfl⟩ ?_
  · refine Rt.trans (Rt.gc (keep := []) (by decide) (by decide) (by simp [])) ?_
    refine Rt.end (zaa (zaa (zaa (zaq _) rfl) rfl) rfl) ?_
    first | rfl | (simp only [zbj, za9, zbp, zbt, zbm, gcH, zb1, zcb, zcc, gc_m, fz_m, zaz, gcVs, gcV, zcy, fzH, zc0, zb9, zcd, zbl, Nat.reduceAdd, fzVs, fzV, posN, zav, zap, List.map_cons, List.map_nil, List.getD_cons_zero, List.getD_cons_succ, ↓reduceIte, Nat.reduceEqDiff, Option.map_some, List.set_cons_zero, List.set_cons_succ, zba, zak, Nat.mul_one, List.length_map, List.cons_append, List.nil_append, netD, netC, zbw, zbx, shD]; first | done | rfl)
  rintro τ' H' mm ⟨k, hk, rfl, rfl, rfl⟩
  refine zas fun K5 hK5 => ?_
  refine zac hp zao hc rfl fun K6 hK6 => ?_
  simp -dsimp -implicitDefEqProofs (disch := first | assumption | omega | (simp [maxLen, zab, zad, zan] <;> omega) | decide) only [zal, za1, zb8, zaj, zae, q_o, zay, lenF, zbe, zcz, ↓reduceIte, q_b, q_f, q_s, Nat.reduceEqDiff, iD, shD, zjv]
  refine hK6 _ _ ?_
  refine zau rfl (fun ht => ?_) (fun ht => ?_)
  · have hlt : k < sh.length := by simp at ht; omega
    have fb := zse (base := n.ins.length) hsh (k := k) (by omega)
    have hel := hsh.el k hlt
    have hib : ((nth sh k).1 : Int) * ((nth sh k).2 : Int) ≤ 64 := by
      have := Nat.mul_le_mul hel.1 hel.2
      omega
    have hib0 : 0 ≤ ((nth sh k).1 : Int) * ((nth sh k).2 : Int) := by
      have : (((nth sh k).1 * (nth sh k).2 : Nat) : Int) = ((nth sh k).1 : Int) * ((nth sh k).2 : Int) := by simp
      omega
    have hfs1 : (zc6 n.ins.length sh (k + 1) : Int) = (zc6 n.ins.length sh k : Int) + ((nth sh k).1 : Int) * ((nth sh k).2 : Int) := by rw [zhp hlt]; simp
    refine zbb (hK5 _ _ ?_)
    refine zas fun K7 hK7 => ?_
    refine zbg ?_
    refine zv7 zao hc mixed rfl (q := 0) (by kernel_rfl) (by kernel_rfl) fun K8 hK8 => ?_
    simp -dsimp -implicitDefEqProofs (disch := first | assumption | omega | (simp [maxLen, zab, zad, zan] <;> omega) | decide) only [zco, zdh, zcq, ze2, zdt, zc4, zae, q_o, za8, ixO, za2, zay, zcu, znl, ↓reduceIte, q_b, ifp, q_f, q_l, List.append_nil, List.replicate_zero, Int.toNat_natCast, q_n, Nat.reduceEqDiff, killAll, iD, Nat.reduceAdd, Int.toNat_zero, Int.reduceToNat, sh_0, sh_1, zjv, zp8, sz_3, ag_3]
    refine hK8 _ _ (hK7 _ _ ?_)
    refine zcw hp zao hc rfl fun K9 hK9 => ?_
    simp -dsimp -implicitDefEqProofs (disch := first | assumption | omega | (simp [maxLen, zab, zad, zan] <;> omega) | decide) only [zal, zag, za1, zaj, zae, q_o, zay, zcu, ↓reduceIte, q_b, q_f, Nat.reduceEqDiff]
    refine hK9 _ _ ⟨_, _, _, ?_, ⟨k + 1, by omega, rfl, rfl, rfl⟩, ?_⟩
    · first | omega | (simp only [List.length_cons]; omega) | (dsimp only; omega)
    · refine Rt.end (zaa (zaa (zaa (zaq _) rfl) (by first | rfl | (simp [frL, iD, hfs1]; done) | simp [Fr.put, frL, gcV, fzV, posN, iD, bD, uD, oD, zbj, za9, zbp, zbt, zbm, zad, zan, hfs1, *])) rfl) ?_
      first | rfl | (simp only [zbj, za9, zbp, zbt, zbm, gcH, zb1, zcb, zcc, gc_m, fz_m, zaz, gcVs, gcV, zcy, fzH, zc0, zb9, zcd, zbl, Nat.reduceAdd, fzVs, fzV, posN, zav, zap, List.map_cons, List.map_nil, List.getD_cons_zero, List.getD_cons_succ, ↓reduceIte, Nat.reduceEqDiff, Option.map_some, List.set_cons_zero, List.set_cons_succ, zba, zak, Nat.mul_one, List.length_map, List.cons_append, List.nil_append, netD, netC, zbw, zbx, shD]; first | done | rfl)
  · have hke : k = sh.length := by simp at ht; omega
    subst hke
    refine zcl (hK3 _ _ ?_)
    refine zac hp zao hc rfl fun K10 hK10 => ?_
    simp -dsimp -implicitDefEqProofs (disch := first | assumption | omega | (simp [maxLen, zab, zad, zan] <;> omega) | decide) only [zal, zag, zaj, ↓reduceIte, q_b, q_f, Nat.reduceEqDiff]
    refine hK10 _ _ ?_
    refine zbc ?_
    show za7 _ _ = _
    simp (disch := first | assumption | omega | (simp [maxLen, zab, zad, zan] <;> omega) | decide) only [za7, retV, zbr, D.fix, zbi, ↓reduceIte, Option.map_some, List.length_nil, iD]
    rfl
end Go.Proofs.Ytgfnpfchdlcoeaa
