/- Shapes; equal diagrams. -/
import Derived.Test.YtgfnpfchdlcoeaaQ
import Derived.Test.YtgfnpfchdlcoeaaCr
set_option linter.unusedVariables false
set_option linter.unusedSimpArgs false
namespace Go.Proofs.Ytgfnpfchdlcoeaa
open Go Go.RowKit
def shpF (left b : Nat) : Nat × Nat := if left < b % 4 * (b / 4 % 3) then (1, min (b / 4 % 3) left) else (b % 4, b / 4 % 3)
def shpL : Nat → List Nat → Sh
  | _, [] => []
  | left, b :: r => shpF left b :: shpL (left - (shpF left b).1 * (shpF left b).2) r
theorem zvg (left b : Nat) : (shpF left b).1 * (shpF left b).2 ≤ left ∧ (shpF left b).1 ≤ 3 ∧ (shpF left b).2 ≤ 2 := by
  unfold shpF
  split
  · simp only [Nat.one_mul]; omega
  · simp only; omega
theorem drop_nth {α : Type} [Inhabited α] {l : List α} {k : Nat} (h : k < l.length) : l.drop k = nth l k :: l.drop (k + 1) := by
  rw [zde h]; exact List.drop_eq_getElem_cons h
def u8D (b : Nat) : D := bD b
set_option maxRecDepth 100000 in
set_option linter.unusedVariables false in
set_option maxHeartbeats 4000000 in
theorem zsi (b0 b1 b2 : Nat) (h0 : b0 < 256) (h1 : b1 < 256) (h2 : b2 < 256) : zce Try.prog 13 [.agg [u8D b0, u8D b1, u8D b2]] (.d (shD (shpL 5 [b0, b1, b2]))) := by
  obtain ⟨l, hl⟩ : ∃ l, l = [b0, b1, b2] := ⟨_, rfl⟩
  have hll : l.length = 3 := by rw [hl]; rfl
  have hlb : ∀ x ∈ l, x < 256 := by rw [hl]; simp [h0, h1, h2]
  rw [← hl]
  refine zb7 (fn := Try.f13) (by kernel_rfl) Try.func13 rfl (Nat.le_of_ble_eq_true rfl) fun c hc hp => ?_
  refine zch (τ' := frL [(0, .d (.agg [u8D b0, u8D b1, u8D b2]))]) (zaa (zaq _) rfl) ?_
  refine zac hp zao hc rfl fun K1 hK1 => ?_
  simp -dsimp -implicitDefEqProofs (disch := first | assumption | omega | (simp [maxLen, zab, zan] <;> omega) | decide) only [zag, zdy, zbd, zaj, zae, q_o, layF, ↓reduceIte, q_b, q_f, q_s, q_l, zca, D.one, Value.oneCell', bD, zbd, u8D]
  refine hK1 _ _ ?_
  refine zac hp zao hc rfl fun K2 hK2 => ?_
  simp -dsimp -implicitDefEqProofs (disch := first | assumption | omega | (simp [maxLen, zab, zan] <;> omega) | decide) only [zag, zdw, zbd, zaj, zae, q_o, layF, ↓reduceIte, q_b, ifp, q_f, q_s, q_l, List.replicate_zero, zbv, q_a, q_n, zbd, Nat.zero_mul, List.flatten_nil, mk_32]
  refine hK2 _ _ ?_
  refine zac hp zao hc rfl fun K3 hK3 => ?_
  simp -dsimp -implicitDefEqProofs (disch := first | assumption | omega | (simp [maxLen, zab, zan] <;> omega) | decide) only [zag, zaj, q_f]
  refine hK3 _ _ ?_
  refine zas fun K4 hK4 => ?_
  refine zac hp zao hc rfl fun K5 hK5 => ?_
  simp -dsimp -implicitDefEqProofs (disch := first | assumption | omega | (simp [maxLen, zab, zan] <;> omega) | decide) only [zag, zaj, q_f]
  refine hK5 _ _ ?_
  refine zbg ?_
  refine zby hp (fun τ' H' mm => ∃ (i : Nat) (acc : Sh) (left : Nat), (i ≤ 3 ∧ acc.length = i ∧ left ≤ 5 ∧ shpL 5 l = acc ++ shpL left (l.drop i)) ∧ mm = 3 - i ∧ H' = [.cells (avs (l.map u8D)), .cells (avs (acc.flatMap shC))] ∧ τ' = frL [(1, .op 0 0), (3, .os 2 1 0 i), (4, .d (iD left)), (5, .d (iD i))]) (3) ?_ ⟨0, [], 5, ⟨by omega, rfl, by omega, rfl⟩, rfl, rfl, rfl⟩ ?_
  · refine Rt.end (zaa (zaa (zaa (zaa (zaq _) rfl) rfl) rfl) rfl) ?_
    rw [hl]; rfl
  rintro τ' H' mm ⟨i, acc, left, ⟨hi, hal, hle, hac⟩, rfl, rfl, rfl⟩
  refine zas fun K6 hK6 => ?_
  refine zac hp zao hc rfl fun K7 hK7 => ?_
  simp -dsimp -implicitDefEqProofs (disch := first | assumption | omega | (simp [maxLen, zab, zan] <;> omega) | decide) only [zal, za1, zaj, zae, q_o, zay, zcz, ↓reduceIte, q_b, q_f, Nat.reduceEqDiff, iD]
  refine hK7 _ _ ?_
  refine zau rfl (fun ht => ?_) (fun ht => ?_)
  · have hi3 : i < 3 := by simp at ht; omega
    have hil : i < l.length := by omega
    have hbb := hlb _ (zdi hil)
    obtain ⟨x, hx⟩ : ∃ x, x = nth l i := ⟨_, rfl⟩
    rw [← hx] at hbb
    have hdr : l.drop i = x :: l.drop (i + 1) := by rw [drop_nth hil, hx]
    obtain ⟨W, hW⟩ : ∃ W, W = x % 4 := ⟨_, rfl⟩
    obtain ⟨U, hU⟩ : ∃ U, U = x / 4 % 3 := ⟨_, rfl⟩
    have hW1 : (x : Int) % 4 = (W : Nat) := by omega
    have hU1 : (x : Int) / 4 % 3 = (U : Nat) := by omega
    have hWU := Nat.mul_le_mul (show W ≤ 3 by omega) (show U ≤ 2 by omega)
    have hWb1 : (W : Int) * (U : Int) ≤ 6 := by
      have : ((W * U : Nat) : Int) = (W : Int) * (U : Int) := by simp
      omega
    have hWb0 : 0 ≤ (W : Int) * (U : Int) := by
      have : ((W * U : Nat) : Int) = (W : Int) * (U : Int) := by simp
      omega
    refine zbb (hK6 _ _ ?_)
    refine zas fun K8 hK8 => ?_
    refine zbg ?_
    refine zac hp zao hc rfl fun K9 hK9 => ?_
    simp -dsimp -implicitDefEqProofs (disch := first | assumption | omega | (simp [maxLen, zab, zan] <;> omega) | decide) only [zal, zag, zat, zdo, za1, ze8, zaj, zae, q_o, za8, ixO, za2, zay, zgx, zix, ↓reduceIte, q_b, ifp, q_f, q_l, Int.toNat_natCast, q_n, Nat.reduceEqDiff, ze4, zcg, zh2, bD, Nat.reduceAdd, u8D, zcg, ← hx, hW1, eo_27, sz_5, ag_5, ik_5, ik_3]
    refine hK9 _ _ ?_
    refine zac hp zao hc rfl fun K10 hK10 => ?_
    simp -dsimp -implicitDefEqProofs (disch := first | assumption | omega | (simp [maxLen, zab, zan] <;> omega) | decide) only [zal, zag, zat, zdo, za1, ze8, zaj, zae, q_o, za8, ixO, za2, zay, zgx, zix, ↓reduceIte, q_b, ifp, q_f, q_l, Int.toNat_natCast, q_n, Nat.reduceEqDiff, ze4, zcg, zh2, zl5, bD, Nat.reduceAdd, u8D, zcg, ← hx, hU1, eo_27, sz_5, ag_5, ik_5, ik_3]
    refine hK10 _ _ ?_
    refine zas fun K11 hK11 => ?_
    have hJ11 : ∀ τ' H', (∃ τ1 H1, ∃ (p : Nat × Nat), (p = shpF left x) ∧ H1 = [.cells (avs (l.map u8D)), .cells (avs (acc.flatMap shC))] ∧ τ1 = frL [(1, .op 0 0), (3, .os 2 1 0 i), (4, .d (iD left)), (5, .d (iD i)), (6, .d (iD p.1)), (7, .d (iD p.2))] ∧ Rt [] τ' H' τ1 H1) → K11 τ' H' := by
      rintro τ' H' ⟨_, _, p, hpx, rfl, rfl, hrt⟩
      refine hK11 _ _ (zcx hp hrt ?_)
      clear hrt
      obtain ⟨k1, k2, k3⟩ := zvg left x
      rw [← hpx] at k1 k2 k3
      have e1 : ((p.1 * p.2 : Nat) : Int) = (p.1 : Int) * (p.2 : Int) := by simp
      have e2 : 0 ≤ (p.1 : Int) * (p.2 : Int) := by omega
      have e3 : (p.1 : Int) * (p.2 : Int) ≤ left := by omega
      have e4 : (left : Int) - (p.1 : Int) * (p.2 : Int) = ((left - p.1 * p.2 : Nat) : Int) := by omega
      refine zac hp zao hc rfl fun K12 hK12 => ?_
      simp -dsimp -implicitDefEqProofs (disch := first | assumption | omega | (simp [maxLen, zab, zan] <;> omega) | decide) only [zal, zag, za1, zaj, zae, q_o, zay, zg7, znl, ↓reduceIte, q_b, q_f, Nat.reduceEqDiff, iD, e4]
      refine hK12 _ _ ?_
      refine zcw hp zao hc rfl fun K13 hK13 => ?_
      simp -dsimp -implicitDefEqProofs (disch := first | assumption | omega | (simp only [maxLen, List.length_replicate, eq_self, true_and, and_true, and_self, zab, List.length_map, List.length_append, List.length_cons, List.length_nil, List.length_set, List.length_range, List.length_take, List.length_drop, zan] <;> omega) | decide | fail) only [zal, zag, zdd, zdw, zd6, zbd, zaj, zae, Option.map_some, zdx, layF, srcF, ↓reduceIte, eq_self, ifp, ifn, zbi, zdq, zc3, List.map_cons, List.map_nil, List.length_cons, List.length_nil, List.getElem?_cons_zero, List.getElem?_cons_succ, List.cons_append, List.nil_append, List.append_nil, List.set_cons_zero, List.set_cons_succ, List.replicate_zero, List.replicate_succ, List.all_cons, List.all_nil, zbv, zd7, zbn, zl1, zgf, zd8, zds, AV.one, D.one, Value.oneCell', Bool.and_self, true_and, Nat.zero_add, Nat.reduceEqDiff, zab, zcv, zak, List.drop_zero, Nat.reduceAdd, List.nil_append, zbd, Nat.zero_mul, Nat.reduceMul, List.flatten_cons, List.flatten_nil, pa_84, zu3, zu4, zc_84, mk_32]
      refine hK13 _ _ (hK8 _ _ ?_)
      refine zcw hp zao hc rfl fun K14 hK14 => ?_
      simp -dsimp -implicitDefEqProofs (disch := first | assumption | omega | (simp [maxLen, zab, zan] <;> omega) | decide) only [zal, zag, za1, zaj, zae, q_o, zay, zcu, ↓reduceIte, q_b, q_f, Nat.reduceEqDiff]
      refine hK14 _ _ ⟨_, _, _, ?_, ⟨i + 1, acc ++ [p], left - p.1 * p.2, ⟨by omega, by simp [hal], by omega, by rw [hac, hdr, shpL, ← hpx]; simp⟩, rfl, rfl, rfl⟩, ?_⟩
      · first | omega | (simp only [List.length_cons]; omega) | (dsimp only; omega)
      · refine Rt.trans (Rt.gc (keep := [0,3]) (by decide) (by decide) (by simp [])) ?_
        refine Rt.end (zaa (zaa (zaa (zaa (zaq _) rfl) rfl) rfl) rfl) ?_
        simp only [gcH, zb1, zaz, List.map_cons, List.map_nil, List.getD_cons_zero, List.getD_cons_succ]; simp [shC, iD]
    refine zac hp zao hc rfl fun K15 hK15 => ?_
    simp -dsimp -implicitDefEqProofs (disch := first | assumption | omega | (simp [maxLen, zab, zan] <;> omega) | decide) only [zal, za1, zaj, zae, q_o, zay, znl, zgj, ↓reduceIte, q_b, q_f, Nat.reduceEqDiff]
    refine hK15 _ _ ?_
    refine zau rfl (fun ht => ?_) (fun ht => ?_)
    · have hgt : left < W * U := by
        have : ((W * U : Nat) : Int) = (W : Int) * (U : Int) := by simp
        simp at ht; omega
      have hmin : min (U : Int) (left : Int) = ((min U left : Nat) : Int) := by omega
      refine zac hp zao hc rfl fun K16 hK16 => ?_
      simp -dsimp -implicitDefEqProofs (disch := first | assumption | omega | (simp [maxLen, zab, zan] <;> omega) | decide) only [zag, zaj, q_f]
      refine hK16 _ _ ?_
      refine zcw hp zao hc rfl fun K17 hK17 => ?_
      simp -dsimp -implicitDefEqProofs (disch := first | assumption | omega | (simp [maxLen, zab, zan] <;> omega) | decide) only [zal, zag, zo6, zaj, zae, zbe, ↓reduceIte, q_b, q_f, q_s, Nat.reduceEqDiff, hmin]
      refine hK17 _ _ (hJ11 _ _ ⟨_, _, (1, min U left), by rw [shpF, ← hW, ← hU, if_pos hgt], rfl, rfl, ?_⟩)
      refine Rt.end (zaa (zaa (zaa (zaa (zaa (zaa (zaq _) rfl) rfl) rfl) rfl) rfl) rfl) ?_
      first | rfl | (simp only [zbj, za9, zbp, zbt, zbm, gcH, zb1, zcb, zcc, gc_m, fz_m, zaz, gcVs, gcV, zcy, fzH, zc0, zb9, zcd, zbl, Nat.reduceAdd, fzVs, fzV, posN, zav, zap, List.map_cons, List.map_nil, List.getD_cons_zero, List.getD_cons_succ, ↓reduceIte, Nat.reduceEqDiff, Option.map_some, List.set_cons_zero, List.set_cons_succ, zba, zak, Nat.mul_one, List.length_map, List.cons_append, List.nil_append, u8D]; first | done | rfl)
    · have hgt : ¬ left < W * U := by
        have : ((W * U : Nat) : Int) = (W : Int) * (U : Int) := by simp
        simp at ht; omega
      refine zbb (hJ11 _ _ ⟨_, _, (W, U), by rw [shpF, ← hW, ← hU, if_neg hgt], rfl, rfl, ?_⟩)
      refine Rt.end (zaa (zaa (zaa (zaa (zaa (zaa (zaq _) rfl) rfl) rfl) rfl) rfl) rfl) ?_
      first | rfl | (simp only [zbj, za9, zbp, zbt, zbm, gcH, zb1, zcb, zcc, gc_m, fz_m, zaz, gcVs, gcV, zcy, fzH, zc0, zb9, zcd, zbl, Nat.reduceAdd, fzVs, fzV, posN, zav, zap, List.map_cons, List.map_nil, List.getD_cons_zero, List.getD_cons_succ, ↓reduceIte, Nat.reduceEqDiff, Option.map_some, List.set_cons_zero, List.set_cons_succ, zba, zak, Nat.mul_one, List.length_map, List.cons_append, List.nil_append, u8D]; first | done | rfl)
  · have hie : i = 3 := by simp at ht; omega
    have hfin : shpL 5 l = acc := by rw [hac, List.drop_eq_nil_of_le (by omega)]; simp [shpL]
    refine zcl (hK4 _ _ ?_)
    refine zac hp zao hc rfl fun K18 hK18 => ?_
    simp -dsimp -implicitDefEqProofs (disch := first | assumption | omega | (simp [maxLen, zab, zan] <;> omega) | decide) only [zal, zag, zaj, ↓reduceIte, q_b, q_f, Nat.reduceEqDiff]
    refine hK18 _ _ ?_
    refine zbc ?_
    show za7 _ _ = _
    simp (disch := first | assumption | omega | (simp only [maxLen, List.length_replicate, eq_self, true_and, and_true, and_self, zab, List.length_map, List.length_append, List.length_cons, List.length_nil, List.length_set, List.length_range, List.length_take, List.length_drop, zan] <;> omega) | decide | fail) only [za7, retV, zc2, zcn, zcf, zc7, Nat.reduceAdd, Nat.zero_add, zak, zbi, ↓reduceIte, Option.map_some, Option.bind_some, List.getElem?_cons_zero, List.getElem?_cons_succ, List.length_cons, List.length_nil]
    rw [hfin, sh_fix, ← hal]; rfl
/-! ### Any shape -/
end Go.Proofs.Ytgfnpfchdlcoeaa
