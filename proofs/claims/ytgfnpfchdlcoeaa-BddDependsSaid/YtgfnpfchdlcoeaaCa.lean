/- The manager's part and node. -/
import Derived.Test.YtgfnpfchdlcoeaaQ
import Derived.Test.YtgfnpfchdlcoeaaBb
set_option linter.unusedVariables false
set_option linter.unusedSimpArgs false
namespace Go.Proofs.Ytgfnpfchdlcoeaa
open Go Go.RowKit
set_option maxRecDepth 100000 in
set_option linter.unusedVariables false in
set_option maxHeartbeats 4000000 in
theorem zqy (ts : List T) (μu μm : Mp) (f : T) (hf : f ∈ full ts) (hl : ts.length ≤ bigB) (v : Nat) (b : Bool) : zce Try.prog 95 [mgrD ts μu μm, iD (num ts f), iD v, oD b] (.d (iD (num ts (zjc f v b)))) := by
  refine zb7 (fn := Try.f95) (by kernel_rfl) Try.func95 rfl (Nat.le_of_ble_eq_true rfl) fun c hc hp => ?_
  refine zch (τ' := frL [(0, .d (mgrD ts μu μm)), (1, .d (iD (num ts f))), (2, .d (iD v)), (3, .d (oD b))]) (zaa (zaa (zaa (zaa (zaq _) rfl) rfl) rfl) rfl) ?_
  refine zac hp zao hc rfl fun K1 hK1 => ?_
  simp -dsimp -implicitDefEqProofs (disch := first | assumption | omega | (simp [maxLen, zab, zaw, zah] <;> omega) | decide) only [zag, zaj, q_f, iD, oD, mgrD]
  refine hK1 _ _ ?_
  have hn := zer hf
  unfold bigB at hl
  refine zac hp zao hc rfl fun K2 hK2 => ?_
  simp -dsimp -implicitDefEqProofs (disch := first | assumption | omega | (simp [maxLen, zab, zaw, zah] <;> omega) | decide) only [zal, zat, zb6, zdo, ze9, zcm, zbu, zbd, zaj, zae, q_o, za8, zam, ixO, za2, layF, zb4, zev, ↓reduceIte, q_b, ifp, q_f, q_s, q_l, zca, q_a, D.one, Value.oneCell', Int.toNat_natCast, q_n, Nat.reduceEqDiff, zdk, zav, zap, iD, Nat.reduceAdd, zbd, zqw, zks hf, ndC, ndOf, zmh, zen, zeo, zep, zis, zje, zp7]
  refine hK2 _ _ ?_
  refine zbg ?_
  refine zac hp zao hc rfl fun K3 hK3 => ?_
  simp -dsimp -implicitDefEqProofs (disch := first | assumption | omega | (simp [maxLen, zab, zaw, zah] <;> omega) | decide) only [zal, zag, zat, zb6, za1, zaj, zae, q_o, za8, zam, zay, zff, ↓reduceIte, q_b, ifp, q_f, q_l, q_n, Nat.reduceEqDiff, zdf, sz_3, ag_3]
  refine hK3 _ _ ?_
  refine zau rfl (fun ht => ?_) (fun ht => ?_)
  · have hne : f.v ≠ v := by simp at ht; omega
    refine zac hp zao hc rfl fun K4 hK4 => ?_
    simp -dsimp -implicitDefEqProofs (disch := first | assumption | omega | (simp [maxLen, zab, zaw, zah] <;> omega) | decide) only [zal, zag, zaj, ↓reduceIte, q_b, q_f, Nat.reduceEqDiff]
    refine hK4 _ _ ?_
    refine zbc ?_
    show za7 _ _ = _
    simp (disch := first | assumption | omega | (simp [maxLen, zab, zaw, zah] <;> omega) | decide) only [za7, retV, zbr, Nat.zero_add, D.fix, zbi, ↓reduceIte, Option.map_some, List.length_cons, List.length_nil, iD]
    simp [zjc, hne]
  · have he : f.v = v := by simp at ht; omega
    refine zac hp zao hc rfl fun K5 hK5 => ?_
    simp -dsimp -implicitDefEqProofs (disch := first | assumption | omega | (simp [maxLen, zab, zaw, zah] <;> omega) | decide) only [zal, zag, zaj, ↓reduceIte, q_b, q_f, Nat.reduceEqDiff]
    refine hK5 _ _ ?_
    refine zau rfl (fun ht => ?_) (fun ht => ?_)
    · have hb : b = true := ht
      refine zac hp zao hc rfl fun K6 hK6 => ?_
      simp -dsimp -implicitDefEqProofs (disch := first | assumption | omega | (simp [maxLen, zab, zaw, zah] <;> omega) | decide) only [zag, zat, zb6, zaj, zae, za8, zam, ↓reduceIte, q_b, ifp, q_f, q_l, q_n, Nat.reduceEqDiff, ze0, sz_3, ag_3]
      refine hK6 _ _ ?_
      refine zbc ?_
      show za7 _ _ = _
      simp (disch := first | assumption | omega | (simp [maxLen, zab, zaw, zah] <;> omega) | decide) only [za7, retV, zbr, Nat.zero_add, D.fix, zbi, ↓reduceIte, Option.map_some, List.length_cons, List.length_nil, iD]
      simp [zjc, he, hb]
    · have hb : b = false := ht
      refine zac hp zao hc rfl fun K7 hK7 => ?_
      simp -dsimp -implicitDefEqProofs (disch := first | assumption | omega | (simp [maxLen, zab, zaw, zah] <;> omega) | decide) only [zag, zat, zb6, zaj, zae, za8, zam, ↓reduceIte, q_b, ifp, q_f, q_l, q_n, Nat.reduceEqDiff, zd3, sz_3, ag_3]
      refine hK7 _ _ ?_
      refine zbc ?_
      show za7 _ _ = _
      simp (disch := first | assumption | omega | (simp [maxLen, zab, zaw, zah] <;> omega) | decide) only [za7, retV, zbr, Nat.zero_add, D.fix, zbi, ↓reduceIte, Option.map_some, List.length_cons, List.length_nil, iD]
      simp [zjc, he, hb]
end Go.Proofs.Ytgfnpfchdlcoeaa
