/- netsim.Eval: the values of all nodes. -/
import Derived.Test.YtgfnpfchdlcoeaaQ
import Derived.Test.YtgfnpfchdlcoeaaDa
set_option linter.unusedVariables false
set_option linter.unusedSimpArgs false
namespace Go.Proofs.Ytgfnpfchdlcoeaa
open Go Go.RowKit
theorem zcj : opsC.length = 12 := rfl
/-- A gate whose operands lie below m. -/
structure GateOk (m : Nat) (g : Gate) : Prop where
  o1 : 1 ≤ g.op
  o2 : g.op ≤ 7
  a0 : 0 ≤ g.a
  a1 : g.a < m
  b0 : 0 ≤ g.b
  b1 : g.b < m
  c0 : 0 ≤ g.c
  c1 : g.c < m
  n0 : 0 ≤ g.n
  n1 : g.n < 1000000
def GatesOk (m : Nat) (l : List Gate) : Prop := ∀ k, k < l.length → GateOk (m + k) (nth l k)
/-- The value of a gate. -/
def opN (mems : List (List Int)) (v : List Bool) (g : Gate) : Bool :=
  if g.op = 7 then zu6 mems g.n (num3 (nth v g.a.toNat) (nth v g.b.toNat) (nth v g.c.toNat))
  else if g.op = 1 then !nth v g.a.toNat
  else if g.op = 2 then nth v g.a.toNat && nth v g.b.toNat
  else if g.op = 3 then nth v g.a.toNat || nth v g.b.toNat
  else if g.op = 4 then nth v g.a.toNat != nth v g.b.toNat
  else if g.op = 5 then if nth v g.a.toNat then nth v g.b.toNat else nth v g.c.toNat
  else nth v g.a.toNat && (nth v g.b.toNat || nth v g.c.toNat) || nth v g.b.toNat && nth v g.c.toNat
def zlo (mems : List (List Int)) (v : List Bool) (l : List Gate) : List Bool := l.foldl (fun v g => v ++ [opN mems v g]) v
def zt2 (gates : List Gate) (inp : List Bool) (mems : List (List Int)) : List Bool := zlo mems (false :: true :: inp) gates
theorem zb2 (mems : List (List Int)) : ∀ (l : List Gate) (v : List Bool), (zlo mems v l).length = v.length + l.length
  | [], v => rfl
  | g :: l, v => by
    show (zlo mems (v ++ [opN mems v g]) l).length = _
    rw [zb2 mems l]; simp; omega
theorem zf8 (mems : List (List Int)) (v : List Bool) {l : List Gate} {k : Nat} (h : k < l.length) : zlo mems v (l.take (k + 1)) = zlo mems v (l.take k) ++ [opN mems (zlo mems v (l.take k)) (nth l k)] := by
  rw [zfq h]; simp [zlo]
set_option maxRecDepth 100000 in
set_option linter.unusedVariables false in
set_option maxHeartbeats 4000000 in
theorem eval_c (n : Net) (inp : List Bool) (mems : List (List Int)) (hg : GatesOk (2 + inp.length) n.gates) (h1 : inp.length ≤ 1000000) (h2 : n.gates.length ≤ 1000000) : zce Try.prog 34 [netD n, za9 inp, zbt mems] (.d (za9 (zt2 n.gates inp mems))) := by
  refine zb7 (fn := Try.f34) (by kernel_rfl) Try.func34 rfl (Nat.le_of_ble_eq_true rfl) fun c hc hp => ?_
  refine zch (τ' := frL [(0, .d (netD n)), (1, .d (za9 inp)), (2, .d (zbt mems))]) (zaa (zaa (zaa (zaq _) rfl) rfl) rfl) ?_
  refine zac hp zao hc rfl fun K1 hK1 => ?_
  simp -dsimp -implicitDefEqProofs (disch := first | assumption | omega | (simp [maxLen, zab, zaf, zad, zb2, zcj] <;> omega) | decide) only [zag, zdy, zbd, zaj, zae, q_o, layF, ↓reduceIte, q_b, q_f, q_s, q_l, zca, D.one, zbj, za9, zbt, zbd, netD, netC, zbw, zbx]
  refine hK1 _ _ ?_
  refine zac hp zao hc rfl fun K2 hK2 => ?_
  simp -dsimp -implicitDefEqProofs (disch := first | assumption | omega | (simp [maxLen, zab, zaf, zad, zb2, zcj] <;> omega) | decide) only [zal, zag, zdw, zd6, zbd, zaj, zae, q_o, layF, srcF, ↓reduceIte, q_b, ifp, ifn, q_f, q_s, q_l, List.replicate_zero, List.replicate_succ, zbv, q_a, zbn, q_n, Nat.reduceEqDiff, zdk, List.drop_zero, Nat.reduceAdd, zbd, List.length_map, zjw]
  refine hK2 _ _ ?_
  refine zac hp zao hc rfl fun K3 hK3 => ?_
  simp -dsimp -implicitDefEqProofs (disch := first | assumption | omega | (simp [maxLen, zab, zaf, zad, zb2, zcj] <;> omega) | decide) only [zbh, q_f, q_s, q_l, q_n, Nat.reduceAdd]
  refine zda (zu7) rfl ?_
  simp -dsimp -implicitDefEqProofs (disch := first | assumption | omega | (simp [maxLen, zab, zaf, zad, zb2, zcj] <;> omega) | decide) only [zcm, zbu, zbd, zaj, zae, q_o, layF, zb4, ↓reduceIte, q_b, ifp, q_f, q_s, q_l, zca, q_a, D.one, Value.oneCell', q_n, Nat.reduceEqDiff, zdk, zav, zap, iD, Nat.reduceAdd, zbd, opsC, sz_110, za_110]
  refine hK3 _ _ ?_
  refine zas fun K4 hK4 => ?_
  refine zac hp zao hc rfl fun K5 hK5 => ?_
  simp -dsimp -implicitDefEqProofs (disch := first | assumption | omega | (simp [maxLen, zab, zaf, zad, zb2, zcj] <;> omega) | decide) only [zal, zat, zb6, zb8, zaj, zae, q_o, za8, zam, lenF, zbe, ↓reduceIte, q_b, ifp, q_f, q_s, q_l, q_n, Nat.reduceEqDiff, Nat.reduceAdd, zhe, znq, znr, zr2]
  refine hK5 _ _ ?_
  refine zbg ?_
  refine zby hp (fun τ' H' mm => ∃ k, (k ≤ n.gates.length) ∧ mm = n.gates.length - k ∧ H' = [.cells (avs ((zlo mems (false :: true :: inp) (n.gates.take k)).map oD)), .cells (avs opsC)] ∧ τ' = frL [(2, .d (zbt mems)), (7, .os 1 0 0 (2 + inp.length + k)), (8, .op 1 0), (20, .d (zbx n.gates)), (21, .d (iD n.gates.length)), (22, .d (iD k))]) (n.gates.length) ?_ ⟨0, Nat.zero_le _, rfl, rfl, rfl⟩ ?_
  · refine Rt.trans (Rt.gc (keep := [2,3]) (by decide) (by decide) (by simp [])) ?_
    refine Rt.end (zaa (zaa (zaa (zaa (zaa (zaa (zaq _) rfl) rfl) rfl) rfl) rfl) rfl) ?_
    first | rfl | (simp only [gcH, zb1, zaz, gcVs, gcV, List.map_cons, List.map_nil, List.getD_cons_zero, List.getD_cons_succ]; first | done | rfl)
  rintro τ' H' mm ⟨k, hk, rfl, rfl, rfl⟩
  refine zac hp zao hc rfl fun K6 hK6 => ?_
  simp -dsimp -implicitDefEqProofs (disch := first | assumption | omega | (simp [maxLen, zab, zaf, zad, zb2, zcj] <;> omega) | decide) only [za1, zaj, zae, q_o, zay, zcz, ↓reduceIte, q_b, q_f, Nat.reduceEqDiff, iD, zbt, zbx]
  refine hK6 _ _ ?_
  refine zas fun K7 hK7 => ?_
  refine zau rfl (fun ht => ?_) (fun ht => ?_)
  · have hlt : k < n.gates.length := by simp at ht; omega
    refine zbb (hK7 _ _ ?_)
    refine zas fun K8 hK8 => ?_
    refine zbg ?_
    have ok := hg k hlt
    obtain ⟨o1, o2, a0, a1, b0, b1, c0, c1, n0, n1⟩ := ok
    have hl : (zlo mems (false :: true :: inp) (n.gates.take k)).length = 2 + inp.length + k := by rw [zb2]; simp; omega
    refine zac hp zao hc rfl fun K9 hK9 => ?_
    simp -dsimp -implicitDefEqProofs (disch := first | assumption | omega | (simp [maxLen, zab, zaf, zad, zb2, zcj] <;> omega) | decide) only [zat, zdo, zcm, zbu, zbd, zaj, zae, q_o, za8, ixO, za2, layF, zb4, ↓reduceIte, q_b, ifp, q_f, q_s, q_l, zca, q_a, D.one, Value.oneCell', Int.toNat_natCast, q_n, Nat.reduceEqDiff, zdk, zav, zap, iD, Nat.reduceAdd, zbd, gate_row, zf3, zr2, zr4, ztr, za_64]
    refine hK9 _ _ ?_
    refine zcs zao hc mixed rfl (q := 0) (by kernel_rfl) (by kernel_rfl) fun K10 hK10 => ?_
    simp -dsimp -implicitDefEqProofs (disch := first | assumption | omega | (simp [maxLen, zab, zaf, zad, zb2, zcj] <;> omega) | decide) only [zco, zdh, zcq, zem, ze2, zc4, zae, q_o, za8, zam, ixO, za2, ↓reduceIte, q_b, ifp, q_f, q_l, List.append_nil, List.replicate_zero, and_true, q_n, Nat.reduceEqDiff, killAll, ze4, zcg, oD, Nat.reduceAdd, zu1, sz_3, ag_3, zhy, sz_4, ag_4, zr5, zr6]
    refine hK10 _ _ ?_
    refine zas fun K11 hK11 => ?_
    refine zac hp zao hc rfl fun K12 hK12 => ?_
    simp -dsimp -implicitDefEqProofs (disch := first | assumption | omega | (simp [maxLen, zab, zaf, zad, zb2, zcj] <;> omega) | decide) only [zat, zb6, za1, zaj, zae, q_o, za8, zam, zay, zd9, ↓reduceIte, q_b, ifp, q_f, q_l, q_n, Nat.reduceEqDiff, Nat.reduceAdd, zke, sz_3, ag_3]
    refine hK12 _ _ ?_
    refine zau rfl (fun ht => ?_) (fun ht => ?_)
    · have h7 : (nth n.gates k).op = 7 := by simpa using ht
      refine zcs zao hc mixed rfl (q := 3) (by kernel_rfl) (by kernel_rfl) fun K13 hK13 => ?_
      simp -dsimp -implicitDefEqProofs (disch := first | assumption | omega | (simp [maxLen, zab, zaf, zad, zb2, zcj] <;> omega) | decide) only [zco, zcq, zem, zd5, zrp, zae, q_o, za8, zam, layF, zdl, ↓reduceIte, q_b, ifp, ifn, q_f, q_s, q_l, List.replicate_zero, List.replicate_succ, zbv, q_a, zbn, and_true, q_n, Nat.reduceEqDiff, shB, appB, Nat.reduceAdd, zdl, frzF, zjs, zu2, sz_3, ag_3, zjw]
      refine zda (number_c _ _ _) rfl ?_
      simp -dsimp -implicitDefEqProofs (disch := first | assumption | omega | (simp [maxLen, zab, zaf, zad, zb2, zcj] <;> omega) | decide) only [zd5, ↓reduceIte, q_b, q_f, q_s, Nat.reduceEqDiff, iD, Nat.reduceAdd]
      refine zda (read_c _ _ _ n0 n1 (num3_r _ _ _).1) rfl ?_
      simp -dsimp -implicitDefEqProofs (disch := first | assumption | omega | (simp [maxLen, zab, zaf, zad, zb2, zcj] <;> omega) | decide) only [zdh, zrp, zo7, zc4, zae, q_o, layF, zdl, srcF, ↓reduceIte, q_b, ifp, ifn, q_f, q_s, q_l, List.append_nil, List.replicate_zero, List.replicate_succ, zbv, q_a, zbn, and_true, q_n, Nat.reduceEqDiff, shB, appB, zgy, zhw, killAll, zjr, zab, zcv, List.drop_zero, oD, Nat.reduceAdd, List.length_map, zdl, frzF, zjs, List.filterMap_nil, zjw]
      refine hK13 _ _ ?_
      refine zcl (hK8 _ _ ?_)
      refine zcw hp zao hc rfl fun K14 hK14 => ?_
      simp -dsimp -implicitDefEqProofs (disch := first | assumption | omega | (simp [maxLen, zab, zaf, zad, zb2, zcj] <;> omega) | decide) only [zal, za1, zaj, zae, q_o, zay, zcu, ↓reduceIte, q_b, q_f, Nat.reduceEqDiff]
      refine hK14 _ _ ⟨_, _, _, ?_, ⟨k + 1, by omega, rfl, rfl, rfl⟩, ?_⟩
      · first | omega | (simp only [List.length_cons]; omega) | (dsimp only; omega)
      · refine Rt.trans (Rt.gc (keep := [5,1]) (by decide) (by decide) (by simp [])) ?_
        refine Rt.end (zaa (zaa (zaa (zaa (zaa (zaa (zaq _) rfl) rfl) rfl) rfl) rfl) rfl) ?_
        simp only [gcH, zb1, zaz, List.map_cons, List.map_nil, List.getD_cons_zero, List.getD_cons_succ]; simp [zf8 _ _ hlt, opN, h7, oD]
    · have h7 : ¬ (nth n.gates k).op = 7 := by simpa using ht
      refine zbb (hK11 _ _ ?_)
      refine zac hp zao hc rfl fun K15 hK15 => ?_
      rcases (show (nth n.gates k).op = 1 ∨ (nth n.gates k).op = 2 ∨ (nth n.gates k).op = 3 ∨ (nth n.gates k).op = 4 ∨ (nth n.gates k).op = 5 ∨ (nth n.gates k).op = 6 by omega) with ho | ho | ho | ho | ho | ho
      · simp -dsimp -implicitDefEqProofs (disch := first | assumption | omega | (simp [maxLen, zab, zaf, zad, zb2, zcj] <;> omega) | decide) only [zgh, zlj, zbh, zae, q_o, zhg, zht, ↓reduceIte, q_b, ifp, q_f, q_s, q_l, Int.toNat_natCast, q_n, Nat.reduceEqDiff, zab, Nat.reduceAdd, Int.sub_zero, Int.toNat_zero, Nat.zero_mul, Nat.reduceMul, ho, zjo]
        refine zhh (find_1 (nth n.gates k).a (nth n.gates k).b (nth n.gates k).c (nth n.gates k).n) ?_ ?_
        · simp (disch := first | assumption | omega | (simp [maxLen, zab, zaf, zad, zb2, zcj] <;> omega) | decide) only [List.map_cons, List.map_nil, zbr, zc2, zb5, zb0, zcn, zcf, zc7, zex, zfx, Nat.reduceAdd, zak, D.fix, Option.map_some, Option.bind_some, List.getElem?_cons_zero, List.getElem?_cons_succ, iD, znt, opsC]
        simp -dsimp -implicitDefEqProofs (disch := first | assumption | omega | (simp [maxLen, zab, zaf, zad, zb2, zcj] <;> omega) | decide) only [zag, zaj, ↓reduceIte, q_b, q_f]
        refine hK15 _ _ ?_
        refine zcw hp zao hc rfl fun K16 hK16 => ?_
        simp -dsimp -implicitDefEqProofs (disch := first | assumption | omega | (simp [maxLen, zab, zaf, zad, zb2, zcj] <;> omega) | decide) only [zal, zat, zb6, zdo, zfb, zae, za8, zam, ixO, za2, ↓reduceIte, q_b, ifp, q_f, q_s, q_l, q_n, Nat.reduceEqDiff, zav, zap, iD, Nat.reduceAdd, Int.toNat_zero, Nat.zero_mul, opsC, zjo, zkt, zqs, zqt]
        refine zda (op_1 _ _ _) rfl ?_
        simp -dsimp -implicitDefEqProofs (disch := first | assumption | omega | (simp [maxLen, zab, zaf, zad, zb2, zcj] <;> omega) | decide) only [zag, zdw, zd6, zbd, zaj, zae, q_o, layF, srcF, ↓reduceIte, q_b, ifp, ifn, q_f, q_s, q_l, List.append_nil, List.replicate_zero, List.replicate_succ, zbv, q_a, zbn, q_n, Nat.reduceEqDiff, zab, zcv, zak, List.drop_zero, oD, Nat.reduceAdd, zbd, List.length_map, zjw]
        refine hK16 _ _ (hK8 _ _ ?_)
        refine zcw hp zao hc rfl fun K17 hK17 => ?_
        simp -dsimp -implicitDefEqProofs (disch := first | assumption | omega | (simp [maxLen, zab, zaf, zad, zb2, zcj] <;> omega) | decide) only [zal, za1, zaj, zae, q_o, zay, zcu, ↓reduceIte, q_b, q_f, Nat.reduceEqDiff]
        refine hK17 _ _ ⟨_, _, _, ?_, ⟨k + 1, by omega, rfl, rfl, rfl⟩, ?_⟩
        · first | omega | (simp only [List.length_cons]; omega) | (dsimp only; omega)
        · refine Rt.trans (Rt.gc (keep := [4,1]) (by decide) (by decide) (by simp [])) ?_
          refine Rt.end (zaa (zaa (zaa (zaa (zaa (zaa (zaq _) rfl) rfl) rfl) rfl) rfl) rfl) ?_
          simp only [gcH, zb1, zaz, gcVs, gcV, List.map_cons, List.map_nil, List.getD_cons_zero, List.getD_cons_succ]; simp [zf8 _ _ hlt, opN, ho, oD]; rfl
      · simp -dsimp -implicitDefEqProofs (disch := first | assumption | omega | (simp [maxLen, zab, zaf, zad, zb2, zcj] <;> omega) | decide) only [zgh, zlj, zbh, zae, q_o, zhg, zht, ↓reduceIte, q_b, ifp, q_f, q_s, q_l, Int.toNat_natCast, q_n, Nat.reduceEqDiff, zab, Nat.reduceAdd, Int.sub_zero, Int.toNat_zero, Nat.zero_mul, Nat.reduceMul, ho, zjo]
        refine zhh (find_2 (nth n.gates k).a (nth n.gates k).b (nth n.gates k).c (nth n.gates k).n) ?_ ?_
        · simp (disch := first | assumption | omega | (simp [maxLen, zab, zaf, zad, zb2, zcj] <;> omega) | decide) only [List.map_cons, List.map_nil, zbr, zc2, zb5, zb0, zcn, zcf, zc7, zex, zfx, Nat.reduceAdd, zak, D.fix, Option.map_some, Option.bind_some, List.getElem?_cons_zero, List.getElem?_cons_succ, iD, znt, opsC]
        simp -dsimp -implicitDefEqProofs (disch := first | assumption | omega | (simp [maxLen, zab, zaf, zad, zb2, zcj] <;> omega) | decide) only [zag, zaj, ↓reduceIte, q_b, q_f]
        refine hK15 _ _ ?_
        refine zcw hp zao hc rfl fun K18 hK18 => ?_
        simp -dsimp -implicitDefEqProofs (disch := first | assumption | omega | (simp [maxLen, zab, zaf, zad, zb2, zcj] <;> omega) | decide) only [zal, zat, zb6, zdo, zfb, zae, za8, zam, ixO, za2, ↓reduceIte, q_b, ifp, q_f, q_s, q_l, q_n, Nat.reduceEqDiff, zav, zap, iD, Nat.reduceAdd, Int.reduceToNat, Nat.reduceMul, opsC, zjo, zkt, zqs, zqt]
        refine zda (op_2 _ _ _) rfl ?_
        simp -dsimp -implicitDefEqProofs (disch := first | assumption | omega | (simp [maxLen, zab, zaf, zad, zb2, zcj] <;> omega) | decide) only [zag, zdw, zd6, zbd, zaj, zae, q_o, layF, srcF, ↓reduceIte, q_b, ifp, ifn, q_f, q_s, q_l, List.append_nil, List.replicate_zero, List.replicate_succ, zbv, q_a, zbn, q_n, Nat.reduceEqDiff, zab, zcv, zak, List.drop_zero, oD, Nat.reduceAdd, zbd, List.length_map, zjw]
        refine hK18 _ _ (hK8 _ _ ?_)
        refine zcw hp zao hc rfl fun K19 hK19 => ?_
        simp -dsimp -implicitDefEqProofs (disch := first | assumption | omega | (simp [maxLen, zab, zaf, zad, zb2, zcj] <;> omega) | decide) only [zal, za1, zaj, zae, q_o, zay, zcu, ↓reduceIte, q_b, q_f, Nat.reduceEqDiff]
        refine hK19 _ _ ⟨_, _, _, ?_, ⟨k + 1, by omega, rfl, rfl, rfl⟩, ?_⟩
        · first | omega | (simp only [List.length_cons]; omega) | (dsimp only; omega)
        · refine Rt.trans (Rt.gc (keep := [4,1]) (by decide) (by decide) (by simp [])) ?_
          refine Rt.end (zaa (zaa (zaa (zaa (zaa (zaa (zaq _) rfl) rfl) rfl) rfl) rfl) rfl) ?_
          simp only [gcH, zb1, zaz, gcVs, gcV, List.map_cons, List.map_nil, List.getD_cons_zero, List.getD_cons_succ]; simp [zf8 _ _ hlt, opN, ho, oD]; rfl
      · simp -dsimp -implicitDefEqProofs (disch := first | assumption | omega | (simp [maxLen, zab, zaf, zad, zb2, zcj] <;> omega) | decide) only [zgh, zlj, zbh, zae, q_o, zhg, zht, ↓reduceIte, q_b, ifp, q_f, q_s, q_l, Int.toNat_natCast, q_n, Nat.reduceEqDiff, zab, Nat.reduceAdd, Int.sub_zero, Int.toNat_zero, Nat.zero_mul, Nat.reduceMul, ho, zjo]
        refine zhh (find_3 (nth n.gates k).a (nth n.gates k).b (nth n.gates k).c (nth n.gates k).n) ?_ ?_
        · simp (disch := first | assumption | omega | (simp [maxLen, zab, zaf, zad, zb2, zcj] <;> omega) | decide) only [List.map_cons, List.map_nil, zbr, zc2, zb5, zb0, zcn, zcf, zc7, zex, zfx, Nat.reduceAdd, zak, D.fix, Option.map_some, Option.bind_some, List.getElem?_cons_zero, List.getElem?_cons_succ, iD, znt, opsC]
        simp -dsimp -implicitDefEqProofs (disch := first | assumption | omega | (simp [maxLen, zab, zaf, zad, zb2, zcj] <;> omega) | decide) only [zag, zaj, ↓reduceIte, q_b, q_f]
        refine hK15 _ _ ?_
        refine zcw hp zao hc rfl fun K20 hK20 => ?_
        simp -dsimp -implicitDefEqProofs (disch := first | assumption | omega | (simp [maxLen, zab, zaf, zad, zb2, zcj] <;> omega) | decide) only [zal, zat, zb6, zdo, zfb, zae, za8, zam, ixO, za2, ↓reduceIte, q_b, ifp, q_f, q_s, q_l, q_n, Nat.reduceEqDiff, zav, zap, iD, Nat.reduceAdd, Int.reduceToNat, Nat.reduceMul, opsC, zjo, zkt, zqs, zqt]
        refine zda (op_3 _ _ _) rfl ?_
        simp -dsimp -implicitDefEqProofs (disch := first | assumption | omega | (simp [maxLen, zab, zaf, zad, zb2, zcj] <;> omega) | decide) only [zag, zdw, zd6, zbd, zaj, zae, q_o, layF, srcF, ↓reduceIte, q_b, ifp, ifn, q_f, q_s, q_l, List.append_nil, List.replicate_zero, List.replicate_succ, zbv, q_a, zbn, q_n, Nat.reduceEqDiff, zab, zcv, zak, List.drop_zero, oD, Nat.reduceAdd, zbd, List.length_map, zjw]
        refine hK20 _ _ (hK8 _ _ ?_)
        refine zcw hp zao hc rfl fun K21 hK21 => ?_
        simp -dsimp -implicitDefEqProofs (disch := first | assumption | omega | (simp [maxLen, zab, zaf, zad, zb2, zcj] <;> omega) | decide) only [zal, za1, zaj, zae, q_o, zay, zcu, ↓reduceIte, q_b, q_f, Nat.reduceEqDiff]
        refine hK21 _ _ ⟨_, _, _, ?_, ⟨k + 1, by omega, rfl, rfl, rfl⟩, ?_⟩
        · first | omega | (simp only [List.length_cons]; omega) | (dsimp only; omega)
        · refine Rt.trans (Rt.gc (keep := [4,1]) (by decide) (by decide) (by simp [])) ?_
          refine Rt.end (zaa (zaa (zaa (zaa (zaa (zaa (zaq _) rfl) rfl) rfl) rfl) rfl) rfl) ?_
          simp only [gcH, zb1, zaz, gcVs, gcV, List.map_cons, List.map_nil, List.getD_cons_zero, List.getD_cons_succ]; simp [zf8 _ _ hlt, opN, ho, oD]; rfl
      · simp -dsimp -implicitDefEqProofs (disch := first | assumption | omega | (simp [maxLen, zab, zaf, zad, zb2, zcj] <;> omega) | decide) only [zgh, zlj, zbh, zae, q_o, zhg, zht, ↓reduceIte, q_b, ifp, q_f, q_s, q_l, Int.toNat_natCast, q_n, Nat.reduceEqDiff, zab, Nat.reduceAdd, Int.sub_zero, Int.toNat_zero, Nat.zero_mul, Nat.reduceMul, ho, zjo]
        refine zhh (find_4 (nth n.gates k).a (nth n.gates k).b (nth n.gates k).c (nth n.gates k).n) ?_ ?_
        · simp (disch := first | assumption | omega | (simp [maxLen, zab, zaf, zad, zb2, zcj] <;> omega) | decide) only [List.map_cons, List.map_nil, zbr, zc2, zb5, zb0, zcn, zcf, zc7, zex, zfx, Nat.reduceAdd, zak, D.fix, Option.map_some, Option.bind_some, List.getElem?_cons_zero, List.getElem?_cons_succ, iD, znt, opsC]
        simp -dsimp -implicitDefEqProofs (disch := first | assumption | omega | (simp [maxLen, zab, zaf, zad, zb2, zcj] <;> omega) | decide) only [zag, zaj, ↓reduceIte, q_b, q_f]
        refine hK15 _ _ ?_
        refine zcw hp zao hc rfl fun K22 hK22 => ?_
        simp -dsimp -implicitDefEqProofs (disch := first | assumption | omega | (simp [maxLen, zab, zaf, zad, zb2, zcj] <;> omega) | decide) only [zal, zat, zb6, zdo, zfb, zae, za8, zam, ixO, za2, ↓reduceIte, q_b, ifp, q_f, q_s, q_l, q_n, Nat.reduceEqDiff, zav, zap, iD, Nat.reduceAdd, Int.reduceToNat, Nat.reduceMul, opsC, zjo, zkt, zqs, zqt]
        refine zda (op_4 _ _ _) rfl ?_
        simp -dsimp -implicitDefEqProofs (disch := first | assumption | omega | (simp [maxLen, zab, zaf, zad, zb2, zcj] <;> omega) | decide) only [zag, zdw, zd6, zbd, zaj, zae, q_o, layF, srcF, ↓reduceIte, q_b, ifp, ifn, q_f, q_s, q_l, List.append_nil, List.replicate_zero, List.replicate_succ, zbv, q_a, zbn, q_n, Nat.reduceEqDiff, zab, zcv, zak, List.drop_zero, oD, Nat.reduceAdd, zbd, List.length_map, zjw]
        refine hK22 _ _ (hK8 _ _ ?_)
        refine zcw hp zao hc rfl fun K23 hK23 => ?_
        simp -dsimp -implicitDefEqProofs (disch := first | assumption | omega | (simp [maxLen, zab, zaf, zad, zb2, zcj] <;> omega) | decide) only [zal, za1, zaj, zae, q_o, zay, zcu, ↓reduceIte, q_b, q_f, Nat.reduceEqDiff]
        refine hK23 _ _ ⟨_, _, _, ?_, ⟨k + 1, by omega, rfl, rfl, rfl⟩, ?_⟩
        · first | omega | (simp only [List.length_cons]; omega) | (dsimp only; omega)
        · refine Rt.trans (Rt.gc (keep := [4,1]) (by decide) (by decide) (by simp [])) ?_
          refine Rt.end (zaa (zaa (zaa (zaa (zaa (zaa (zaq _) rfl) rfl) rfl) rfl) rfl) rfl) ?_
          simp only [gcH, zb1, zaz, gcVs, gcV, List.map_cons, List.map_nil, List.getD_cons_zero, List.getD_cons_succ]; simp [zf8 _ _ hlt, opN, ho, oD]; rfl
      · simp -dsimp -implicitDefEqProofs (disch := first | assumption | omega | (simp [maxLen, zab, zaf, zad, zb2, zcj] <;> omega) | decide) only [zgh, zlj, zbh, zae, q_o, zhg, zht, ↓reduceIte, q_b, ifp, q_f, q_s, q_l, Int.toNat_natCast, q_n, Nat.reduceEqDiff, zab, Nat.reduceAdd, Int.sub_zero, Int.toNat_zero, Nat.zero_mul, Nat.reduceMul, ho, zjo]
        refine zhh (find_5 (nth n.gates k).a (nth n.gates k).b (nth n.gates k).c (nth n.gates k).n) ?_ ?_
        · simp (disch := first | assumption | omega | (simp [maxLen, zab, zaf, zad, zb2, zcj] <;> omega) | decide) only [List.map_cons, List.map_nil, zbr, zc2, zb5, zb0, zcn, zcf, zc7, zex, zfx, Nat.reduceAdd, zak, D.fix, Option.map_some, Option.bind_some, List.getElem?_cons_zero, List.getElem?_cons_succ, iD, znt, opsC]
        simp -dsimp -implicitDefEqProofs (disch := first | assumption | omega | (simp [maxLen, zab, zaf, zad, zb2, zcj] <;> omega) | decide) only [zag, zaj, ↓reduceIte, q_b, q_f]
        refine hK15 _ _ ?_
        refine zcw hp zao hc rfl fun K24 hK24 => ?_
        simp -dsimp -implicitDefEqProofs (disch := first | assumption | omega | (simp [maxLen, zab, zaf, zad, zb2, zcj] <;> omega) | decide) only [zal, zat, zb6, zdo, zfb, zae, za8, zam, ixO, za2, ↓reduceIte, q_b, ifp, q_f, q_s, q_l, q_n, Nat.reduceEqDiff, zav, zap, iD, Nat.reduceAdd, Int.reduceToNat, Nat.reduceMul, opsC, zjo, zkt, zqs, zqt]
        refine zda (op_5 _ _ _) rfl ?_
        simp -dsimp -implicitDefEqProofs (disch := first | assumption | omega | (simp [maxLen, zab, zaf, zad, zb2, zcj] <;> omega) | decide) only [zag, zdw, zd6, zbd, zaj, zae, q_o, layF, srcF, ↓reduceIte, q_b, ifp, ifn, q_f, q_s, q_l, List.append_nil, List.replicate_zero, List.replicate_succ, zbv, q_a, zbn, q_n, Nat.reduceEqDiff, zab, zcv, zak, List.drop_zero, oD, Nat.reduceAdd, zbd, List.length_map, zjw]
        refine hK24 _ _ (hK8 _ _ ?_)
        refine zcw hp zao hc rfl fun K25 hK25 => ?_
        simp -dsimp -implicitDefEqProofs (disch := first | assumption | omega | (simp [maxLen, zab, zaf, zad, zb2, zcj] <;> omega) | decide) only [zal, za1, zaj, zae, q_o, zay, zcu, ↓reduceIte, q_b, q_f, Nat.reduceEqDiff]
        refine hK25 _ _ ⟨_, _, _, ?_, ⟨k + 1, by omega, rfl, rfl, rfl⟩, ?_⟩
        · first | omega | (simp only [List.length_cons]; omega) | (dsimp only; omega)
        · refine Rt.trans (Rt.gc (keep := [4,1]) (by decide) (by decide) (by simp [])) ?_
          refine Rt.end (zaa (zaa (zaa (zaa (zaa (zaa (zaq _) rfl) rfl) rfl) rfl) rfl) rfl) ?_
          simp only [gcH, zb1, zaz, gcVs, gcV, List.map_cons, List.map_nil, List.getD_cons_zero, List.getD_cons_succ]; simp [zf8 _ _ hlt, opN, ho, oD]; rfl
      · simp -dsimp -implicitDefEqProofs (disch := first | assumption | omega | (simp [maxLen, zab, zaf, zad, zb2, zcj] <;> omega) | decide) only [zgh, zlj, zbh, zae, q_o, zhg, zht, ↓reduceIte, q_b, ifp, q_f, q_s, q_l, Int.toNat_natCast, q_n, Nat.reduceEqDiff, zab, Nat.reduceAdd, Int.sub_zero, Int.toNat_zero, Nat.zero_mul, Nat.reduceMul, ho, zjo]
        refine zhh (find_6 (nth n.gates k).a (nth n.gates k).b (nth n.gates k).c (nth n.gates k).n) ?_ ?_
        · simp (disch := first | assumption | omega | (simp [maxLen, zab, zaf, zad, zb2, zcj] <;> omega) | decide) only [List.map_cons, List.map_nil, zbr, zc2, zb5, zb0, zcn, zcf, zc7, zex, zfx, Nat.reduceAdd, zak, D.fix, Option.map_some, Option.bind_some, List.getElem?_cons_zero, List.getElem?_cons_succ, iD, znt, opsC]
        simp -dsimp -implicitDefEqProofs (disch := first | assumption | omega | (simp [maxLen, zab, zaf, zad, zb2, zcj] <;> omega) | decide) only [zag, zaj, ↓reduceIte, q_b, q_f]
        refine hK15 _ _ ?_
        refine zcw hp zao hc rfl fun K26 hK26 => ?_
        simp -dsimp -implicitDefEqProofs (disch := first | assumption | omega | (simp [maxLen, zab, zaf, zad, zb2, zcj] <;> omega) | decide) only [zal, zat, zb6, zdo, zfb, zae, za8, zam, ixO, za2, ↓reduceIte, q_b, ifp, q_f, q_s, q_l, q_n, Nat.reduceEqDiff, zav, zap, iD, Nat.reduceAdd, Int.reduceToNat, Nat.reduceMul, opsC, zjo, zkt, zqs, zqt]
        refine zda (op_6 _ _ _) rfl ?_
        simp -dsimp -implicitDefEqProofs (disch := first | assumption | omega | (simp [maxLen, zab, zaf, zad, zb2, zcj] <;> omega) | decide) only [zag, zdw, zd6, zbd, zaj, zae, q_o, layF, srcF, ↓reduceIte, q_b, ifp, ifn, q_f, q_s, q_l, List.append_nil, List.replicate_zero, List.replicate_succ, zbv, q_a, zbn, q_n, Nat.reduceEqDiff, zab, zcv, zak, List.drop_zero, oD, Nat.reduceAdd, zbd, List.length_map, zjw]
        refine hK26 _ _ (hK8 _ _ ?_)
        refine zcw hp zao hc rfl fun K27 hK27 => ?_
        simp -dsimp -implicitDefEqProofs (disch := first | assumption | omega | (simp [maxLen, zab, zaf, zad, zb2, zcj] <;> omega) | decide) only [zal, za1, zaj, zae, q_o, zay, zcu, ↓reduceIte, q_b, q_f, Nat.reduceEqDiff]
        refine hK27 _ _ ⟨_, _, _, ?_, ⟨k + 1, by omega, rfl, rfl, rfl⟩, ?_⟩
        · first | omega | (simp only [List.length_cons]; omega) | (dsimp only; omega)
        · refine Rt.trans (Rt.gc (keep := [4,1]) (by decide) (by decide) (by simp [])) ?_
          refine Rt.end (zaa (zaa (zaa (zaa (zaa (zaa (zaq _) rfl) rfl) rfl) rfl) rfl) rfl) ?_
          simp only [gcH, zb1, zaz, gcVs, gcV, List.map_cons, List.map_nil, List.getD_cons_zero, List.getD_cons_succ]; simp [zf8 _ _ hlt, opN, ho, oD]; rfl
  · have hge : k = n.gates.length := by simp at ht; omega
    refine zcl (hK4 _ _ ?_)
    refine zac hp zao hc rfl fun K28 hK28 => ?_
    simp -dsimp -implicitDefEqProofs (disch := first | assumption | omega | (simp [maxLen, zab, zaf, zad, zb2, zcj] <;> omega) | decide) only [zal, zag, zaj, ↓reduceIte, q_b, q_f, Nat.reduceEqDiff]
    refine hK28 _ _ ?_
    refine zbc ?_
    show za7 _ _ = _
    simp (disch := first | assumption | omega | (simp [maxLen, zab, zaf, zad, zb2, zcj] <;> omega) | decide) only [za7, retV, zc2, zcn, zcf, zc7, Nat.reduceAdd, Nat.zero_add, zak, zpa, zbi, ↓reduceIte, Option.map_some, Option.bind_some, Nat.mul_one, List.getElem?_cons_zero, List.length_cons, List.length_nil, za9]
    rw [hge, List.take_length]; simp [zt2, zb2]; omega
end Go.Proofs.Ytgfnpfchdlcoeaa
