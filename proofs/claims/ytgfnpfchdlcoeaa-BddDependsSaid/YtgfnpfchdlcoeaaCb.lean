/- The manager's node. -/
import Derived.Test.YtgfnpfchdlcoeaaQ
import Derived.Test.YtgfnpfchdlcoeaaCa
set_option linter.unusedVariables false
set_option linter.unusedSimpArgs false
namespace Go.Proofs.Ytgfnpfchdlcoeaa
open Go Go.RowKit
theorem zlm {a b c : Nat} : Value.agg #[.int .i64 (a : Int), .int .i64 (b : Int), .int .i64 (c : Int)] = k3V a b c := rfl
def NodeK (V : Nat) (ts : List T) (μm : Mp) (t : T) (x : AV) (S' : za0) : Prop := ∃ ts' μu', S' = mgrH ts' μu' μm ∧ x = .d (iD (num ts' t)) ∧ MS V ts' μu' μm ∧ ts <+: ts' ∧ ts'.length ≤ ts.length + 1 ∧ t ∈ full ts'
set_option maxRecDepth 100000 in
set_option linter.unusedVariables false in
set_option maxHeartbeats 4000000 in
theorem node_c (V : Nat) (ts : List T) (μu μm : Mp) (hS : MS V ts μu μm) (v : Nat) (lo hi : T) (hv : v < V) (h1 : lo ∈ full ts) (h2 : hi ∈ full ts) (h3 : lo.Ok V (v + 1)) (h4 : hi.Ok V (v + 1)) (hlen : ts.length < bigB) : ScS Try.prog [0, 1, 2] 61 [.op 0 0, .d (iD v), .d (iD (num ts lo)), .d (iD (num ts hi))] (mgrH ts μu μm) (NodeK V ts μm (mkT v lo hi)) := by
  refine zmr (fn := Try.f61) (by kernel_rfl) Try.func61 rfl (Nat.le_of_ble_eq_true rfl) fun c hc hp => ?_
  refine awp_sv4 ?_
  unfold mgrH mgrC
  have hl := hS.len
  have hV := hS.V0
  unfold bigB at hl hlen
  refine zac hp zao hc rfl fun K1 hK1 => ?_
  simp -dsimp -implicitDefEqProofs (disch := first | assumption | omega | (simp [maxLen, zab, zaw, zah] <;> omega) | decide) only [zag, zaj, q_f, iD]
  refine hK1 _ _ ?_
  refine zas fun K2 hK2 => ?_
  refine zac hp zao hc rfl fun K3 hK3 => ?_
  simp -dsimp -implicitDefEqProofs (disch := first | assumption | omega | (simp [maxLen, zab, zaw, zah] <;> omega) | decide) only [zal, za1, zaj, zae, q_o, zay, zd9, ↓reduceIte, q_b, q_f, Nat.reduceEqDiff]
  refine hK3 _ _ ?_
  refine zau rfl (fun ht => ?_) (fun ht => ?_)
  · have he : lo = hi := zey h1 h2 (by simp at ht; omega)
    refine zac hp zao hc rfl fun K4 hK4 => ?_
    simp -dsimp -implicitDefEqProofs (disch := first | assumption | omega | (simp [maxLen, zab, zaw, zah] <;> omega) | decide) only [zal, zag, zaj, ↓reduceIte, q_b, q_f, Nat.reduceEqDiff]
    refine hK4 _ _ ?_
    refine zcx hp (τ' := frL [(8, .d (iD (num ts lo)))]) (H' := mgrH ts μu μm) ?_ ?_
    · refine Rt.trans (Rt.gc (keep := [0,1,2,3]) (by decide) (by decide) (by simp [])) ?_
      refine Rt.end (zaa (zaq _) rfl) ?_
      simp only [gcH, zb1, gc_m, zaz, gcVs, gcV, Nat.reduceAdd, posN, List.map_cons, List.map_nil, List.getD_cons_zero, List.getD_cons_succ, ↓reduceIte, Nat.reduceEqDiff, Option.map_some, gc_m]; rfl
    refine zbc ?_
    refine zc5 (t := 8) rfl ?_
    show ∃ _, _
    refine ⟨ts, μu, rfl, ?_, hS, List.prefix_refl _, by omega, ?_⟩
    · simp [mkT, he, frL]
    · simpa [mkT, he] using h2
  · have hne : lo ≠ hi := fun e => by subst e; simp at ht
    have hmk : mkT v lo hi = .node v lo hi := if_neg hne
    have hok : (T.node v lo hi).Ok V 0 := ⟨Nat.zero_le _, hv, hne, h3, h4⟩
    have hk : KeyP Try.prog tU (k3V v (num ts lo) (num ts hi)) := hS.keyU (v := v) (by omega) h1 h2
    refine zbb (hK2 _ _ ?_)
    refine zac hp zao hc rfl fun K5 hK5 => ?_
    simp -dsimp -implicitDefEqProofs (disch := first | assumption | omega | (simp [maxLen, zab, zaw, zah] <;> omega) | decide) only [zal, zdd, zcm, zbu, zbd, zaj, zae, q_o, zdx, layF, zb4, ↓reduceIte, q_b, ifp, ifn, q_f, q_s, q_l, q_a, zbn, AV.one, D.one, Value.oneCell', q_n, Nat.reduceEqDiff, zdk, zav, zap, Nat.reduceAdd, zbd, pa_83, zpi, zr7, zr8, zis, zp7, zc_83]
    refine hK5 _ _ ?_
    refine zcs zao hc mixed rfl (q := 0) (by kernel_rfl) (by kernel_rfl) fun K6 hK6 => ?_
    by_cases hg : (T.node v lo hi ∈ full ts)
    · have hin : T.node v lo hi ∈ ts := by simpa [full] using hg
      have hgm : getM (k3V v (num ts lo) (num ts hi)) μu = some (vi (num ts (.node v lo hi))) := hS.u.get _ hin
      simp -dsimp -implicitDefEqProofs (disch := first | assumption | omega | (simp [maxLen, zab, zaw, zah] <;> omega) | decide) only [zco, zdh, zcq, zem, zf6, zhc, zgi, zc4, zae, q_o, za8, zam, zev, ↓reduceIte, q_b, ifp, q_f, q_l, List.append_nil, List.replicate_zero, q_n, Nat.reduceEqDiff, killAll, zak, Nat.reduceAdd, zg8, zig, zdp, zc8, zlm, ziz, zti mtU hk hS.u.ok, hgm, Option.getD_some, Option.isSome_some, zsa, sz_137, ag_137, zis, zje]
      refine hK6 _ _ ?_
      refine zas fun K7 hK7 => ?_
      refine zac hp zao hc rfl fun K8 hK8 => ?_
      simp -dsimp -implicitDefEqProofs (disch := first | assumption | omega | (simp [maxLen, zab, zaw, zah] <;> omega) | decide) only [zal, zfn, zaj, zae, zfo, ↓reduceIte, q_b, q_f]
      refine hK8 _ _ ?_
      refine zau rfl (fun ht => ?_) (fun ht => ?_)
      · cases ht
      · refine zbb (hK7 _ _ ?_)
        refine zac hp zao hc rfl fun K9 hK9 => ?_
        simp -dsimp -implicitDefEqProofs (disch := first | assumption | omega | (simp [maxLen, zab, zaw, zah] <;> omega) | decide) only [zal, zag, zaj, ↓reduceIte, q_b, q_f, Nat.reduceEqDiff]
        refine hK9 _ _ ?_
        refine zcx hp (τ' := frL [(8, .d (iD (num ts (.node v lo hi))))]) (H' := mgrH ts μu μm) ?_ ?_
        · refine Rt.trans (Rt.gc (keep := [0,1,2,3]) (by decide) (by decide) (by simp [])) ?_
          refine Rt.end (zaa (zaq _) rfl) ?_
          simp only [gcH, zb1, gc_m, zaz, gcVs, gcV, Nat.reduceAdd, posN, List.map_cons, List.map_nil, List.getD_cons_zero, List.getD_cons_succ, ↓reduceIte, Nat.reduceEqDiff, Option.map_some, gc_m]; rfl
        refine zbc ?_
        refine zc5 (t := 8) rfl ?_
        show ∃ _, _
        rw [← hmk] at hg ⊢
        exact ⟨ts, μu, rfl, rfl, hS, List.prefix_refl _, by omega, hg⟩
    · have hgm : getM (k3V v (num ts lo) (num ts hi)) μu = none := hS.u.none hS.row rfl hg h1 h2
      simp -dsimp -implicitDefEqProofs (disch := first | assumption | omega | (simp [maxLen, zab, zaw, zah] <;> omega) | decide) only [zco, zdh, zcq, zem, zf6, zhc, zgi, zc4, zae, q_o, za8, zam, zev, ↓reduceIte, q_b, ifp, q_f, q_l, List.append_nil, List.replicate_zero, q_n, Nat.reduceEqDiff, killAll, zak, Nat.reduceAdd, zg8, zig, zdp, zc8, zlm, ziz, zti mtU hk hS.u.ok, hgm, Option.getD_none, Option.isSome_none, zsa, sz_137, ag_137, zis, zje]
      refine hK6 _ _ ?_
      refine zas fun K10 hK10 => ?_
      refine zac hp zao hc rfl fun K11 hK11 => ?_
      simp -dsimp -implicitDefEqProofs (disch := first | assumption | omega | (simp [maxLen, zab, zaw, zah] <;> omega) | decide) only [zal, zfn, zaj, zae, zfo, ↓reduceIte, q_b, q_f]
      refine hK11 _ _ ?_
      refine zau rfl (fun ht => ?_) (fun ht => ?_)
      · refine zac hp zao hc rfl fun K12 hK12 => ?_
        simp -dsimp -implicitDefEqProofs (disch := first | assumption | omega | (simp [maxLen, zab, zaw, zah] <;> omega) | decide) only [zal, zag, zat, zb6, ze9, zb8, zaj, zae, q_o, za8, zam, lenF, zbe, zev, ↓reduceIte, q_b, ifp, q_f, q_s, q_l, q_n, Nat.reduceEqDiff, Nat.reduceAdd, zmh, zen, zeo, zep]
        refine hK12 _ _ ?_
        refine zni zao hp hc mixed rfl [(0, []), (1, []), (2, []), (3, []), (4, []), (5, []), (6, []), (7, []), (8, []), (9, []), (10, []), (11, []), (12, []), (13, [3, 4]), (14, []), (15, []), (16, []), (17, []), (18, []), (19, [])] [[], [0], [0, 1], [0, 1, 2], [], [], [], [], [7], [7, 8], [7, 8, 9], [], [11], [7, 8, 9, 10, 11, 12], [0, 1, 2, 3, 4, 7, 8, 9, 10, 11, 12, 13], [0, 1, 2, 3, 4, 7, 8, 9, 10, 11, 12, 13, 14], [0, 1, 2, 3, 4, 6, 7, 8, 9, 10, 11, 12, 13, 14, 15], [0, 1, 2, 3, 4, 5, 6, 7, 8, 9, 10, 11, 12, 13, 14, 15, 16], [0, 1, 2, 3, 4, 5, 6, 7, 8, 9, 10, 11, 12, 13, 14, 15, 16, 17], [0, 1, 2, 3, 4, 5, 6, 7, 8, 9, 10, 11, 12, 13, 14, 15, 16, 17, 18]] 1 (by kernel_rfl) fun K13 hK13 => ?_
        simp -dsimp -implicitDefEqProofs (disch := first | assumption | omega | (simp only [maxLen, List.length_replicate, eq_self, true_and, and_true, and_self, zab, List.length_map, List.length_append, List.length_cons, List.length_nil, List.length_set, List.length_range, List.length_take, List.length_drop, zaw, zah] <;> omega) | decide | fail) only [zbd, zae, Option.map_some, za8, zam, layF, zdl, srcF, zb4, zev, ↓reduceIte, Bool.false_eq_true, eq_self, ifp, ifn, zbi, zdq, zee, zc3, List.map_cons, List.map_nil, List.length_cons, List.length_nil, List.getElem?_cons_zero, List.getElem?_cons_succ, List.cons_append, List.nil_append, List.append_nil, List.set_cons_zero, List.set_cons_succ, List.replicate_zero, List.replicate_succ, List.all_cons, List.all_nil, zbv, zd7, zbn, zga, zgf, zd8, zds, AV.one, D.one, Value.oneCell', Bool.and_self, and_true, true_and, Nat.zero_add, Nat.add_zero, Nat.reduceEqDiff, shB, appB, zab, zcv, zak, List.drop_zero, Nat.reduceAdd, List.nil_append, zbd, zdl, frzF, zjs, Nat.zero_mul, Nat.reduceMul, List.flatten_cons, List.flatten_nil, zfv, zf2, zgm, zfc, zid, List.getD_cons_zero, List.getD_cons_succ, zg2, zgn, zll, sS_extract, zir, sS_bs, sS_app, zhl, sS_me, sS_es, zme, ztg, zmf, zth, zig, zdp, zc8, zlm, meO_m mtU hk hS.u.ok hgm, esN_m hS.u.ok hk.1 hgm, zsa, sz_137, ag_137, zis, zje, zmh, zen, zeo, mk_28]
        refine hK13 _ _ (hK10 _ _ ?_)
        refine zac hp zao hc rfl fun K14 hK14 => ?_
        simp -dsimp -implicitDefEqProofs (disch := first | assumption | omega | (simp [maxLen, zab, zaw, zah] <;> omega) | decide) only [zal, zag, zaj, ↓reduceIte, q_b, q_f, Nat.reduceEqDiff]
        refine hK14 _ _ ?_
        refine zcx hp (τ' := frL [(8, .d (iD (2 + ts.length)))]) (H' := mgrH (ts ++ [.node v lo hi]) (putM (ndV (ndOf ts (.node v lo hi))) (vi (2 + ts.length)) μu) μm) ?_ ?_
        · refine Rt.trans (Rt.gc (keep := [0,1,2,6]) (by decide) (by decide) (by simp [])) ?_
          refine Rt.end (zaa (zaq _) rfl) ?_
          simp only [gcH, zb1, gc_m, zaz, gcVs, gcV, Nat.reduceAdd, posN, List.map_cons, List.map_nil, List.getD_cons_zero, List.getD_cons_succ, ↓reduceIte, Nat.reduceEqDiff, Option.map_some]; unfold mgrH mgrC; rw [mrow_snoc (t := .node v lo hi) hS.row h1 h2]; simp [ndC, ndOf, ndV, T.v, T.l, T.h, vi, iD, avs, Nat.add_assoc]
        refine zbc ?_
        refine zc5 (t := 8) rfl ?_
        show ∃ _, _
        have hnew : num (ts ++ [.node v lo hi]) (.node v lo hi) = 2 + ts.length := zrz hg
        refine ⟨ts ++ [.node v lo hi], _, rfl, ?_, hS.add (t := .node v lo hi) hok rfl hg h1 h2 (by unfold bigB; omega), List.prefix_append _ _, by simp, ?_⟩
        · rw [hmk, hnew]; rfl
        · rw [hmk, zhm]; simp
      · cases ht
end Go.Proofs.Ytgfnpfchdlcoeaa
