/- The chapter's examples. -/
import Derived.Test.YtgfnpfchdlcoeaaQ
import Derived.Test.YtgfnpfchdlcoeaaCu
set_option linter.unusedVariables false
set_option linter.unusedSimpArgs false
namespace Go.Proofs.Ytgfnpfchdlcoeaa
open Go Go.RowKit
theorem zps : RowOk 3 tW := by
  have h1 : RowOk 3 ([] ++ [tA]) := (RowOk.nil 3).snoc (by simp [tA, T.Ok]) (by decide) (by decide) (by decide)
  have h2 : RowOk 3 ([tA] ++ [tB]) := RowOk.snoc h1 (by simp [tA, tB, T.Ok]) (by decide) (by decide) (by decide)
  exact RowOk.snoc h2 (by simp [tA, tB, tR, T.Ok]) (by decide) (by decide) (by decide)
theorem zpt : bddD (erow tW) [4] = bdiD wantN [4] := by rw [bddD_I]; congr 1
theorem ex_f1 : zce Try.prog 20 [bdiD wantN [4], iD 4, iD 3] (.d (.agg [za9 [false, false, true], iD 0])) := by
  have h := zsf 3 tW [4] zps (by decide) (by decide) 4 3
  rw [zpt, show anyL tW 4 3 = [false, false, true] by kernel_rfl, show anyE tW 4 3 = 0 by kernel_rfl] at h
  exact h
theorem ex_f2 : zce Try.prog 20 [bdiD wantN [4], iD 0, iD 3] (.d (.agg [za9 [], iD 4])) := by
  have h := zsf 3 tW [4] zps (by decide) (by decide) 0 3
  rw [zpt, show anyL tW 0 3 = [] by kernel_rfl, show anyE tW 0 3 = 4 by kernel_rfl] at h
  exact h
theorem ex_k1 : zce Try.prog 27 [bdiD wantN [4], iD 4, iD 3] (.d (.agg [iD 5, iD 0])) := by
  have h := zkh 3 tW [4] zps (by decide) (by decide) 4 3
  rw [zpt, show cntA tW 4 3 = 5 by kernel_rfl, show askE tW 4 3 = 0 by kernel_rfl] at h
  exact h
theorem ex_k2 : zce Try.prog 27 [bdiD wantN [4], iD 4, iD 2] (.d (.agg [iD 0, iD 1])) := by
  have h := zkh 3 tW [4] zps (by decide) (by decide) 4 2
  rw [zpt, show cntA tW 4 2 = 0 by kernel_rfl, show askE tW 4 2 = 1 by kernel_rfl] at h
  exact h
theorem ex_s1 : zce Try.prog 25 [bdiD wantN [4], iD 4] (.d (zbj [0, 1, 2])) := by
  have h := zpq 3 tW [4] zps (by decide) (by decide) 4
  rw [zpt, show supB tW 4 = [0, 1, 2] by kernel_rfl] at h
  exact h
theorem ex_e1 : zce Try.prog 22 [bdiD wantN [4], iD 4, za9 [true, true]] (.d (oD true)) := by
  have h := eval_b 3 tW [4] zps (by decide) (by decide) 4 [true, true] (by decide)
  rw [zpt, show evB tW 4 [true, true] = true by kernel_rfl] at h
  exact h
theorem ex_e2 : zce Try.prog 22 [bdiD wantN [4], iD 4, za9 [true]] (.d (oD false)) := by
  have h := eval_b 3 tW [4] zps (by decide) (by decide) 4 [true] (by decide)
  rw [zpt, show evB tW 4 [true] = false by kernel_rfl] at h
  exact h
theorem ex_v1 : zce Try.prog 17 [bdiD wantN [4]] (.d (oD true)) := by
  have h := valid_c wantN [4] (by simp [wantN]; refine ⟨⟨?_, ?_, ?_⟩, ⟨?_, ?_, ?_⟩, ⟨?_, ?_, ?_⟩⟩ <;> (unfold I64; decide)) (by decide) (by decide)
  rw [show zki wantN [4] = true by kernel_rfl] at h
  exact h
theorem ex_v2 : zce Try.prog 17 [bdiD [] [2]] (.d (oD false)) := by
  have h := valid_c [] [2] (by simp) (by decide) (by decide)
  rw [show zki [] [2] = false by kernel_rfl] at h
  exact h
theorem ex_a1 : zce Try.prog 14 [bliD wantN [4] 0, bliD wantN [4] 0] (.d (oD true)) := alike_c wantN wantN [4] [4] 0 0 (by decide) (by decide) (by decide) (by decide)
theorem ex_a2 : zce Try.prog 14 [bliD [⟨3, 0, 1⟩] [2, 0] 0, bliD [⟨3, 0, 1⟩] [2, 0] 0] (.d (oD true)) := alike_c [⟨3, 0, 1⟩] [⟨3, 0, 1⟩] [2, 0] [2, 0] 0 0 (by decide) (by decide) (by decide) (by decide)
theorem ex_i1 : zce Try.prog 24 [zbj [0, 1, 2], zbj [0, 1, 2]] (.d (oD true)) := ints_c [0, 1, 2] [0, 1, 2] (by decide)
theorem ex_o1 : zce Try.prog 29 [za9 [false, false, true], za9 [false, false, true]] (.d (oD true)) := zvf [false, false, true] [false, false, true] (by decide)
set_option maxRecDepth 100000 in
set_option linter.unusedVariables false in
set_option maxHeartbeats 4000000 in
theorem zkv : zce Try.prog 10 [] (.d (oD true)) := by
  refine zb7 (fn := Try.f10) (by kernel_rfl) Try.func10 rfl (Nat.le_of_ble_eq_true rfl) fun c hc hp => ?_
  refine zch (τ' := frL []) (zaq _) ?_
  refine zac hp zao hc rfl fun K1 hK1 => ?_
  simp -dsimp -implicitDefEqProofs (disch := first | assumption | omega | (simp [maxLen, zab] <;> omega) | decide) only [zag, zaj, q_f]
  refine hK1 _ _ ?_
  refine zac hp zao hc rfl fun K2 hK2 => ?_
  simp -dsimp -implicitDefEqProofs (disch := first | assumption | omega | (simp [maxLen, zab] <;> omega) | decide) only [zbh, q_f, q_s, q_l]
  refine zda (example_c) rfl ?_
  simp -dsimp -implicitDefEqProofs (disch := first | assumption | omega | (simp [maxLen, zab] <;> omega) | decide) only [zcm, zbu, zbd, zaj, zae, q_o, layF, zb4, ↓reduceIte, q_b, ifp, q_f, q_s, q_l, zca, q_a, D.one, q_n, Nat.reduceEqDiff, zdk, zav, zap, zbj, Nat.reduceAdd, zbd, netD, netC, zbw, zbx, zes, ztp]
  refine hK2 _ _ ?_
  refine zcx hp (τ' := frL [(1, .d (.fp (netC exN) 0))]) (H' := []) ?_ ?_
  · refine Rt.trans (Rt.fz (id := 0) (l := netC exN) rfl) ?_
    refine Rt.trans (Rt.gc (keep := []) (by decide) (by decide) (by simp [fzH])) ?_
    refine Rt.end (zaa (zaq _) rfl) ?_
    first | rfl | (simp only [zbj, za9, zbp, zbt, zbm, gcH, zb1, zcb, zcc, gc_m, fz_m, zaz, gcVs, gcV, zcy, fzH, zc0, zb9, zcd, zbl, Nat.reduceAdd, fzVs, fzV, posN, zav, zap, List.map_cons, List.map_nil, List.getD_cons_zero, List.getD_cons_succ, ↓reduceIte, Nat.reduceEqDiff, Option.map_some, List.set_cons_zero, List.set_cons_succ, zba, zak, Nat.mul_one, List.length_map, List.cons_append, List.nil_append, zil, zhu, zim, zin, zio, zh1, ziq, zhv, zd1, zdg, zd2, zdp, zc8, netD, netC, zbw, zbx, bliD, bdiD, bdiC, beq_self_eq_true, Int.reduceBEq, Int.reduceBNe, bne_self_eq_false]; first | done | rfl)
  refine zac hp zao hc rfl fun K3 hK3 => ?_
  simp -dsimp -implicitDefEqProofs (disch := first | assumption | omega | (simp [maxLen, zab] <;> omega) | decide) only [zat, zbh, zdw, zbd, zae, q_o, za8, layF, ↓reduceIte, q_b, ifp, ifn, q_f, q_s, q_l, List.replicate_zero, List.replicate_succ, zbv, q_a, zbn, q_n, Nat.reduceEqDiff, zak, zbj, zbd, netC, zbw, zbx, zes, zfi, zgp]
  refine zk2 ex_b1 (by simp (disch := first | omega | decide) only [List.map_cons, List.map_nil, zbr, zb5, zb0, zcn, zcf, zc7, Nat.reduceAdd, Nat.zero_add, zak, D.fix, Option.map_some, Option.bind_some, Nat.mul_one, List.getElem?_cons_zero, List.length_cons, List.length_nil, iD, zbj] <;> rfl) ?_
  simp -dsimp -implicitDefEqProofs (disch := first | assumption | omega | (simp [maxLen, zab] <;> omega) | decide) only [zcm, zbu, zbd, zaj, zae, q_o, layF, zb4, ↓reduceIte, q_b, ifp, q_f, q_s, q_l, zca, q_a, D.one, Value.oneCell', q_n, Nat.reduceEqDiff, zdk, zav, zap, iD, Nat.reduceAdd, zbd, bliD, bdiC, zns, ztq]
  refine hK3 _ _ ?_
  refine zcx hp (τ' := frL [(1, .d (.fp (netC exN) 0)), (2, .d (.fp (bdiC wantN [4] ++ [iD 0]) 0))]) (H' := []) ?_ ?_
  · refine Rt.trans (Rt.fz (id := 1) (l := bdiC wantN [4] ++ [iD 0]) rfl) ?_
    refine Rt.trans (Rt.gc (keep := []) (by decide) (by decide) (by simp [fzH])) ?_
    refine Rt.end (zaa (zaa (zaq _) rfl) rfl) ?_
    first | rfl | (simp only [zbj, za9, zbp, zbt, zbm, gcH, zb1, zcb, zcc, gc_m, fz_m, zaz, gcVs, gcV, zcy, fzH, zc0, zb9, zcd, zbl, Nat.reduceAdd, fzVs, fzV, posN, zav, zap, List.map_cons, List.map_nil, List.getD_cons_zero, List.getD_cons_succ, ↓reduceIte, Nat.reduceEqDiff, Option.map_some, List.set_cons_zero, List.set_cons_succ, zba, zak, Nat.mul_one, List.length_map, List.cons_append, List.nil_append, zil, zhu, zim, zin, zio, zh1, ziq, zhv, zd1, zdg, zd2, zdp, zc8, netD, netC, zbw, zbx, bliD, bdiD, bdiC, beq_self_eq_true, Int.reduceBEq, Int.reduceBNe, bne_self_eq_false]; first | done | rfl)
  refine zac hp zao hc rfl fun K4 hK4 => ?_
  simp -dsimp -implicitDefEqProofs (disch := first | assumption | omega | (simp [maxLen, zab] <;> omega) | decide) only [zdd, zcm, zdw, zbu, zbd, zaj, zae, q_o, zdx, layF, zb4, ↓reduceIte, q_b, ifp, ifn, q_f, q_s, q_l, List.append_nil, List.replicate_zero, List.replicate_succ, zbv, q_a, zbn, zga, AV.one, D.one, Value.oneCell', q_n, Nat.reduceEqDiff, zdk, zav, zap, iD, zbj, Nat.reduceAdd, zbd, Nat.zero_mul, Nat.reduceMul, List.flatten_cons, List.flatten_nil, netC, zbw, zbx, bdiC, pa_83, zpi, zr7, zr8, zc_83, mk_28, zgp, zuw, pl_31_0, zux, zez, zuv, zuu]
  refine hK4 _ _ ?_
  refine zcx hp (τ' := frL [(1, .d (.fp (netC exN) 0)), (2, .d (.fp (bdiC wantN [4] ++ [iD 0]) 0)), (3, .d (.fp (bdiC wantN [4]) 0))]) (H' := []) ?_ ?_
  · refine Rt.trans (Rt.fz (id := 0) (l := wantN.flatMap niC) rfl) ?_
    refine Rt.trans (Rt.fz (id := 1) (l := [iD 4]) rfl) ?_
    refine Rt.trans (Rt.fz (id := 2) (l := bdiC wantN [4]) rfl) ?_
    refine Rt.trans (Rt.gc (keep := []) (by decide) (by decide) (by simp [fzH])) ?_
    refine Rt.end (zaa (zaa (zaa (zaq _) rfl) rfl) rfl) ?_
    first | rfl | (simp only [zbj, za9, zbp, zbt, zbm, gcH, zb1, zcb, zcc, gc_m, fz_m, zaz, gcVs, gcV, zcy, fzH, zc0, zb9, zcd, zbl, Nat.reduceAdd, fzVs, fzV, posN, zav, zap, List.map_cons, List.map_nil, List.getD_cons_zero, List.getD_cons_succ, ↓reduceIte, Nat.reduceEqDiff, Option.map_some, List.set_cons_zero, List.set_cons_succ, zba, zak, Nat.mul_one, List.length_map, List.cons_append, List.nil_append, zil, zhu, zim, zin, zio, zh1, ziq, zhv, zd1, zdg, zd2, zdp, zc8, netD, netC, zbw, zbx, bliD, bdiD, bdiC, beq_self_eq_true, Int.reduceBEq, Int.reduceBNe, bne_self_eq_false]; first | done | rfl)
  refine zac hp zao hc rfl fun K5 hK5 => ?_
  simp -dsimp -implicitDefEqProofs (disch := first | assumption | omega | (simp [maxLen, zab] <;> omega) | decide) only [zat, zbh, zae, q_o, za8, ↓reduceIte, q_b, q_f, q_s, q_l, q_n, Nat.reduceEqDiff, zak, iD, zbj, netC, zbw, zbx, bdiC, zez, zft]
  refine zda (ex_f1) rfl ?_
  simp -dsimp -implicitDefEqProofs (disch := first | assumption | omega | (simp [maxLen, zab] <;> omega) | decide) only [zcm, zbu, zbd, zaj, zae, q_o, layF, zb4, ↓reduceIte, q_b, ifp, q_f, q_s, q_l, zca, q_a, D.one, Value.oneCell', q_n, Nat.reduceEqDiff, zdk, zav, zap, iD, oD, za9, Nat.reduceAdd, zbd, sz_53, za_53]
  refine hK5 _ _ ?_
  refine zas fun K6 hK6 => ?_
  refine zcx hp (τ' := frL [(1, .d (.fp (netC exN) 0)), (2, .d (.fp (bdiC wantN [4] ++ [iD 0]) 0)), (3, .d (.fp (bdiC wantN [4]) 0)), (4, .d (.fp [za9 [false, false, true], iD 0] 0))]) (H' := []) ?_ ?_
  · refine Rt.trans (Rt.fz (id := 0) (l := [za9 [false, false, true], iD 0]) rfl) ?_
    refine Rt.trans (Rt.gc (keep := []) (by decide) (by decide) (by simp [fzH])) ?_
    refine Rt.end (zaa (zaa (zaa (zaa (zaq _) rfl) rfl) rfl) rfl) ?_
    first | rfl | (simp only [zbj, za9, zbp, zbt, zbm, gcH, zb1, zcb, zcc, gc_m, fz_m, zaz, gcVs, gcV, zcy, fzH, zc0, zb9, zcd, zbl, Nat.reduceAdd, fzVs, fzV, posN, zav, zap, List.map_cons, List.map_nil, List.getD_cons_zero, List.getD_cons_succ, ↓reduceIte, Nat.reduceEqDiff, Option.map_some, List.set_cons_zero, List.set_cons_succ, zba, zak, Nat.mul_one, List.length_map, List.cons_append, List.nil_append, zil, zhu, zim, zin, zio, zh1, ziq, zhv, zd1, zdg, zd2, zdp, zc8, netD, netC, zbw, zbx, bliD, bdiD, bdiC, beq_self_eq_true, Int.reduceBEq, Int.reduceBNe, bne_self_eq_false]; first | done | rfl)
  refine zac hp zao hc rfl fun K7 hK7 => ?_
  simp -dsimp -implicitDefEqProofs (disch := first | assumption | omega | (simp [maxLen, zab] <;> omega) | decide) only [zat, zdd, zbh, zae, q_o, za8, zdx, ↓reduceIte, q_b, ifn, q_f, q_s, q_l, q_a, zbn, zca, D.one, Value.oneCell', q_n, Nat.reduceEqDiff, zak, iD, oD, zbj, za9, Nat.reduceAdd, netC, zbw, zbx, bdiC, zns, ag_47, zez, zft, pa_47, zr3, zc_47]
  refine zda (ex_a1) rfl ?_
  simp -dsimp -implicitDefEqProofs (disch := first | assumption | omega | (simp [maxLen, zab] <;> omega) | decide) only [zal, zat, zfn, zbh, sT_g, zae, gK_t, q_o, za8, zfo, ↓reduceIte, q_b, zar, zbk, q_f, q_s, q_l, Nat.reduceEqDiff, zak, oD, zez, zft]
  refine zda (ex_k1) rfl ?_
  simp -dsimp -implicitDefEqProofs (disch := first | assumption | omega | (simp [maxLen, zab] <;> omega) | decide) only [zal, zbq, zat, zb6, za1, zdd, zbh, zdw, zbd, sT_g, zae, gK_t, q_o, za8, zam, zay, zdx, layF, zff, ↓reduceIte, q_b, ifp, ifn, zar, zbk, q_f, q_s, q_l, List.replicate_zero, List.replicate_succ, zbv, q_a, zbn, D.one, Value.oneCell', Bool.true_and, q_n, Nat.reduceEqDiff, iD, Nat.reduceAdd, zbd, zh1, zd1, zdg, zd2, zdp, zc8, beq_self_eq_true, bne_self_eq_false, pa_59, pl_59_0, zc_59, zs8 eq_59, zu0, zjx, zjy, zuz, ztn, zto, zjw]
  refine zk2 ex_o1 (by simp (disch := first | omega | decide) only [List.map_cons, List.map_nil, zbr, zb5, zb0, zcn, zcf, zc7, Nat.reduceAdd, Nat.zero_add, zak, D.fix, Option.map_some, Option.bind_some, Nat.mul_one, List.getElem?_cons_zero, List.length_cons, List.length_nil, oD, za9] <;> rfl) ?_
  simp -dsimp -implicitDefEqProofs (disch := first | assumption | omega | (simp [maxLen, zab] <;> omega) | decide) only [zal, zbq, zat, zfn, zbh, sT_g, zae, gK_t, q_o, za8, zfo, ↓reduceIte, q_b, zar, zbk, q_f, q_s, q_l, q_n, Nat.reduceEqDiff, zak, oD, zez, zft]
  refine zda (ex_s1) rfl ?_
  simp -dsimp -implicitDefEqProofs (disch := first | assumption | omega | (simp [maxLen, zab] <;> omega) | decide) only [zbh, zdw, zbd, sT_g, zae, gK_t, q_o, layF, ↓reduceIte, q_b, ifp, ifn, zar, zbk, q_f, q_s, q_l, List.replicate_zero, List.replicate_succ, zbv, q_a, zbn, q_n, Nat.reduceEqDiff, iD, zbj, Nat.reduceAdd, zbd, zgp]
  refine zk2 ex_i1 (by simp (disch := first | omega | decide) only [List.map_cons, List.map_nil, zbr, zb5, zb0, zcn, zcf, zc7, Nat.reduceAdd, Nat.zero_add, zak, D.fix, Option.map_some, Option.bind_some, Nat.mul_one, List.getElem?_cons_zero, List.getElem?_cons_succ, List.length_cons, List.length_nil, iD, zbj] <;> rfl) ?_
  simp -dsimp -implicitDefEqProofs (disch := first | assumption | omega | (simp [maxLen, zab] <;> omega) | decide) only [zbq, zfn, zaj, sT_g, zae, gK_t, q_o, zfo, ↓reduceIte, q_b, zar, zbk, q_f, q_s, q_l, Nat.reduceEqDiff, oD]
  refine hK7 _ _ ?_
  refine zau rfl (fun ht => ?_) (fun ht => ?_)
  · cases ht
  · refine zbb (hK6 _ _ ?_)
    refine zcx hp (τ' := frL [(1, .d (.fp (netC exN) 0)), (3, .d (.fp (bdiC wantN [4]) 0))]) (H' := []) ?_ ?_
    · refine Rt.trans (Rt.gc (keep := []) (by decide) (by decide) (by simp [])) ?_
      refine Rt.end (zaa (zaa (zaq _) rfl) rfl) ?_
      first | rfl | (simp only [zbj, za9, zbp, zbt, zbm, gcH, zb1, zcb, zcc, gc_m, fz_m, zaz, gcVs, gcV, zcy, fzH, zc0, zb9, zcd, zbl, Nat.reduceAdd, fzVs, fzV, posN, zav, zap, List.map_cons, List.map_nil, List.getD_cons_zero, List.getD_cons_succ, ↓reduceIte, Nat.reduceEqDiff, Option.map_some, List.set_cons_zero, List.set_cons_succ, zba, zak, Nat.mul_one, List.length_map, List.cons_append, List.nil_append, zil, zhu, zim, zin, zio, zh1, ziq, zhv, zd1, zdg, zd2, zdp, zc8, netD, netC, zbw, zbx, bliD, bdiD, bdiC, beq_self_eq_true, Int.reduceBEq, Int.reduceBNe, bne_self_eq_false]; first | done | rfl)
    refine zac hp zao hc rfl fun K8 hK8 => ?_
    simp -dsimp -implicitDefEqProofs (disch := first | assumption | omega | (simp [maxLen, zab] <;> omega) | decide) only [zat, zdd, zbh, zdw, zbd, zae, q_o, za8, zdx, layF, ↓reduceIte, q_b, ifp, ifn, q_f, q_s, q_l, List.append_nil, List.replicate_zero, List.replicate_succ, zbv, q_a, zbn, AV.one, D.one, Value.oneCell', q_n, Nat.reduceEqDiff, zak, iD, zbj, Nat.reduceAdd, zbd, Nat.zero_mul, Nat.reduceMul, List.flatten_cons, List.flatten_nil, netC, zbw, zbx, bdiC, zes, zfi, pa_84, zu3, zu4, zc_84, mk_32, zgp]
    refine zk2 ex_b2 (by simp (disch := first | omega | decide) only [List.map_cons, List.map_nil, zbr, zb5, zb0, zcn, zcf, zc7, Nat.reduceAdd, Nat.zero_add, zak, D.fix, Option.map_some, Option.bind_some, Nat.mul_one, List.getElem?_cons_zero, List.getElem?_cons_succ, List.length_cons, List.length_nil, iD, zbj] <;> rfl) ?_
    simp -dsimp -implicitDefEqProofs (disch := first | assumption | omega | (simp [maxLen, zab] <;> omega) | decide) only [zcm, zbu, zbd, zaj, zae, q_o, layF, zb4, ↓reduceIte, q_b, ifp, q_f, q_s, q_l, zca, q_a, D.one, Value.oneCell', q_n, Nat.reduceEqDiff, zdk, zav, zap, iD, Nat.reduceAdd, zbd, bliD, bdiC, zns, ztq]
    refine hK8 _ _ ?_
    refine zas fun K9 hK9 => ?_
    refine zcx hp (τ' := frL [(1, .d (.fp (netC exN) 0)), (3, .d (.fp (bdiC wantN [4]) 0)), (5, .d (.fp (bdiC [⟨3, 0, 1⟩] [2, 0] ++ [iD 0]) 0))]) (H' := []) ?_ ?_
    · refine Rt.trans (Rt.fz (id := 2) (l := bdiC [⟨3, 0, 1⟩] [2, 0] ++ [iD 0]) rfl) ?_
      refine Rt.trans (Rt.gc (keep := []) (by decide) (by decide) (by simp [fzH])) ?_
      refine Rt.end (zaa (zaa (zaa (zaq _) rfl) rfl) rfl) ?_
      first | rfl | (simp only [zbj, za9, zbp, zbt, zbm, gcH, zb1, zcb, zcc, gc_m, fz_m, zaz, gcVs, gcV, zcy, fzH, zc0, zb9, zcd, zbl, Nat.reduceAdd, fzVs, fzV, posN, zav, zap, List.map_cons, List.map_nil, List.getD_cons_zero, List.getD_cons_succ, ↓reduceIte, Nat.reduceEqDiff, Option.map_some, List.set_cons_zero, List.set_cons_succ, zba, zak, Nat.mul_one, List.length_map, List.cons_append, List.nil_append, zil, zhu, zim, zin, zio, zh1, ziq, zhv, zd1, zdg, zd2, zdp, zc8, netD, netC, zbw, zbx, bliD, bdiD, bdiC, beq_self_eq_true, Int.reduceBEq, Int.reduceBNe, bne_self_eq_false]; first | done | rfl)
    refine zac hp zao hc rfl fun K10 hK10 => ?_
    simp -dsimp -implicitDefEqProofs (disch := first | assumption | omega | (simp [maxLen, zab] <;> omega) | decide) only [zat, zdd, zbh, zdw, zbd, zae, q_o, za8, zdx, layF, ↓reduceIte, q_b, ifp, ifn, q_f, q_s, q_l, List.append_nil, List.replicate_zero, List.replicate_succ, zbv, q_a, zbn, zga, AV.one, D.one, Value.oneCell', q_n, Nat.reduceEqDiff, zak, iD, zbj, Nat.reduceAdd, zbd, Nat.zero_mul, Nat.reduceMul, List.flatten_cons, List.flatten_nil, netC, zbw, zbx, bdiC, zns, ag_47, pa_83, zpi, zr7, zr8, zc_83, mk_28, zgp, zuw, pl_31_0, zux, zuu, pa_47, zr3, zc_47]
    refine zk2 ex_a2 (by simp (disch := first | omega | decide) only [zbr, zek, zb5, zb0, zcn, zcf, zc7, Nat.reduceAdd, Nat.zero_add, zak, D.fix, Option.map_some, Option.bind_some, Nat.mul_one, List.getElem?_cons_zero, List.getElem?_cons_succ, List.length_cons, List.length_nil] <;> rfl) ?_
    simp -dsimp -implicitDefEqProofs (disch := first | assumption | omega | (simp [maxLen, zab] <;> omega) | decide) only [zal, zat, zfn, zbh, zdw, zbd, sT_g, zae, gK_t, q_o, za8, layF, zfo, ↓reduceIte, q_b, ifp, ifn, zar, zbk, q_f, q_s, q_l, List.replicate_zero, List.replicate_succ, zbv, q_a, zbn, q_n, Nat.reduceEqDiff, zak, oD, Nat.reduceAdd, zbd, zgp, zes, zfi]
    refine zk2 ex_b3 (by simp (disch := first | omega | decide) only [List.map_cons, List.map_nil, zbr, zb5, zb0, zcn, zcf, zc7, Nat.reduceAdd, Nat.zero_add, zak, D.fix, Option.map_some, Option.bind_some, Nat.mul_one, List.getElem?_cons_zero, List.getElem?_cons_succ, List.length_cons, List.length_nil, iD, zbj] <;> rfl) ?_
    simp -dsimp -implicitDefEqProofs (disch := first | assumption | omega | (simp [maxLen, zab] <;> omega) | decide) only [zal, zbq, zat, zia, za1, zdd, zbh, zdw, zbd, sT_g, zae, gK_t, q_o, za8, zmv, zh8, zfz, zay, zdx, layF, zff, ↓reduceIte, q_b, ifp, ifn, zar, zbk, q_f, q_s, q_l, List.append_nil, List.replicate_zero, List.replicate_succ, zbv, q_a, zbn, AV.one, D.one, Value.oneCell', q_n, Nat.reduceEqDiff, zak, iD, Nat.reduceAdd, zbd, Nat.zero_mul, Nat.reduceMul, List.flatten_cons, List.flatten_nil, bliD, bdiC, bne_self_eq_false, zes, zfi, mk_32, ft_47_1, pa_84, zu3, zu4, zc_84]
    refine zk2 ex_b4 (by simp (disch := first | omega | decide) only [zbr, zb5, zb0, zcn, zcf, zc7, Nat.reduceAdd, Nat.zero_add, zak, D.fix, Option.map_some, Option.bind_some, List.getElem?_cons_zero, List.getElem?_cons_succ, List.length_cons, List.length_nil] <;> rfl) ?_
    simp -dsimp -implicitDefEqProofs (disch := first | assumption | omega | (simp [maxLen, zab] <;> omega) | decide) only [zbq, zia, za1, zaj, sT_g, zae, gK_t, q_o, zmv, zh8, zfz, zay, zff, ↓reduceIte, q_b, zar, zbk, q_f, q_s, q_l, Nat.reduceEqDiff, iD, bliD, bdiC, bne_self_eq_false, ft_47_1]
    refine hK10 _ _ ?_
    refine zau rfl (fun ht => ?_) (fun ht => ?_)
    · cases ht
    · refine zbb (hK9 _ _ ?_)
      refine zcx hp (τ' := frL [(3, .d (.fp (bdiC wantN [4]) 0))]) (H' := []) ?_ ?_
      · refine Rt.trans (Rt.gc (keep := []) (by decide) (by decide) (by simp [])) ?_
        refine Rt.end (zaa (zaq _) rfl) ?_
        first | rfl | (simp only [zbj, za9, zbp, zbt, zbm, gcH, zb1, zcb, zcc, gc_m, fz_m, zaz, gcVs, gcV, zcy, fzH, zc0, zb9, zcd, zbl, Nat.reduceAdd, fzVs, fzV, posN, zav, zap, List.map_cons, List.map_nil, List.getD_cons_zero, List.getD_cons_succ, ↓reduceIte, Nat.reduceEqDiff, Option.map_some, List.set_cons_zero, List.set_cons_succ, zba, zak, Nat.mul_one, List.length_map, List.cons_append, List.nil_append, zil, zhu, zim, zin, zio, zh1, ziq, zhv, zd1, zdg, zd2, zdp, zc8, netD, netC, zbw, zbx, bliD, bdiD, bdiC, beq_self_eq_true, Int.reduceBEq, Int.reduceBNe, bne_self_eq_false]; first | done | rfl)
      refine zac hp zao hc rfl fun K11 hK11 => ?_
      simp -dsimp -implicitDefEqProofs (disch := first | assumption | omega | (simp [maxLen, zab] <;> omega) | decide) only [zat, zbh, zae, q_o, za8, ↓reduceIte, q_b, q_f, q_s, q_l, q_n, zak, iD, bdiC, zez, zft]
      refine zda (ex_v1) rfl ?_
      simp -dsimp -implicitDefEqProofs (disch := first | assumption | omega | (simp [maxLen, zab] <;> omega) | decide) only [zal, zdd, zbh, zdw, zbd, sT_g, zae, gK_t, q_o, zdx, layF, ↓reduceIte, q_b, ifp, ifn, zar, zck, q_f, q_s, q_l, List.replicate_zero, List.replicate_succ, zbv, q_a, zbn, zga, D.one, Value.oneCell', q_n, Nat.reduceEqDiff, oD, Nat.reduceAdd, zbd, zgp, zuw, zux, zuu]
      refine zk2 ex_v2 (by simp (disch := first | omega | decide) only [zbr, zek, zb5, zb0, zcn, zcf, zc7, Nat.reduceAdd, Nat.zero_add, zak, D.fix, Option.map_some, Option.bind_some, Nat.mul_one, List.getElem?_cons_zero, List.length_cons, List.length_nil] <;> rfl) ?_
      simp -dsimp -implicitDefEqProofs (disch := first | assumption | omega | (simp [maxLen, zab] <;> omega) | decide) only [zal, zbq, zat, zfn, zbh, zdw, zbd, sT_g, zae, gK_t, q_o, za8, layF, zfo, ↓reduceIte, q_b, ifp, ifn, zar, zck, q_f, q_s, q_l, List.replicate_zero, List.replicate_succ, zbv, q_a, zbn, q_n, Nat.reduceEqDiff, zak, oD, Nat.reduceAdd, zbd, zez, zft, zjw]
      refine zk2 ex_e1 (by simp (disch := first | omega | decide) only [List.map_cons, List.map_nil, zbr, zb5, zb0, zcn, zcf, zc7, Nat.reduceAdd, Nat.zero_add, zak, D.fix, Option.map_some, Option.bind_some, Nat.mul_one, List.getElem?_cons_zero, List.getElem?_cons_succ, List.length_cons, List.length_nil, iD, oD, za9] <;> rfl) ?_
      simp -dsimp -implicitDefEqProofs (disch := first | assumption | omega | (simp [maxLen, zab] <;> omega) | decide) only [zal, zbq, zat, zbh, zdw, zbd, sT_g, zae, gK_t, q_o, za8, layF, ↓reduceIte, q_b, ifp, ifn, zar, zck, q_f, q_s, q_l, List.replicate_zero, List.replicate_succ, zbv, q_a, zbn, q_n, Nat.reduceEqDiff, zak, oD, Nat.reduceAdd, zbd, zez, zft, zjw]
      refine zk2 ex_e2 (by simp (disch := first | omega | decide) only [List.map_cons, List.map_nil, zbr, zb5, zb0, zcn, zcf, zc7, Nat.reduceAdd, Nat.zero_add, zak, D.fix, Option.map_some, Option.bind_some, Nat.mul_one, List.getElem?_cons_zero, List.getElem?_cons_succ, List.length_cons, List.length_nil, iD, oD, za9] <;> rfl) ?_
      simp -dsimp -implicitDefEqProofs (disch := first | assumption | omega | (simp [maxLen, zab] <;> omega) | decide) only [zal, zbq, zat, zfn, zbh, sT_g, zae, gK_t, q_o, za8, zfo, ↓reduceIte, q_b, zar, zck, q_f, q_s, q_l, q_n, Nat.reduceEqDiff, zak, oD, Nat.reduceAdd, zez, zft]
      refine zda (ex_k2) rfl ?_
      simp -dsimp -implicitDefEqProofs (disch := first | assumption | omega | (simp [maxLen, zab] <;> omega) | decide) only [zal, zbq, zat, zia, za1, zbh, sT_g, zae, gK_t, q_o, za8, zmv, zh8, zfz, zay, zd9, ↓reduceIte, q_b, zar, zck, q_f, q_s, q_l, q_n, Nat.reduceEqDiff, zak, iD, Nat.reduceAdd, beq_self_eq_true, zez, zft, ft_59_1]
      refine zda (ex_f2) rfl ?_
      simp -dsimp -implicitDefEqProofs (disch := first | assumption | omega | (simp [maxLen, zab] <;> omega) | decide) only [zag, zbq, zia, za1, zaj, sT_g, zae, gK_t, q_o, zmv, zh8, zfz, zay, zd9, ↓reduceIte, q_b, zar, zck, q_f, q_s, q_l, Nat.reduceEqDiff, iD, za9, beq_self_eq_true, ft_53_1]
      refine hK11 _ _ ?_
      refine zbc ?_
      show za7 _ _ = _
      simp (disch := first | assumption | omega | (simp [maxLen, zab] <;> omega) | decide) only [za7, retV, zbr, Nat.reduceAdd, Nat.zero_add, D.fix, zbi, ↓reduceIte, Option.map_some, List.length_cons, List.length_nil, oD]
end Go.Proofs.Ytgfnpfchdlcoeaa
