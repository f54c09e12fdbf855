/- The chapter's examples. -/
import Derived.Test.YtgfnpfchdlcoeaaQr
import Derived.Test.YtgfnpfchdlcoeaaQ
import Derived.Test.YtgfnpfchdlcoeaaCu
set_option linter.unusedVariables false
set_option linter.unusedSimpArgs false
set_option maxRecDepth 100000
set_option maxHeartbeats 4000000
namespace Go.Proofs.Ytgfnpfchdlcoeaa
open Go Go.RowKit
theorem zqd : RowOk 3 tW := by
 have h1 : RowOk 3 ([] ++ [tA]) := (RowOk.nil 3).snoc (by simp [tA, T.Ok]) (by decide) (by decide) (by decide)
 have h2 : RowOk 3 ([tA] ++ [tB]) := RowOk.snoc h1 (by simp [tA, tB, T.Ok]) (by decide) (by decide) (by decide)
 exact RowOk.snoc h2 (by simp [tA, tB, tR, T.Ok]) (by decide) (by decide) (by decide)
theorem zqe : zfp (zdl tW) [4] = zi2 wantN [4] := by rw [jju]; congr 1
theorem jr7 : zbi Try.prog 20 [zi2 wantN [4], iD 4, iD 3] (.d (.agg [zas [false, false, true], iD 0])) := by
 have h := zxt 3 tW [4] zqd (by decide) (by decide) 4 3
 rw [zqe, show zq3 tW 4 3 = [false, false, true] by kernel_rfl, show zwd tW 4 3 = 0 by kernel_rfl] at h
 exact h
theorem jr8 : zbi Try.prog 20 [zi2 wantN [4], iD 0, iD 3] (.d (.agg [zas [], iD 4])) := by
 have h := zxt 3 tW [4] zqd (by decide) (by decide) 0 3
 rw [zqe, show zq3 tW 0 3 = [] by kernel_rfl, show zwd tW 0 3 = 4 by kernel_rfl] at h
 exact h
theorem jr9 : zbi Try.prog 27 [zi2 wantN [4], iD 4, iD 3] (.d (.agg [iD 5, iD 0])) := by
 have h := zp9 3 tW [4] zqd (by decide) (by decide) 4 3
 rw [zqe, show jh8 tW 4 3 = 5 by kernel_rfl, show zzo tW 4 3 = 0 by kernel_rfl] at h
 exact h
theorem jsa : zbi Try.prog 27 [zi2 wantN [4], iD 4, iD 2] (.d (.agg [iD 0, iD 1])) := by
 have h := zp9 3 tW [4] zqd (by decide) (by decide) 4 2
 rw [zqe, show jh8 tW 4 2 = 0 by kernel_rfl, show zzo tW 4 2 = 1 by kernel_rfl] at h
 exact h
theorem jsb : zbi Try.prog 25 [zi2 wantN [4], iD 4] (.d (zay [0, 1, 2])) := by
 have h := zp8 3 tW [4] zqd (by decide) (by decide) 4
 rw [zqe, show zwc tW 4 = [0, 1, 2] by kernel_rfl] at h
 exact h
theorem jsc : zbi Try.prog 22 [zi2 wantN [4], iD 4, zas [true, true]] (.d (oD true)) := by
 have h := jfe 3 tW [4] zqd (by decide) (by decide) 4 [true, true] (by decide)
 rw [zqe, show evB tW 4 [true, true] = true by kernel_rfl] at h
 exact h
theorem jsd : zbi Try.prog 22 [zi2 wantN [4], iD 4, zas [true]] (.d (oD false)) := by
 have h := jfe 3 tW [4] zqd (by decide) (by decide) 4 [true] (by decide)
 rw [zqe, show evB tW 4 [true] = false by kernel_rfl] at h
 exact h
theorem jse : zbi Try.prog 17 [zi2 wantN [4]] (.d (oD true)) := by
 have h := zxu wantN [4] (by simp [wantN]; refine ⟨⟨?_, ?_, ?_⟩, ⟨?_, ?_, ?_⟩, ⟨?_, ?_, ?_⟩⟩ <;> (unfold I64; decide)) (by decide) (by decide)
 rw [show zhc wantN [4] = true by kernel_rfl] at h
 exact h
theorem jsf : zbi Try.prog 17 [zi2 [] [2]] (.d (oD false)) := by
 have h := zxu [] [2] (by simp) (by decide) (by decide)
 rw [show zhc [] [2] = false by kernel_rfl] at h
 exact h
theorem jsg : zbi Try.prog 14 [zui wantN [4] 0, zui wantN [4] 0] (.d (oD true)) := zxw wantN wantN [4] [4] 0 0 (by decide) (by decide) (by decide) (by decide)
theorem jsh : zbi Try.prog 14 [zui [⟨3, 0, 1⟩] [2, 0] 0, zui [⟨3, 0, 1⟩] [2, 0] 0] (.d (oD true)) := zxw [⟨3, 0, 1⟩] [⟨3, 0, 1⟩] [2, 0] [2, 0] 0 0 (by decide) (by decide) (by decide) (by decide)
theorem jsi : zbi Try.prog 24 [zay [0, 1, 2], zay [0, 1, 2]] (.d (oD true)) := jjo [0, 1, 2] [0, 1, 2] (by decide)
theorem jsj : zbi Try.prog 29 [zas [false, false, true], zas [false, false, true]] (.d (oD true)) := zuf [false, false, true] [false, false, true] (by decide)
theorem jcg : zbi Try.prog 10 [] (.d (oD true)) := by
 refine za8 (fn := Try.f10) (by kernel_rfl) Try.func10 rfl (Nat.le_of_ble_eq_true rfl) fun c hc hp => ?_
 refine zba (τ' := frL []) (zae _) ?_
 refine zab hp zad hc rfl fun K1 hK1 => ?_
 simp -dsimp -implicitDefEqProofs (disch := first | omega | decide) only [q_r]
 refine hK1 _ _ ?_
 refine zab hp zad hc rfl fun K2 hK2 => ?_
 simp -dsimp -implicitDefEqProofs (disch := first | omega | decide) only [q_r]
 refine zb9 (jfn) rfl ?_
 simp -dsimp -implicitDefEqProofs (disch := first | omega | decide) only [q_r, zau, zb0, za6, ↓reduceIte, D.one, Nat.reduceEqDiff, zay, Nat.reduceAdd, zau, zf1, zc2, zbh, zbg, zf0, jg9]
 refine hK2 _ _ ?_
 refine zbx hp (τ' := frL [(1, .d (.fp (zc2 exN) 0))]) (H' := []) ?_ ?_
 ·refine Rt.trans (Rt.fz (id := 0) (l := zc2 exN) rfl) ?_
  refine Rt.trans (Rt.gc (keep := []) (by decide) (by decide) (by simp [fzH])) ?_
  refine Rt.end (zaa (zae _) rfl) ?_
  rfl
 refine zab hp zad hc rfl fun K3 hK3 => ?_
 simp -dsimp -implicitDefEqProofs (disch := first | omega | decide) only [q_r, zau, zam, zb0, ↓reduceIte, List.replicate_zero, List.replicate_succ, Nat.reduceEqDiff, zay, zau, zc2, zbh, zbg, zf0, zgm, zgb]
 refine zk7 jr3 (by simp (disch := first | omega | decide) only [List.map_cons, List.map_nil, za1, za9, za7, zbt, zbl, zcg, Nat.reduceAdd, Nat.zero_add, zax, D.fix, Option.map_some, Option.bind_some, Nat.mul_one, List.getElem?_cons_zero, List.length_cons, List.length_nil, iD, zay] <;> rfl) ?_
 simp -dsimp -implicitDefEqProofs (disch := first | omega | decide) only [q_r, zau, zb0, za6, ↓reduceIte, D.one, Value.oneCell', Nat.reduceEqDiff, iD, Nat.reduceAdd, zau, zui, zee, zk2, jb4]
 refine hK3 _ _ ?_
 refine zbx hp (τ' := frL [(1, .d (.fp (zc2 exN) 0)), (2, .d (.fp (zee wantN [4] ++ [iD 0]) 0))]) (H' := []) ?_ ?_
 ·refine Rt.trans (Rt.fz (id := 1) (l := zee wantN [4] ++ [iD 0]) rfl) ?_
  refine Rt.trans (Rt.gc (keep := []) (by decide) (by decide) (by simp [fzH])) ?_
  refine Rt.end (zaa (zaa (zae _) rfl) rfl) ?_
  rfl
 refine zab hp zad hc rfl fun K4 hK4 => ?_
 simp -dsimp -implicitDefEqProofs (disch := first | omega | decide) only [q_r, zau, zb7, zb0, za6, ↓reduceIte, List.append_nil, List.replicate_zero, List.replicate_succ, AV.one, D.one, Value.oneCell', Nat.reduceEqDiff, iD, zay, Nat.reduceAdd, zau, Nat.zero_mul, Nat.reduceMul, List.flatten_cons, List.flatten_nil, zc2, zbh, zbg, zee, jb9, znv, zpw, zpx, jb8, jb2, zgb, zvz, jet, zxc, zc8, zvy, zvx]
 refine hK4 _ _ ?_
 refine zbx hp (τ' := frL [(1, .d (.fp (zc2 exN) 0)), (2, .d (.fp (zee wantN [4] ++ [iD 0]) 0)), (3, .d (.fp (zee wantN [4]) 0))]) (H' := []) ?_ ?_
 ·refine Rt.trans (Rt.fz (id := 0) (l := wantN.flatMap niC) rfl) ?_
  refine Rt.trans (Rt.fz (id := 1) (l := [iD 4]) rfl) ?_
  refine Rt.trans (Rt.fz (id := 2) (l := zee wantN [4]) rfl) ?_
  refine Rt.trans (Rt.gc (keep := []) (by decide) (by decide) (by simp [fzH])) ?_
  refine Rt.end (zaa (zaa (zaa (zae _) rfl) rfl) rfl) ?_
  rfl
 refine zab hp zad hc rfl fun K5 hK5 => ?_
 simp -dsimp -implicitDefEqProofs (disch := first | omega | decide) only [q_r, zam, ↓reduceIte, Nat.reduceEqDiff, iD, zay, zc2, zbh, zbg, zee, zc8, zds]
 refine zb9 (jr7) rfl ?_
 simp -dsimp -implicitDefEqProofs (disch := first | omega | decide) only [q_r, zau, zb0, za6, ↓reduceIte, D.one, Value.oneCell', Nat.reduceEqDiff, iD, oD, zas, Nat.reduceAdd, zau, zpv, jev]
 refine hK5 _ _ ?_
 refine zaf fun K6 hK6 => ?_
 refine zbx hp (τ' := frL [(1, .d (.fp (zc2 exN) 0)), (2, .d (.fp (zee wantN [4] ++ [iD 0]) 0)), (3, .d (.fp (zee wantN [4]) 0)), (4, .d (.fp [zas [false, false, true], iD 0] 0))]) (H' := []) ?_ ?_
 ·refine Rt.trans (Rt.fz (id := 0) (l := [zas [false, false, true], iD 0]) rfl) ?_
  refine Rt.trans (Rt.gc (keep := []) (by decide) (by decide) (by simp [fzH])) ?_
  refine Rt.end (zaa (zaa (zaa (zaa (zae _) rfl) rfl) rfl) rfl) ?_
  rfl
 refine zab hp zad hc rfl fun K7 hK7 => ?_
 simp -dsimp -implicitDefEqProofs (disch := first | omega | decide) only [q_r, zam, zb7, ↓reduceIte, D.one, Value.oneCell', Nat.reduceEqDiff, iD, oD, zay, zas, Nat.reduceAdd, zc2, zbh, zbg, zee, zk2, zv2, zc8, zds, zv4, zpt, zv3]
 refine zb9 (jsg) rfl ?_
 simp -dsimp -implicitDefEqProofs (disch := first | omega | decide) only [q_r, zam, ↓reduceIte, Nat.reduceEqDiff, oD, zc8, zds]
 refine zb9 (jr9) rfl ?_
 simp -dsimp -implicitDefEqProofs (disch := first | omega | decide) only [q_r, zau, zam, zac, zb7, zb0, ↓reduceIte, List.replicate_zero, List.replicate_succ, D.one, Value.oneCell', Bool.true_and, Nat.reduceEqDiff, iD, Nat.reduceAdd, zau, zpf, zeq, zdw, zer, zdv, zcy, beq_self_eq_true, bne_self_eq_false, jhg, zxh, jhf, zsd jn9, jey, jha, jhb, jew, zqz, zq0, zmb]
 refine zk7 jsj (by simp (disch := first | omega | decide) only [List.map_cons, List.map_nil, za1, za9, za7, zbt, zbl, zcg, Nat.reduceAdd, Nat.zero_add, zax, D.fix, Option.map_some, Option.bind_some, Nat.mul_one, List.getElem?_cons_zero, List.length_cons, List.length_nil, oD, zas] <;> rfl) ?_
 simp -dsimp -implicitDefEqProofs (disch := first | omega | decide) only [q_r, zam, ↓reduceIte, Nat.reduceEqDiff, oD, zc8, zds]
 refine zb9 (jsb) rfl ?_
 simp -dsimp -implicitDefEqProofs (disch := first | omega | decide) only [q_r, zau, zb0, ↓reduceIte, List.replicate_zero, List.replicate_succ, Nat.reduceEqDiff, iD, zay, Nat.reduceAdd, zau, zgb]
 refine zk7 jsi (by simp (disch := first | omega | decide) only [List.map_cons, List.map_nil, za1, za9, za7, zbt, zbl, zcg, Nat.reduceAdd, Nat.zero_add, zax, D.fix, Option.map_some, Option.bind_some, Nat.mul_one, List.getElem?_cons_zero, List.getElem?_cons_succ, List.length_cons, List.length_nil, iD, zay] <;> rfl) ?_
 simp -dsimp -implicitDefEqProofs (disch := first | omega | decide) only [q_r, ↓reduceIte, Nat.reduceEqDiff, oD]
 refine hK7 _ _ ?_
 refine zag rfl (fun ht => ?_) (fun ht => ?_)
 ·cases ht
 ·refine zan (hK6 _ _ ?_)
  refine zbx hp (τ' := frL [(1, .d (.fp (zc2 exN) 0)), (3, .d (.fp (zee wantN [4]) 0))]) (H' := []) ?_ ?_
  ·refine Rt.trans (Rt.gc (keep := []) (by decide) (by decide) (by simp [])) ?_
   refine Rt.end (zaa (zaa (zae _) rfl) rfl) ?_
   rfl
  refine zab hp zad hc rfl fun K8 hK8 => ?_
  simp -dsimp -implicitDefEqProofs (disch := first | omega | decide) only [q_r, zau, zam, zb7, zb0, ↓reduceIte, List.append_nil, List.replicate_zero, List.replicate_succ, AV.one, D.one, Value.oneCell', Nat.reduceEqDiff, iD, zay, Nat.reduceAdd, zau, Nat.zero_mul, Nat.reduceMul, List.flatten_cons, List.flatten_nil, zc2, zbh, zbg, zee, zf0, zgm, jlc, zxk, zxl, jlb, jg7, zgb]
  refine zk7 jr4 (by simp (disch := first | omega | decide) only [List.map_cons, List.map_nil, za1, za9, za7, zbt, zbl, zcg, Nat.reduceAdd, Nat.zero_add, zax, D.fix, Option.map_some, Option.bind_some, Nat.mul_one, List.getElem?_cons_zero, List.getElem?_cons_succ, List.length_cons, List.length_nil, iD, zay] <;> rfl) ?_
  simp -dsimp -implicitDefEqProofs (disch := first | omega | decide) only [q_r, zau, zb0, za6, ↓reduceIte, D.one, Value.oneCell', Nat.reduceEqDiff, iD, Nat.reduceAdd, zau, zui, zee, zk2, jb4]
  refine hK8 _ _ ?_
  refine zaf fun K9 hK9 => ?_
  refine zbx hp (τ' := frL [(1, .d (.fp (zc2 exN) 0)), (3, .d (.fp (zee wantN [4]) 0)), (5, .d (.fp (zee [⟨3, 0, 1⟩] [2, 0] ++ [iD 0]) 0))]) (H' := []) ?_ ?_
  ·refine Rt.trans (Rt.fz (id := 2) (l := zee [⟨3, 0, 1⟩] [2, 0] ++ [iD 0]) rfl) ?_
   refine Rt.trans (Rt.gc (keep := []) (by decide) (by decide) (by simp [fzH])) ?_
   refine Rt.end (zaa (zaa (zaa (zae _) rfl) rfl) rfl) ?_
   rfl
  refine zab hp zad hc rfl fun K10 hK10 => ?_
  simp -dsimp -implicitDefEqProofs (disch := first | omega | decide) only [q_r, zau, zam, zb7, zb0, ↓reduceIte, List.append_nil, List.replicate_zero, List.replicate_succ, AV.one, D.one, Value.oneCell', Nat.reduceEqDiff, iD, zay, Nat.reduceAdd, zau, Nat.zero_mul, Nat.reduceMul, List.flatten_cons, List.flatten_nil, zc2, zbh, zbg, zee, zk2, zv2, jb9, znv, zpw, zpx, jb8, jb2, zgb, zvz, jet, zxc, zvx, zv4, zpt, zv3]
  refine zk7 jsh (by simp (disch := first | omega | decide) only [za1, zcr, za9, za7, zbt, zbl, zcg, Nat.reduceAdd, Nat.zero_add, zax, D.fix, Option.map_some, Option.bind_some, Nat.mul_one, List.getElem?_cons_zero, List.getElem?_cons_succ, List.length_cons, List.length_nil] <;> rfl) ?_
  simp -dsimp -implicitDefEqProofs (disch := first | omega | decide) only [q_r, zau, zam, zb0, ↓reduceIte, List.replicate_zero, List.replicate_succ, Nat.reduceEqDiff, oD, Nat.reduceAdd, zau, zgb, zf0, zgm]
  refine zk7 jr5 (by simp (disch := first | omega | decide) only [List.map_cons, List.map_nil, za1, za9, za7, zbt, zbl, zcg, Nat.reduceAdd, Nat.zero_add, zax, D.fix, Option.map_some, Option.bind_some, Nat.mul_one, List.getElem?_cons_zero, List.getElem?_cons_succ, List.length_cons, List.length_nil, iD, zay] <;> rfl) ?_
  simp -dsimp -implicitDefEqProofs (disch := first | omega | decide) only [q_r, zau, zam, zkz, zfs, zd6, zb7, zb0, ↓reduceIte, List.append_nil, List.replicate_zero, List.replicate_succ, AV.one, D.one, Value.oneCell', Nat.reduceEqDiff, iD, Nat.reduceAdd, zau, Nat.zero_mul, Nat.reduceMul, List.flatten_cons, List.flatten_nil, zui, zee, bne_self_eq_false, zf0, zgm, jg7, zxf, jlc, zxk, zxl, jlb]
  refine zk7 jr6 (by simp (disch := first | omega | decide) only [za1, za9, za7, zbt, zbl, zcg, Nat.reduceAdd, Nat.zero_add, zax, D.fix, Option.map_some, Option.bind_some, List.getElem?_cons_zero, List.getElem?_cons_succ, List.length_cons, List.length_nil] <;> rfl) ?_
  simp -dsimp -implicitDefEqProofs (disch := first | omega | decide) only [q_r, zkz, zfs, zd6, ↓reduceIte, Nat.reduceEqDiff, iD, zui, zee, bne_self_eq_false, zxf]
  refine hK10 _ _ ?_
  refine zag rfl (fun ht => ?_) (fun ht => ?_)
  ·cases ht
  ·refine zan (hK9 _ _ ?_)
   refine zbx hp (τ' := frL [(3, .d (.fp (zee wantN [4]) 0))]) (H' := []) ?_ ?_
   ·refine Rt.trans (Rt.gc (keep := []) (by decide) (by decide) (by simp [])) ?_
    refine Rt.end (zaa (zae _) rfl) ?_
    rfl
   refine zab hp zad hc rfl fun K11 hK11 => ?_
   simp -dsimp -implicitDefEqProofs (disch := first | omega | decide) only [q_r, zam, ↓reduceIte, iD, zee, zc8, zds]
   refine zb9 (jse) rfl ?_
   simp -dsimp -implicitDefEqProofs (disch := first | omega | decide) only [q_r, zau, zb7, zb0, ↓reduceIte, List.replicate_zero, List.replicate_succ, D.one, Value.oneCell', Nat.reduceEqDiff, oD, Nat.reduceAdd, zau, zgb, zvz, zxc, zvx]
   refine zk7 jsf (by simp (disch := first | omega | decide) only [za1, zcr, za9, za7, zbt, zbl, zcg, Nat.reduceAdd, Nat.zero_add, zax, D.fix, Option.map_some, Option.bind_some, Nat.mul_one, List.getElem?_cons_zero, List.length_cons, List.length_nil] <;> rfl) ?_
   simp -dsimp -implicitDefEqProofs (disch := first | omega | decide) only [q_r, zau, zam, zb0, ↓reduceIte, List.replicate_zero, List.replicate_succ, Nat.reduceEqDiff, oD, Nat.reduceAdd, zau, zc8, zds, zmb]
   refine zk7 jsc (by simp (disch := first | omega | decide) only [List.map_cons, List.map_nil, za1, za9, za7, zbt, zbl, zcg, Nat.reduceAdd, Nat.zero_add, zax, D.fix, Option.map_some, Option.bind_some, Nat.mul_one, List.getElem?_cons_zero, List.getElem?_cons_succ, List.length_cons, List.length_nil, iD, oD, zas] <;> rfl) ?_
   simp -dsimp -implicitDefEqProofs (disch := first | omega | decide) only [q_r, zau, zam, zb0, ↓reduceIte, List.replicate_zero, List.replicate_succ, Nat.reduceEqDiff, oD, Nat.reduceAdd, zau, zc8, zds, zmb]
   refine zk7 jsd (by simp (disch := first | omega | decide) only [List.map_cons, List.map_nil, za1, za9, za7, zbt, zbl, zcg, Nat.reduceAdd, Nat.zero_add, zax, D.fix, Option.map_some, Option.bind_some, Nat.mul_one, List.getElem?_cons_zero, List.getElem?_cons_succ, List.length_cons, List.length_nil, iD, oD, zas] <;> rfl) ?_
   simp -dsimp -implicitDefEqProofs (disch := first | omega | decide) only [q_r, zam, ↓reduceIte, Nat.reduceEqDiff, oD, Nat.reduceAdd, zc8, zds]
   refine zb9 (jsa) rfl ?_
   simp -dsimp -implicitDefEqProofs (disch := first | omega | decide) only [q_r, zam, zkz, zfs, zd6, ↓reduceIte, Nat.reduceEqDiff, iD, Nat.reduceAdd, beq_self_eq_true, zc8, zds, jk7]
   refine zb9 (jr8) rfl ?_
   simp -dsimp -implicitDefEqProofs (disch := first | omega | decide) only [q_r, zkz, zfs, zd6, ↓reduceIte, Nat.reduceEqDiff, iD, zas, beq_self_eq_true, jk5]
   refine hK11 _ _ ?_
   refine zao ?_
   show zaj _ _ = _
   simp (disch := first | omega | decide) only [zaj, zct, za1, Nat.reduceAdd, Nat.zero_add, D.fix, zat, ↓reduceIte, Option.map_some, List.length_cons, List.length_nil, oD]
end Go.Proofs.Ytgfnpfchdlcoeaa
