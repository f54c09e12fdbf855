/- The manager's export. -/
import Derived.Test.YtignimmnnccblaaQr
import Derived.Test.YtignimmnnccblaaCf
set_option linter.unusedVariables false
set_option linter.unusedSimpArgs false
set_option maxRecDepth 100000
set_option maxHeartbeats 4000000
namespace Go.Proofs.Ytignimmnnccblaa
open Go Go.RowKit
theorem zl7 : (((((type_of% @zhs) ∧ ((type_of% @zht) ∧ (type_of% @zei))) ∧ ((type_of% @zej) ∧ ((type_of% @zj1) ∧ (type_of% @zj0)))) ∧ (((type_of% @zo0) ∧ ((type_of% @zo1) ∧ (type_of% @zo2))) ∧ (((type_of% @zo3) ∧ (type_of% @ji4)) ∧ ((type_of% @ji3) ∧ (type_of% @jf9))))) ∧ ((((type_of% @jga) ∧ ((type_of% @jpp) ∧ (type_of% @jpo))) ∧ (((type_of% @zdf) ∧ (type_of% @zdg)) ∧ ((type_of% @zdh) ∧ (type_of% @zdq)))) ∧ (((type_of% @ze9) ∧ ((type_of% @zfa) ∧ (type_of% @zfc))) ∧ (((type_of% @zi7) ∧ (type_of% @zi8)) ∧ ((type_of% @zhq) ∧ (type_of% @zhr)))))) := ⟨⟨⟨⟨@zhs, ⟨@zht, @zei⟩⟩, ⟨@zej, ⟨@zj1, @zj0⟩⟩⟩, ⟨⟨@zo0, ⟨@zo1, @zo2⟩⟩, ⟨⟨@zo3, @ji4⟩, ⟨@ji3, @jf9⟩⟩⟩⟩, ⟨⟨⟨@jga, ⟨@jpp, @jpo⟩⟩, ⟨⟨@zdf, @zdg⟩, ⟨@zdh, @zdq⟩⟩⟩, ⟨⟨@ze9, ⟨@zfa, @zfc⟩⟩, ⟨⟨@zi7, @zi8⟩, ⟨@zhq, @zhr⟩⟩⟩⟩⟩
theorem jqg (V : Nat) (ts : List T) (μu μm : Mp) (hr : RowOk V ts) (hl : ts.length ≤ zeo) : ∀ (n : Nat) (f : T), f.sz ≤ n → jtm V ts μu μm f
 | 0, f, h => by cases f <;> simp [T.sz] at h
 | n + 1, f, h => fun acc μn rs hf ha hs hN => jse V ts μu μm hr hl f (fun s hs' => jqg V ts μu μm hr hl n s (by omega)) acc μn rs hf ha hs hN
def zem (fs : List T) : List T := fs.foldl (fun acc t => zea t acc) []
theorem zkv {fs : List T} {k : Nat} (h : k < fs.length) : zem (fs.take (k + 1)) = zea (nth fs k) (zem (fs.take k)) := by
 unfold zem; rw [zee h, List.foldl_append]; rfl
theorem jkz (us : List T) : ∀ (fs : List T), us <+: fs.foldl (fun acc t => zea t acc) us := fun fs => by
 induction fs generalizing us with
 | nil => exact List.prefix_refl _
 | cons t fs ih => exact (zlm t us).trans (ih _)
theorem zx3 (fs gs : List T) : zem fs <+: zem (fs ++ gs) := by
 unfold zem; rw [List.foldl_append]; exact jkz _ gs
theorem jjr {V : Nat} {us : List T} (hr : RowOk V us) : ∀ (fs : List T) (acc : List T), (∀ t ∈ fs, t ∈ zbu us) → RowOk V acc → (∀ s ∈ acc, s ∈ zbu us) → RowOk V (fs.foldl (fun acc t => zea t acc) acc) ∧ ∀ s ∈ fs.foldl (fun acc t => zea t acc) acc, s ∈ zbu us
 | [], acc, _, h1, h2 => ⟨h1, h2⟩
 | t :: fs, acc, hf, h1, h2 => by
  have ht := hf t (List.mem_cons_self ..)
  exact jjr hr fs (zea t acc) (fun s hs => hf s (List.mem_cons_of_mem _ hs)) (zln t 0 acc (hr.okf ht) h1) (znn hr t acc ht h2)
theorem jdc {V : Nat} {us : List T} (hr : RowOk V us) {fs : List T} (h : ∀ t ∈ fs, t ∈ zbu us) : RowOk V (zem fs) ∧ ∀ s ∈ zem fs, s ∈ zbu us := jjr hr fs [] h (.nil V) fun s hs => by cases hs
theorem jgg {fs : List T} : ∀ {k : Nat}, k < fs.length → nth fs k ∈ zbu (zem (fs.take (k + 1))) := fun {k} h => by rw [zkv h]; exact znm _ _
theorem zg7 {fs : List T} {t : T} (h : t ∈ fs) : t ∈ zbu (zem fs) := by
 obtain ⟨k, hk, rfl⟩ := List.getElem_of_mem h
 rw [← zb9 hk]
 have := zx3 (fs.take (k + 1)) (fs.drop (k + 1))
 rw [List.take_append_drop] at this
 exact zcc this (jgg hk)
def zb2 (ns : List Nd) (rs : List Nat) : List D := [.fs (ns.flatMap ndC) ns.length, .fs (rs.map zb1) rs.length]
def zby (ns : List Nd) (rs : List Nat) : D := .agg (zb2 ns rs)
theorem jdd (l : List Nd) : ∀ y ∈ l.flatMap ndC, y.plain = true := fun y hy => by
 obtain ⟨n, _, h⟩ := List.mem_flatMap.1 hy
 simp only [ndC, List.mem_cons, List.not_mem_nil, or_false] at h
 rcases h with rfl | rfl | rfl <;> rfl
theorem jde (l : List Nat) : ∀ y ∈ l.map zb1, y.plain = true := fun y hy => by
 obtain ⟨n, _, rfl⟩ := List.mem_map.1 hy
 rfl
theorem zue (l : List Nat) : (l.map zb1).map D.fix = l.map zb1 := zkd (fun _ => rfl) l
theorem zfd {fn : Fn} {fi ca : List AV} : zcm (.clo fn fi ca) = some [.clo fn fi ca] := rfl
theorem k0 : zp5 Try.prog tI (.int .i64 0) := jjq (n := 0) (by omega)
theorem k1 : zp5 Try.prog tI (.int .i64 1) := jjq (n := 1) (by omega)
def μ01 : Mp := zny (.int .i64 1) (.int .i64 1) (zny (.int .i64 0) (.int .i64 0) ([], 0))
theorem n01 (ts : List T) : NOk ts [] μ01 := by
 refine ⟨((OkM.nil tI 0).put k0).put k1, fun t ht => ?_, fun k u hg => ?_⟩
 ·simp only [zbu, List.mem_cons, List.not_mem_nil, or_false] at ht
  rcases ht with rfl | rfl
  ·rw [zjj, zjj]; rfl
  ·rw [zqa, zqa]; rfl
 ·obtain ⟨n, hm⟩ := zkq hg
  have hm' : (k, n, u) ∈ [((Value.int .i64 0 : Value), 0, (Value.int .i64 0 : Value)), (.int .i64 1, 1, .int .i64 1)] := hm
  simp only [List.mem_cons, List.not_mem_nil, or_false, Prod.mk.injEq] at hm'
  rcases hm' with ⟨rfl, _⟩ | ⟨rfl, _⟩
  ·exact ⟨.leaf false, zhx _, by rw [zjj]; rfl⟩
  ·exact ⟨.leaf true, zqb _, by rw [zqa]; rfl⟩
theorem zx4 (V : Nat) (ts : List T) (μu μm : Mp) (hr : RowOk V ts) (hl : ts.length ≤ zeo) (fs : List T) (hf : ∀ t ∈ fs, t ∈ zbu ts) (hfl : fs.length ≤ 1000000) : zlu Try.prog 68 [zcz ts μu μm, .fs (fs.map (zb4 ts)) fs.length] (.d (zby (zlo (zem fs)) (fs.map (num (zem fs))))) := by
 refine zyt (fn := Try.f68) (by kernel_rfl) Try.func68 rfl (Nat.le_of_ble_eq_true rfl) fun c hc hp => ?_
 refine zbk (τ' := frL [(0, .d (zcz ts μu μm)), (1, .d (.fs (fs.map (zb4 ts)) fs.length))]) (by repeat (first | exact zal _ | refine zai ?_ (by first | rfl | (simp [r_f, zah, zae, zam]; done) | simp [r_f, zah, zae, zam, *]))) ?_
 have hmd : D.one (zcz ts μu μm) = true := rfl
 refine zac hp zaj hc rfl fun K1 hK1 => ?_
 simp -dsimp -implicitDefEqProofs (disch := first | assumption | omega | (simp only [r_z, zah, zae, zam] <;> omega) | decide) only [r_r, ↓reduceIte, Nat.reduceEqDiff, Nat.reduceAdd, D.fix, Int.reduceToNat, Nat.reduceMul, Nat.reduceBNe, Nat.reduceBEq, r_m, zd8, zb1, zb4, zfd, jtx, hmd, zcz, zl7]
 refine hK1 _ _ ?_
 refine zac hp zaj hc rfl fun K2 hK2 => ?_
 simp -dsimp -implicitDefEqProofs (disch := first | assumption | omega | (simp only [r_z, zah, zae, zam] <;> omega) | decide) only [r_r, ↓reduceIte, Nat.reduceEqDiff, Nat.reduceAdd, D.fix, Int.reduceToNat, Nat.reduceMul, Nat.reduceBNe, Nat.reduceBEq, r_m, zd8, zb1, zb4, zfd, jb4 mtI k0 (OkM.nil tI 0), jb4 mtI k1 ((OkM.nil tI 0).put k0), zl7]
 refine hK2 _ _ ?_
 refine zac hp zaj hc rfl fun K3 hK3 => ?_
 simp -dsimp -implicitDefEqProofs (disch := first | assumption | omega | (simp only [r_z, zah, zae, zam] <;> omega) | decide) only [r_r, ↓reduceIte, Nat.reduceEqDiff, Nat.reduceAdd, D.fix, Int.reduceToNat, Nat.reduceMul, Nat.reduceBNe, Nat.reduceBEq, r_m, zd8, zb1, zb4, zfd, zl7]
 refine hK3 _ _ ?_
 refine zac hp zaj hc rfl fun K4 hK4 => ?_
 simp -dsimp -implicitDefEqProofs (disch := first | assumption | omega | (simp only [r_z, zah, zae, zam] <;> omega) | decide) only [r_r, ↓reduceIte, Nat.reduceEqDiff, Nat.reduceAdd, D.fix, Int.reduceToNat, Nat.reduceMul, Nat.reduceBNe, Nat.reduceBEq, r_m, zd8, zb1, zb4, zfd, zl7]
 refine hK4 _ _ ?_
 refine zac hp zaj hc rfl fun K5 hK5 => ?_
 simp -dsimp -implicitDefEqProofs (disch := first | assumption | omega | (simp only [r_z, zah, zae, zam] <;> omega) | decide) only [r_r, ↓reduceIte, Nat.reduceEqDiff, Nat.reduceAdd, D.fix, Int.reduceToNat, Nat.reduceMul, Nat.reduceBNe, Nat.reduceBEq, r_m, zd8, zb1, zb4, zfd, zl7]
 refine hK5 _ _ ?_
 refine zan fun K6 hK6 => ?_
 refine zac hp zaj hc rfl fun K7 hK7 => ?_
 simp -dsimp -implicitDefEqProofs (disch := first | assumption | omega | (simp only [r_z, zah, zae, zam] <;> omega) | decide) only [r_r, ↓reduceIte, Nat.reduceEqDiff, Nat.reduceAdd, D.fix, Int.reduceToNat, Nat.reduceMul, Nat.reduceBNe, Nat.reduceBEq, r_m, zd8, zb1, zb4, zfd, zl7]
 refine hK7 _ _ ?_
 refine za1 ?_
 refine zbd hp (fun τ' H' mm => ∃ (k : Nat) (μn : Mp) (rs : List Nat), (k ≤ fs.length ∧ NOk ts (zem (fs.take k)) μn ∧ rs = (fs.take k).map (num (zem (fs.take k)))) ∧ mm = fs.length - k ∧ H' = zd8 (zcz ts μu μm) (zem (fs.take k)) μn rs ++ [.cells [.d (.val (.slice none 0 0)), .d (.val (.slice none 0 0))]] ∧ τ' = frL [(4, .op 7 0), (6, .op 3 0), (7, .op 2 0), (13, .d (.fs (fs.map (zb4 ts)) fs.length)), (14, .d (iD fs.length)), (15, .d (iD k))]) (fs.length) ?_ ⟨0, μ01, [], ⟨Nat.zero_le _, n01 ts, rfl⟩, rfl, rfl, rfl⟩ ?_
 ·refine Rt.trans (Rt.nilc 4 0 3 rfl rfl) ?_
  refine Rt.trans (Rt.nilc 4 1 1 rfl rfl) ?_
  refine Rt.trans (Rt.gc (keep := [0,3,5,4,2,6,7,1]) (by decide) (by decide) (by simp [fzH, gcH])) ?_
  refine Rt.end (by repeat (first | exact zal _ | refine zai ?_ (by first | rfl | (simp [r_f, zah, zae, zam]; done) | simp [r_f, zah, zae, zam, *]))) ?_
  first | rfl | (simp only [r_g, Nat.reduceAdd, ↓reduceIte, Nat.reduceEqDiff, r_m, zd8, zb1, zb4, zfd]; first | done | rfl)
 rintro τ' H' mm ⟨k, μn, rs, ⟨hk, hN, hrs⟩, rfl, rfl, rfl⟩
 refine zac hp zaj hc rfl fun K8 hK8 => ?_
 simp -dsimp -implicitDefEqProofs (disch := first | assumption | omega | (simp only [r_z, zah, zae, zam] <;> omega) | decide) only [r_r, ↓reduceIte, Nat.reduceEqDiff, Nat.reduceAdd, D.fix, Int.reduceToNat, Nat.reduceMul, Nat.reduceBNe, Nat.reduceBEq, r_m, zd8, zb1, zb4, zfd, zl7]
 refine hK8 _ _ ?_
 refine zan fun K9 hK9 => ?_
 refine zap rfl (fun ht => ?_) (fun ht => ?_)
 ·have hlt : k < fs.length := by simp at ht; omega
  have hft : ∀ t ∈ fs.take k, t ∈ zbu ts := fun t h => hf t (List.mem_of_mem_take h)
  obtain ⟨ra, sa⟩ := jdc hr hft
  have hfk := hf _ (zb6 hlt)
  have hrl : rs.length = k := by rw [hrs]; simp; omega
  refine za0 (hK9 _ _ ?_)
  refine zan fun K10 hK10 => ?_
  refine za1 ?_
  refine zac hp zaj hc rfl fun K11 hK11 => ?_
  simp -dsimp -implicitDefEqProofs (disch := first | assumption | omega | (simp only [r_z, zah, zae, zam] <;> omega) | decide) only [r_r, ↓reduceIte, Nat.reduceEqDiff, Nat.reduceAdd, D.fix, Int.reduceToNat, Nat.reduceMul, Nat.reduceBNe, Nat.reduceBEq, r_m, zd8, zb1, zb4, zfd, zl7]
  refine hK11 _ _ ?_
  refine zng zaj hp hc mixed rfl [(0, []), (1, []), (2, []), (3, []), (4, [1]), (5, []), (6, []), (7, []), (8, [])] [[], [0], [], [], [2, 3], [2, 3, 4], [0, 1, 2, 3, 4, 5], [0, 1, 2, 3, 4, 5, 6], [0, 1, 2, 3, 4, 5, 6, 7]] 1 (by kernel_rfl) fun K12 hK12 => ?_
  simp -dsimp -implicitDefEqProofs (disch := first | assumption | omega | (simp only [r_z, zah, zae, zam] <;> omega) | decide) only [r_r, ↓reduceIte, Nat.reduceEqDiff, Nat.reduceAdd, D.fix, Int.reduceToNat, Nat.reduceMul, Nat.reduceBNe, Nat.reduceBEq, r_w, r_m, zd8, zb1, zb4, zfd, zl7]
  refine zoz (S := zd8 (zcz ts μu μm) (zem (fs.take k)) μn rs) (T := [.cells [.d (.val (.slice none 0 0)), .d (.val (.slice none 0 0))], .free]) (jqg V ts μu μm hr hl _ (nth fs k) (Nat.le_refl _) (zem (fs.take k)) μn _ hfk ra sa hN) rfl (Nat.le_of_ble_eq_true rfl) (by first | rfl | (simp [AV.allIs, AV.allI, za3, zat, zau, okI, ltI, zao, zbb, zd8]; done) | (intro o ho; simp at ho; done)) (fun t => zbv (by first | rfl | (simp [AV.allIs, AV.allI, za3, zat, zau, okI, ltI, zao, zbb, zd8]; done) | (intro o ho; simp at ho; done)) t) (fun t => zbv (by first | rfl | (simp [AV.allIs, AV.allI, za3, zat, zau, okI, ltI, zao, zbb, zd8]; done) | (intro o ho; simp at ho; done)) t) (by first | rfl | (simp [AV.allIs, AV.allI, za3, zat, zau, okI, ltI, zao, zbb, zd8]; done) | (intro o ho; simp at ho; done)) (by first | rfl | (simp [AV.allIs, AV.allI, za3, zat, zau, okI, ltI, zao, zbb, zd8]; done) | (intro o ho; simp at ho; done)) (by first | rfl | (simp [AV.allIs, AV.allI, za3, zat, zau, okI, ltI, zao, zbb, zd8]; done) | (intro o ho; simp at ho; done)) ?_
  rintro _ _ ⟨μn1, rfl, rfl, hN1⟩
  refine ⟨rfl, ?_⟩
  simp -dsimp -implicitDefEqProofs (disch := first | assumption | omega | (simp only [r_z, zah, zae, zam] <;> omega) | decide) only [r_r, ↓reduceIte, Nat.reduceEqDiff, Nat.reduceAdd, D.fix, Int.reduceToNat, Nat.reduceMul, Nat.reduceBNe, Nat.reduceBEq, r_w, r_m, zd8, zb1, zb4, zfd, zl7]
  refine hK12 _ _ (hK10 _ _ ?_)
  refine zbt hp zaj hc rfl fun K13 hK13 => ?_
  simp -dsimp -implicitDefEqProofs (disch := first | assumption | omega | (simp only [r_z, zah, zae, zam] <;> omega) | decide) only [r_r, ↓reduceIte, Nat.reduceEqDiff, Nat.reduceAdd, D.fix, Int.reduceToNat, Nat.reduceMul, Nat.reduceBNe, Nat.reduceBEq, r_m, zd8, zb1, zb4, zfd, zl7]
  have hr' : rs ++ [num (zea (nth fs k) (zem (fs.take k))) (nth fs k)] = (fs.take (k + 1)).map (num (zem (fs.take (k + 1)))) := by
   rw [zee hlt, List.map_append, ← zee hlt, zkv hlt, hrs]
   congr 1
   exact List.map_congr_left fun t ht => (zdr (zlm _ _) (zg7 ht)).symm
  have hN' : NOk ts (zem (fs.take (k + 1))) μn1 := by rw [zkv hlt]; exact hN1
  refine hK13 _ _ ⟨_, _, _, ?_, ⟨k + 1, μn1, rs ++ [num (zea (nth fs k) (zem (fs.take k))) (nth fs k)], ⟨by omega, hN', hr'⟩, rfl, rfl, rfl⟩, ?_⟩
  ·first | omega | (simp only [List.length_cons]; omega) | (dsimp only; omega)
  ·refine Rt.trans (Rt.gc (keep := [0,1,2,3,4,5,9,7]) (by decide) (by decide) (by simp [fzH, gcH])) ?_
   refine Rt.end (by repeat (first | exact zal _ | refine zai ?_ (by first | rfl | (simp [r_f, zah, zae, zam]; done) | simp [r_f, zah, zae, zam, *]))) ?_
   simp only [r_g, Nat.reduceAdd, ↓reduceIte, Nat.reduceEqDiff, r_m, zd8, zb1, zb4, zfd]; rw [zkv hlt]; simp [avs, zb1, iD]
 ·have hkk : k = fs.length := by simp at ht; omega
  subst hkk
  rw [List.take_length] at hN hrs ⊢
  refine zbl (hK6 _ _ ?_)
  refine zac hp zaj hc rfl fun K14 hK14 => ?_
  simp -dsimp -implicitDefEqProofs (disch := first | assumption | omega | (simp only [r_z, zah, zae, zam] <;> omega) | decide) only [r_r, ↓reduceIte, Nat.reduceEqDiff, Nat.reduceAdd, D.fix, Int.reduceToNat, Nat.reduceMul, Nat.reduceBNe, Nat.reduceBEq, r_m, zd8, zb1, zb4, zfd, zl7]
  refine hK14 _ _ ?_
  refine za6 ?_
  try dsimp only [zji, zc2]
  refine zdo rfl ?_
  simp -dsimp -implicitDefEqProofs (disch := first | assumption | omega | (simp only [r_z, zah, zae, zam] <;> omega) | decide) only [r_r, ↓reduceIte, Nat.reduceEqDiff, Nat.reduceAdd, D.fix, Int.reduceToNat, Nat.reduceMul, Nat.reduceBNe, Nat.reduceBEq, r_m, zd8, zb1, zb4, zfd, zei, zej]
  show closeN _ _ = _
  simp (disch := first | assumption | omega | (simp only [r_z, zah, zae, zam] <;> omega) | decide) only [r_c, Nat.reduceAdd, D.fix, ↓reduceIte, Nat.reduceEqDiff, r_m, zd8, zb1, zb4, zfd, jos, jku, jb5, jfg, zv4 (jdd _), zv4 (jde _)]
  simp [zby, zb2, zir, zue, zam, hrs]
  exact fun _ _ => rfl
end Go.Proofs.Ytignimmnnccblaa
