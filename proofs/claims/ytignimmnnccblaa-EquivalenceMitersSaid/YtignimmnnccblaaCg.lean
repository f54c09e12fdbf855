/- The manager's export. -/
import Derived.Test.YtignimmnnccblaaQr
import Derived.Test.YtignimmnnccblaaCf
set_option linter.unusedVariables false
set_option linter.unusedSimpArgs false
set_option maxRecDepth 100000
set_option maxHeartbeats 4000000
namespace Go.Proofs.Ytignimmnnccblaa
open Go Go.RowKit
theorem zl6 : (((((type_of% @zhs) ∧ ((type_of% @zht) ∧ (type_of% @zeg))) ∧ ((type_of% @zeh) ∧ ((type_of% @zju) ∧ (type_of% @zjt)))) ∧ (((type_of% @zou) ∧ ((type_of% @zov) ∧ (type_of% @zow))) ∧ (((type_of% @zox) ∧ (type_of% @ji8)) ∧ ((type_of% @ji7) ∧ (type_of% @jgd))))) ∧ ((((type_of% @jge) ∧ ((type_of% @jqg) ∧ (type_of% @jqf))) ∧ (((type_of% @zde) ∧ (type_of% @zdf)) ∧ ((type_of% @zdg) ∧ (type_of% @zdq)))) ∧ (((type_of% @zex) ∧ ((type_of% @zey) ∧ (type_of% @zfa))) ∧ (((type_of% @zi8) ∧ (type_of% @zi9)) ∧ ((type_of% @zhq) ∧ (type_of% @zhr)))))) := ⟨⟨⟨⟨@zhs, ⟨@zht, @zeg⟩⟩, ⟨@zeh, ⟨@zju, @zjt⟩⟩⟩, ⟨⟨@zou, ⟨@zov, @zow⟩⟩, ⟨⟨@zox, @ji8⟩, ⟨@ji7, @jgd⟩⟩⟩⟩, ⟨⟨⟨@jge, ⟨@jqg, @jqf⟩⟩, ⟨⟨@zde, @zdf⟩, ⟨@zdg, @zdq⟩⟩⟩, ⟨⟨@zex, ⟨@zey, @zfa⟩⟩, ⟨⟨@zi8, @zi9⟩, ⟨@zhq, @zhr⟩⟩⟩⟩⟩
theorem jq7 (V : Nat) (ts : List T) (μu μm : Mp) (hr : RowOk V ts) (hl : ts.length ≤ zel) : ∀ (n : Nat) (f : T), f.sz ≤ n → juf V ts μu μm f
 | 0, f, h => by cases f <;> simp [T.sz] at h
 | n + 1, f, h => fun acc μn rs hf ha hs hN => js5 V ts μu μm hr hl f (fun s hs' => jq7 V ts μu μm hr hl n s (by omega)) acc μn rs hf ha hs hN
def zeq (fs : List T) : List T := fs.foldl (fun acc t => zd8 t acc) []
theorem zkw {fs : List T} {k : Nat} (h : k < fs.length) : zeq (fs.take (k + 1)) = zd8 (nth fs k) (zeq (fs.take k)) := by
 unfold zeq; rw [zdy h, List.foldl_append]; rfl
theorem jk8 (us : List T) : ∀ (fs : List T), us <+: fs.foldl (fun acc t => zd8 t acc) us := fun fs => by
 induction fs generalizing us with
 | nil => exact List.prefix_refl _
 | cons t fs ih => exact (zln t us).trans (ih _)
theorem zx0 (fs gs : List T) : zeq fs <+: zeq (fs ++ gs) := by
 unfold zeq; rw [List.foldl_append]; exact jk8 _ gs
theorem jjw {V : Nat} {us : List T} (hr : RowOk V us) : ∀ (fs : List T) (acc : List T), (∀ t ∈ fs, t ∈ zbq us) → RowOk V acc → (∀ s ∈ acc, s ∈ zbq us) → RowOk V (fs.foldl (fun acc t => zd8 t acc) acc) ∧ ∀ s ∈ fs.foldl (fun acc t => zd8 t acc) acc, s ∈ zbq us
 | [], acc, _, h1, h2 => ⟨h1, h2⟩
 | t :: fs, acc, hf, h1, h2 => by
  have ht := hf t (List.mem_cons_self ..)
  exact jjw hr fs (zd8 t acc) (fun s hs => hf s (List.mem_cons_of_mem _ hs)) (zlo t 0 acc (hr.okf ht) h1) (znn hr t acc ht h2)
theorem jdy {V : Nat} {us : List T} (hr : RowOk V us) {fs : List T} (h : ∀ t ∈ fs, t ∈ zbq us) : RowOk V (zeq fs) ∧ ∀ s ∈ zeq fs, s ∈ zbq us := jjw hr fs [] h (.nil V) fun s hs => by cases hs
theorem jgi {fs : List T} : ∀ {k : Nat}, k < fs.length → nth fs k ∈ zbq (zeq (fs.take (k + 1))) := fun {k} h => by rw [zkw h]; exact znm _ _
theorem zkx {fs : List T} {t : T} (h : t ∈ fs) : t ∈ zbq (zeq fs) := by
 obtain ⟨k, hk, rfl⟩ := List.getElem_of_mem h
 rw [← zb9 hk]
 have := zx0 (fs.take (k + 1)) (fs.drop (k + 1))
 rw [List.take_append_drop] at this
 exact zcb this (jgi hk)
def zby (ns : List Nd) (rs : List Nat) : List D := [.fs (ns.flatMap ndC) ns.length, .fs (rs.map zbw) rs.length]
def zbt (ns : List Nd) (rs : List Nat) : D := .agg (zby ns rs)
theorem jdz (l : List Nd) : ∀ y ∈ l.flatMap ndC, y.plain = true := fun y hy => by
 obtain ⟨n, _, h⟩ := List.mem_flatMap.1 hy
 simp only [ndC, List.mem_cons, List.not_mem_nil, or_false] at h
 rcases h with rfl | rfl | rfl <;> rfl
theorem jd0 (l : List Nat) : ∀ y ∈ l.map zbw, y.plain = true := fun y hy => by
 obtain ⟨n, _, rfl⟩ := List.mem_map.1 hy
 rfl
theorem zt6 (l : List Nat) : (l.map zbw).map D.fix = l.map zbw := zj6 (fun _ => rfl) l
theorem zfl {fn : Fn} {fi ca : List AV} : zcn (.clo fn fi ca) = some [.clo fn fi ca] := rfl
theorem k0 : zpz Try.prog tI (.int .i64 0) := jjv (n := 0) (by omega)
theorem k1 : zpz Try.prog tI (.int .i64 1) := jjv (n := 1) (by omega)
def μ01 : Mp := znz (.int .i64 1) (.int .i64 1) (znz (.int .i64 0) (.int .i64 0) ([], 0))
theorem n01 (ts : List T) : NOk ts [] μ01 := by
 refine ⟨((OkM.nil tI 0).put k0).put k1, fun t ht => ?_, fun k u hg => ?_⟩
 ·simp only [zbq, List.mem_cons, List.not_mem_nil, or_false] at ht
  rcases ht with rfl | rfl
  ·rw [zjk, zjk]; rfl
  ·rw [zp4, zp4]; rfl
 ·obtain ⟨n, hm⟩ := zkj hg
  have hm' : (k, n, u) ∈ [((Value.int .i64 0 : Value), 0, (Value.int .i64 0 : Value)), (.int .i64 1, 1, .int .i64 1)] := hm
  simp only [List.mem_cons, List.not_mem_nil, or_false, Prod.mk.injEq] at hm'
  rcases hm' with ⟨rfl, _⟩ | ⟨rfl, _⟩
  ·exact ⟨.leaf false, zhy _, by rw [zjk]; rfl⟩
  ·exact ⟨.leaf true, zp5 _, by rw [zp4]; rfl⟩
theorem zx1 (V : Nat) (ts : List T) (μu μm : Mp) (hr : RowOk V ts) (hl : ts.length ≤ zel) (fs : List T) (hf : ∀ t ∈ fs, t ∈ zbq ts) (hfl : fs.length ≤ 1000000) : zlu Try.prog 68 [zc0 ts μu μm, .fs (fs.map (zb1 ts)) fs.length] (.d (zbt (zlp (zeq fs)) (fs.map (num (zeq fs))))) := by
 refine zyq (fn := Try.f68) (by kernel_rfl) Try.func68 rfl (Nat.le_of_ble_eq_true rfl) fun c hc hp => ?_
 refine zbf (τ' := frL [(0, .d (zc0 ts μu μm)), (1, .d (.fs (fs.map (zb1 ts)) fs.length))]) (by repeat (first | exact zak _ | refine zah ?_ (by first | rfl | (simp [r_f, zai, zad, zan]; done) | simp [r_f, zai, zad, zan, *]))) ?_
 have hmd : D.one (zc0 ts μu μm) = true := rfl
 refine zac hp zaj hc rfl fun K1 hK1 => ?_
 simp -dsimp -implicitDefEqProofs (disch := first | assumption | omega | (simp only [r_z, zai, zad, zan] <;> omega) | decide) only [r_r, ↓reduceIte, Nat.reduceEqDiff, Nat.reduceAdd, D.fix, Int.reduceToNat, Nat.reduceMul, Nat.reduceBNe, Nat.reduceBEq, r_m, zd6, zbw, zb1, zfl, jur, hmd, zc0, zl6]
 refine hK1 _ _ ?_
 refine zac hp zaj hc rfl fun K2 hK2 => ?_
 simp -dsimp -implicitDefEqProofs (disch := first | assumption | omega | (simp only [r_z, zai, zad, zan] <;> omega) | decide) only [r_r, ↓reduceIte, Nat.reduceEqDiff, Nat.reduceAdd, D.fix, Int.reduceToNat, Nat.reduceMul, Nat.reduceBNe, Nat.reduceBEq, r_m, zd6, zbw, zb1, zfl, jcg mtI k0 (OkM.nil tI 0), jcg mtI k1 ((OkM.nil tI 0).put k0), zl6]
 refine hK2 _ _ ?_
 refine zac hp zaj hc rfl fun K3 hK3 => ?_
 simp -dsimp -implicitDefEqProofs (disch := first | assumption | omega | (simp only [r_z, zai, zad, zan] <;> omega) | decide) only [r_r, ↓reduceIte, Nat.reduceEqDiff, Nat.reduceAdd, D.fix, Int.reduceToNat, Nat.reduceMul, Nat.reduceBNe, Nat.reduceBEq, r_m, zd6, zbw, zb1, zfl, zl6]
 refine hK3 _ _ ?_
 refine zac hp zaj hc rfl fun K4 hK4 => ?_
 simp -dsimp -implicitDefEqProofs (disch := first | assumption | omega | (simp only [r_z, zai, zad, zan] <;> omega) | decide) only [r_r, ↓reduceIte, Nat.reduceEqDiff, Nat.reduceAdd, D.fix, Int.reduceToNat, Nat.reduceMul, Nat.reduceBNe, Nat.reduceBEq, r_m, zd6, zbw, zb1, zfl, zl6]
 refine hK4 _ _ ?_
 refine zac hp zaj hc rfl fun K5 hK5 => ?_
 simp -dsimp -implicitDefEqProofs (disch := first | assumption | omega | (simp only [r_z, zai, zad, zan] <;> omega) | decide) only [r_r, ↓reduceIte, Nat.reduceEqDiff, Nat.reduceAdd, D.fix, Int.reduceToNat, Nat.reduceMul, Nat.reduceBNe, Nat.reduceBEq, r_m, zd6, zbw, zb1, zfl, zl6]
 refine hK5 _ _ ?_
 refine zam fun K6 hK6 => ?_
 refine zac hp zaj hc rfl fun K7 hK7 => ?_
 simp -dsimp -implicitDefEqProofs (disch := first | assumption | omega | (simp only [r_z, zai, zad, zan] <;> omega) | decide) only [r_r, ↓reduceIte, Nat.reduceEqDiff, Nat.reduceAdd, D.fix, Int.reduceToNat, Nat.reduceMul, Nat.reduceBNe, Nat.reduceBEq, r_m, zd6, zbw, zb1, zfl, zl6]
 refine hK7 _ _ ?_
 refine zaz ?_
 refine za7 hp (fun τ' H' mm => ∃ (k : Nat) (μn : Mp) (rs : List Nat), (k ≤ fs.length ∧ NOk ts (zeq (fs.take k)) μn ∧ rs = (fs.take k).map (num (zeq (fs.take k)))) ∧ mm = fs.length - k ∧ H' = zd6 (zc0 ts μu μm) (zeq (fs.take k)) μn rs ++ [.cells [.d (.val (.slice none 0 0)), .d (.val (.slice none 0 0))]] ∧ τ' = frL [(4, .op 7 0), (6, .op 3 0), (7, .op 2 0), (13, .d (.fs (fs.map (zb1 ts)) fs.length)), (14, .d (iD fs.length)), (15, .d (iD k))]) (fs.length) ?_ ⟨0, μ01, [], ⟨Nat.zero_le _, n01 ts, rfl⟩, rfl, rfl, rfl⟩ ?_
 ·refine Rt.trans (Rt.nilc 4 0 3 rfl rfl) ?_
  refine Rt.trans (Rt.nilc 4 1 1 rfl rfl) ?_
  refine Rt.trans (Rt.gc (keep := [0,3,5,4,2,6,7,1]) (by decide) (by decide) (by simp [fzH, gcH])) ?_
  refine Rt.end (by repeat (first | exact zak _ | refine zah ?_ (by first | rfl | (simp [r_f, zai, zad, zan]; done) | simp [r_f, zai, zad, zan, *]))) ?_
  first | rfl | (simp only [r_g, Nat.reduceAdd, ↓reduceIte, Nat.reduceEqDiff, r_m, zd6, zbw, zb1, zfl]; first | done | rfl)
 rintro τ' H' mm ⟨k, μn, rs, ⟨hk, hN, hrs⟩, rfl, rfl, rfl⟩
 refine zac hp zaj hc rfl fun K8 hK8 => ?_
 simp -dsimp -implicitDefEqProofs (disch := first | assumption | omega | (simp only [r_z, zai, zad, zan] <;> omega) | decide) only [r_r, ↓reduceIte, Nat.reduceEqDiff, Nat.reduceAdd, D.fix, Int.reduceToNat, Nat.reduceMul, Nat.reduceBNe, Nat.reduceBEq, r_m, zd6, zbw, zb1, zfl, zl6]
 refine hK8 _ _ ?_
 refine zam fun K9 hK9 => ?_
 refine zaq rfl (fun ht => ?_) (fun ht => ?_)
 ·have hlt : k < fs.length := by simp at ht; omega
  have hft : ∀ t ∈ fs.take k, t ∈ zbq ts := fun t h => hf t (List.mem_of_mem_take h)
  obtain ⟨ra, sa⟩ := jdy hr hft
  have hfk := hf _ (zb3 hlt)
  have hrl : rs.length = k := by rw [hrs]; simp; omega
  refine zay (hK9 _ _ ?_)
  refine zam fun K10 hK10 => ?_
  refine zaz ?_
  refine zac hp zaj hc rfl fun K11 hK11 => ?_
  simp -dsimp -implicitDefEqProofs (disch := first | assumption | omega | (simp only [r_z, zai, zad, zan] <;> omega) | decide) only [r_r, ↓reduceIte, Nat.reduceEqDiff, Nat.reduceAdd, D.fix, Int.reduceToNat, Nat.reduceMul, Nat.reduceBNe, Nat.reduceBEq, r_m, zd6, zbw, zb1, zfl, zl6]
  refine hK11 _ _ ?_
  refine znf zaj hp hc mixed rfl [(0, []), (1, []), (2, []), (3, []), (4, [1]), (5, []), (6, []), (7, []), (8, [])] [[], [0], [], [], [2, 3], [2, 3, 4], [0, 1, 2, 3, 4, 5], [0, 1, 2, 3, 4, 5, 6], [0, 1, 2, 3, 4, 5, 6, 7]] 1 (by kernel_rfl) fun K12 hK12 => ?_
  simp -dsimp -implicitDefEqProofs (disch := first | assumption | omega | (simp only [r_z, zai, zad, zan] <;> omega) | decide) only [r_r, ↓reduceIte, Nat.reduceEqDiff, Nat.reduceAdd, D.fix, Int.reduceToNat, Nat.reduceMul, Nat.reduceBNe, Nat.reduceBEq, r_w, r_m, zd6, zbw, zb1, zfl, zl6]
  refine zot (S := zd6 (zc0 ts μu μm) (zeq (fs.take k)) μn rs) (T := [.cells [.d (.val (.slice none 0 0)), .d (.val (.slice none 0 0))], .free]) (jq7 V ts μu μm hr hl _ (nth fs k) (Nat.le_refl _) (zeq (fs.take k)) μn _ hfk ra sa hN) rfl (Nat.le_of_ble_eq_true rfl) (by first | rfl | (simp [AV.allIs, AV.allI, za1, zat, zau, okI, ltI, zao, zbb, zd6]; done) | (intro o ho; simp at ho; done)) (fun t => zbr (by first | rfl | (simp [AV.allIs, AV.allI, za1, zat, zau, okI, ltI, zao, zbb, zd6]; done) | (intro o ho; simp at ho; done)) t) (fun t => zbr (by first | rfl | (simp [AV.allIs, AV.allI, za1, zat, zau, okI, ltI, zao, zbb, zd6]; done) | (intro o ho; simp at ho; done)) t) (by first | rfl | (simp [AV.allIs, AV.allI, za1, zat, zau, okI, ltI, zao, zbb, zd6]; done) | (intro o ho; simp at ho; done)) (by first | rfl | (simp [AV.allIs, AV.allI, za1, zat, zau, okI, ltI, zao, zbb, zd6]; done) | (intro o ho; simp at ho; done)) (by first | rfl | (simp [AV.allIs, AV.allI, za1, zat, zau, okI, ltI, zao, zbb, zd6]; done) | (intro o ho; simp at ho; done)) ?_
  rintro _ _ ⟨μn1, rfl, rfl, hN1⟩
  refine ⟨rfl, ?_⟩
  simp -dsimp -implicitDefEqProofs (disch := first | assumption | omega | (simp only [r_z, zai, zad, zan] <;> omega) | decide) only [r_r, ↓reduceIte, Nat.reduceEqDiff, Nat.reduceAdd, D.fix, Int.reduceToNat, Nat.reduceMul, Nat.reduceBNe, Nat.reduceBEq, r_w, r_m, zd6, zbw, zb1, zfl, zl6]
  refine hK12 _ _ (hK10 _ _ ?_)
  refine zbo hp zaj hc rfl fun K13 hK13 => ?_
  simp -dsimp -implicitDefEqProofs (disch := first | assumption | omega | (simp only [r_z, zai, zad, zan] <;> omega) | decide) only [r_r, ↓reduceIte, Nat.reduceEqDiff, Nat.reduceAdd, D.fix, Int.reduceToNat, Nat.reduceMul, Nat.reduceBNe, Nat.reduceBEq, r_m, zd6, zbw, zb1, zfl, zl6]
  have hr' : rs ++ [num (zd8 (nth fs k) (zeq (fs.take k))) (nth fs k)] = (fs.take (k + 1)).map (num (zeq (fs.take (k + 1)))) := by
   rw [zdy hlt, List.map_append, ← zdy hlt, zkw hlt, hrs]
   congr 1
   exact List.map_congr_left fun t ht => (zdr (zln _ _) (zkx ht)).symm
  have hN' : NOk ts (zeq (fs.take (k + 1))) μn1 := by rw [zkw hlt]; exact hN1
  refine hK13 _ _ ⟨_, _, _, ?_, ⟨k + 1, μn1, rs ++ [num (zd8 (nth fs k) (zeq (fs.take k))) (nth fs k)], ⟨by omega, hN', hr'⟩, rfl, rfl, rfl⟩, ?_⟩
  ·first | omega | (simp only [List.length_cons]; omega) | (dsimp only; omega)
  ·refine Rt.trans (Rt.gc (keep := [0,1,2,3,4,5,9,7]) (by decide) (by decide) (by simp [fzH, gcH])) ?_
   refine Rt.end (by repeat (first | exact zak _ | refine zah ?_ (by first | rfl | (simp [r_f, zai, zad, zan]; done) | simp [r_f, zai, zad, zan, *]))) ?_
   simp only [r_g, Nat.reduceAdd, ↓reduceIte, Nat.reduceEqDiff, r_m, zd6, zbw, zb1, zfl]; rw [zkw hlt]; simp [avs, zbw, iD]
 ·have hkk : k = fs.length := by simp at ht; omega
  subst hkk
  rw [List.take_length] at hN hrs ⊢
  refine zbj (hK6 _ _ ?_)
  refine zac hp zaj hc rfl fun K14 hK14 => ?_
  simp -dsimp -implicitDefEqProofs (disch := first | assumption | omega | (simp only [r_z, zai, zad, zan] <;> omega) | decide) only [r_r, ↓reduceIte, Nat.reduceEqDiff, Nat.reduceAdd, D.fix, Int.reduceToNat, Nat.reduceMul, Nat.reduceBNe, Nat.reduceBEq, r_m, zd6, zbw, zb1, zfl, zl6]
  refine hK14 _ _ ?_
  refine za4 ?_
  try dsimp only [zjj, zc3]
  refine zdo rfl ?_
  simp -dsimp -implicitDefEqProofs (disch := first | assumption | omega | (simp only [r_z, zai, zad, zan] <;> omega) | decide) only [r_r, ↓reduceIte, Nat.reduceEqDiff, Nat.reduceAdd, D.fix, Int.reduceToNat, Nat.reduceMul, Nat.reduceBNe, Nat.reduceBEq, r_m, zd6, zbw, zb1, zfl, zeg, zeh]
  show closeN _ _ = _
  simp (disch := first | assumption | omega | (simp only [r_z, zai, zad, zan] <;> omega) | decide) only [r_c, Nat.reduceAdd, D.fix, ↓reduceIte, Nat.reduceEqDiff, r_m, zd6, zbw, zb1, zfl, jpc, jk3, jch, jft, zv0 (jdz _), zv0 (jd0 _)]
  simp [zbt, zby, ziu, zt6, zan, hrs]
  exact fun _ _ => rfl
end Go.Proofs.Ytignimmnnccblaa
