/- The manager's export. -/
import Derived.Test.YtgfnpfchdlcoeaaQr
import Derived.Test.YtgfnpfchdlcoeaaQ
import Derived.Test.YtgfnpfchdlcoeaaCf
set_option linter.unusedVariables false
set_option linter.unusedSimpArgs false
set_option maxRecDepth 100000
set_option maxHeartbeats 4000000
namespace Go.Proofs.Ytgfnpfchdlcoeaa
open Go Go.RowKit
theorem jpa (V : Nat) (ts : List T) (μu μm : Mp) (hr : RowOk V ts) (hl : ts.length ≤ zed) : ∀ (n : Nat) (f : T), f.sz ≤ n → jta V ts μu μm f
 | 0, f, h => by cases f <;> simp [T.sz] at h
 | n + 1, f, h => fun acc μn rs hf ha hs hN => jrq V ts μu μm hr hl f (fun s hs' => jpa V ts μu μm hr hl n s (by omega)) acc μn rs hf ha hs hN
def zd1 (fs : List T) : List T := fs.foldl (fun acc t => zeu t acc) []
theorem zh1 {fs : List T} {k : Nat} (h : k < fs.length) : zd1 (fs.take (k + 1)) = zeu (nth fs k) (zd1 (fs.take k)) := by
 unfold zd1; rw [zel h, List.foldl_append]; rfl
theorem jll (us : List T) : ∀ (fs : List T), us <+: fs.foldl (fun acc t => zeu t acc) us := fun fs => by
 induction fs generalizing us with
 | nil => exact List.prefix_refl _
 | cons t fs ih => exact (zjt t us).trans (ih _)
theorem zt7 (fs gs : List T) : zd1 fs <+: zd1 (fs ++ gs) := by
 unfold zd1; rw [List.foldl_append]; exact jll _ gs
theorem jjq {V : Nat} {us : List T} (hr : RowOk V us) : ∀ (fs : List T) (acc : List T), (∀ t ∈ fs, t ∈ zbn us) → RowOk V acc → (∀ s ∈ acc, s ∈ zbn us) → RowOk V (fs.foldl (fun acc t => zeu t acc) acc) ∧ ∀ s ∈ fs.foldl (fun acc t => zeu t acc) acc, s ∈ zbn us
 | [], acc, _, h1, h2 => ⟨h1, h2⟩
 | t :: fs, acc, hf, h1, h2 => by
  have ht := hf t (List.mem_cons_self ..)
  exact jjq hr fs (zeu t acc) (fun s hs => hf s (List.mem_cons_of_mem _ hs)) (zio t 0 acc (hr.okf ht) h1) (zp2 hr t acc ht h2)
theorem jfa {V : Nat} {us : List T} (hr : RowOk V us) {fs : List T} (h : ∀ t ∈ fs, t ∈ zbn us) : RowOk V (zd1 fs) ∧ ∀ s ∈ zd1 fs, s ∈ zbn us := jjq hr fs [] h (.nil V) fun s hs => by cases hs
theorem jh2 {fs : List T} : ∀ {k : Nat}, k < fs.length → nth fs k ∈ zbn (zd1 (fs.take (k + 1))) := fun {k} h => by rw [zh1 h]; exact zju _ _
theorem zp5 {fs : List T} {t : T} (h : t ∈ fs) : t ∈ zbn (zd1 fs) := by
 obtain ⟨k, hk, rfl⟩ := List.getElem_of_mem h
 rw [← zcd hk]
 have := zt7 (fs.take (k + 1)) (fs.drop (k + 1))
 rw [List.take_append_drop] at this
 exact zcs this (jh2 hk)
def zdp (ns : List Nd) (rs : List Nat) : List D := [.fs (ns.flatMap ndC) ns.length, .fs (rs.map zzi) rs.length]
def zfp (ns : List Nd) (rs : List Nat) : D := .agg (zdp ns rs)
theorem jfb (l : List Nd) : ∀ y ∈ l.flatMap ndC, y.plain = true := fun y hy => by
 obtain ⟨n, _, h⟩ := List.mem_flatMap.1 hy
 simp only [ndC, List.mem_cons, List.not_mem_nil, or_false] at h
 rcases h with rfl | rfl | rfl <;> rfl
theorem jfc (l : List Nat) : ∀ y ∈ l.map zzi, y.plain = true := fun y hy => by
 obtain ⟨n, _, rfl⟩ := List.mem_map.1 hy
 rfl
theorem jlm (l : List Nat) : (l.map zzi).map D.fix = l.map zzi := zln (fun _ => rfl) l
theorem jjr {fn : Fn} {fi ca : List AV} : zdm (.clo fn fi ca) = some [.clo fn fi ca] := rfl
theorem k0 : zqy Try.prog tI (.int .i64 0) := jlk (n := 0) (by omega)
theorem k1 : zqy Try.prog tI (.int .i64 1) := jlk (n := 1) (by omega)
def μ01 : Mp := zpm (.int .i64 1) (.int .i64 1) (zpm (.int .i64 0) (.int .i64 0) ([], 0))
theorem n01 (ts : List T) : NOk ts [] μ01 := by
 refine ⟨((OkM.nil tI 0).put k0).put k1, fun t ht => ?_, fun k u hg => ?_⟩
 ·simp only [zbn, List.mem_cons, List.not_mem_nil, or_false] at ht
  rcases ht with rfl | rfl
  ·rw [zk0, zk0]; rfl
  ·rw [znq, znq]; rfl
 ·obtain ⟨n, hm⟩ := zl9 hg
  have hm' : (k, n, u) ∈ [((Value.int .i64 0 : Value), 0, (Value.int .i64 0 : Value)), (.int .i64 1, 1, .int .i64 1)] := hm
  simp only [List.mem_cons, List.not_mem_nil, or_false, Prod.mk.injEq] at hm'
  rcases hm' with ⟨rfl, _⟩ | ⟨rfl, _⟩
  ·exact ⟨.leaf false, zk1 _, by rw [zk0]; rfl⟩
  ·exact ⟨.leaf true, ztr _, by rw [znq]; rfl⟩
theorem zzl (V : Nat) (ts : List T) (μu μm : Mp) (hr : RowOk V ts) (hl : ts.length ≤ zed) (fs : List T) (hf : ∀ t ∈ fs, t ∈ zbn ts) (hfl : fs.length ≤ 1000000) : zn2 Try.prog 63 [zi6 ts μu μm, .fs (fs.map (znx ts)) fs.length] (.d (zfp (zdl (zd1 fs)) (fs.map (num (zd1 fs))))) := by
 refine jak (fn := Try.f63) (by kernel_rfl) Try.func63 rfl (Nat.le_of_ble_eq_true rfl) fun c hc hp => ?_
 refine zba (τ' := frL [(0, .d (zi6 ts μu μm)), (1, .d (.fs (fs.map (znx ts)) fs.length))]) (zaa (zaa (zae _) rfl) rfl) ?_
 have hmd : D.one (zi6 ts μu μm) = true := rfl
 refine zab hp zad hc rfl fun K1 hK1 => ?_
 simp -dsimp -implicitDefEqProofs (disch := first | omega | decide) only [q_r, zau, zb0, ↓reduceIte, zau, zi6, zvy]
 refine hK1 _ _ ?_
 refine zab hp zad hc rfl fun K2 hK2 => ?_
 simp -dsimp -implicitDefEqProofs (disch := first | omega | decide) only [q_r, zau, zb0, za6, ↓reduceIte, Nat.reduceEqDiff, Nat.reduceAdd, zau, zou, zn6, ziw, jkv, jbu mtI k0 (OkM.nil tI 0), jbu mtI k1 ((OkM.nil tI 0).put k0), zix, jjj]
 refine hK2 _ _ ?_
 refine zab hp zad hc rfl fun K3 hK3 => ?_
 simp -dsimp -implicitDefEqProofs (disch := first | omega | decide) only [q_r, zau, zb0, Nat.reduceAdd, zau, zvy]
 refine hK3 _ _ ?_
 refine zab hp zad hc rfl fun K4 hK4 => ?_
 simp -dsimp -implicitDefEqProofs (disch := first | omega | decide) only [q_r, zau, zb0, Nat.reduceAdd, zau, jop]
 refine hK4 _ _ ?_
 refine zab hp zad hc rfl fun K5 hK5 => ?_
 simp -dsimp -implicitDefEqProofs (disch := first | omega | decide) only [q_r, za6, ↓reduceIte, Nat.reduceEqDiff, jjr, zzd]
 refine hK5 _ _ ?_
 refine zaf fun K6 hK6 => ?_
 refine zab hp zad hc rfl fun K7 hK7 => ?_
 simp -dsimp -implicitDefEqProofs (disch := first | omega | decide) only [q_r, zc1, zar, ↓reduceIte, Nat.reduceEqDiff, zc3]
 refine hK7 _ _ ?_
 refine zaq ?_
 refine za4 hp (fun τ' H' mm => ∃ (k : Nat) (μn : Mp) (rs : List Nat), (k ≤ fs.length ∧ NOk ts (zd1 (fs.take k)) μn ∧ rs = (fs.take k).map (num (zd1 (fs.take k)))) ∧ mm = fs.length - k ∧ H' = zh0 (zi6 ts μu μm) (zd1 (fs.take k)) μn rs ++ [.cells [.d (.val (.slice none 0 0)), .d (.val (.slice none 0 0))]] ∧ τ' = frL [(4, .op 7 0), (6, .op 3 0), (7, .op 2 0), (13, .d (.fs (fs.map (znx ts)) fs.length)), (14, .d (iD fs.length)), (15, .d (iD k))]) (fs.length) ?_ ⟨0, μ01, [], ⟨Nat.zero_le _, n01 ts, rfl⟩, rfl, rfl, rfl⟩ ?_
 ·refine Rt.trans (Rt.nilc 4 0 3 rfl rfl) ?_
  refine Rt.trans (Rt.nilc 4 1 1 rfl rfl) ?_
  refine Rt.trans (Rt.gc (keep := [0,3,5,4,2,6,7,1]) (by decide) (by decide) (by simp [])) ?_
  refine Rt.end (zaa (zaa (zaa (zaa (zaa (zaa (zae _) rfl) rfl) rfl) rfl) rfl) rfl) ?_
  rfl
 rintro τ' H' mm ⟨k, μn, rs, ⟨hk, hN, hrs⟩, rfl, rfl, rfl⟩
 refine zab hp zad hc rfl fun K8 hK8 => ?_
 simp -dsimp -implicitDefEqProofs (disch := first | omega | decide) only [q_r, ↓reduceIte, Nat.reduceEqDiff, iD, zh0]
 refine hK8 _ _ ?_
 refine zaf fun K9 hK9 => ?_
 refine zag rfl (fun ht => ?_) (fun ht => ?_)
 ·have hlt : k < fs.length := by simp at ht; omega
  have hft : ∀ t ∈ fs.take k, t ∈ zbn ts := fun t h => hf t (List.mem_of_mem_take h)
  obtain ⟨ra, sa⟩ := jfa hr hft
  have hfk := hf _ (zcf hlt)
  have hrl : rs.length = k := by rw [hrs]; simp; omega
  refine zan (hK9 _ _ ?_)
  refine zaf fun K10 hK10 => ?_
  refine zaq ?_
  refine zab hp zad hc rfl fun K11 hK11 => ?_
  simp -dsimp -implicitDefEqProofs (disch := first | omega | decide) only [q_r, zam, ixO, zai, ↓reduceIte, Int.toNat_natCast, Nat.reduceEqDiff, iD, znx, zc3, zci, zcn]
  refine hK11 _ _ ?_
  refine zl8 zad hp hc mixed rfl [(0, []), (1, []), (2, []), (3, []), (4, [1]), (5, []), (6, []), (7, []), (8, [])] [[], [0], [], [], [2, 3], [2, 3, 4], [0, 1, 2, 3, 4, 5], [0, 1, 2, 3, 4, 5, 6], [0, 1, 2, 3, 4, 5, 6, 7]] 1 (by kernel_rfl) fun K12 hK12 => ?_
  simp -dsimp -implicitDefEqProofs (disch := first | omega | decide) only [q_r, zam, zac, ↓reduceIte, List.replicate_zero, List.replicate_succ, Nat.reduceEqDiff, Nat.reduceAdd, List.getD_cons_zero, List.getD_cons_succ, zes, zea, zeb, zzd, je7]
  refine zvs (S := zh0 (zi6 ts μu μm) (zd1 (fs.take k)) μn rs) (T := [.cells [.d (.val (.slice none 0 0)), .d (.val (.slice none 0 0))], .free]) (jpa V ts μu μm hr hl _ (nth fs k) (Nat.le_refl _) (zd1 (fs.take k)) μn _ hfk ra sa hN) rfl (Nat.le_of_ble_eq_true rfl) (by first | rfl | (simp [AV.allIs, AV.allI, zaz, za5, za3, okI, ltI, zak, zbj, zh0]; done) | (intro o ho; simp at ho; done)) (fun t => zbv (by first | rfl | (simp [AV.allIs, AV.allI, zaz, za5, za3, okI, ltI, zak, zbj, zh0]; done) | (intro o ho; simp at ho; done)) t) (fun t => zbv (by first | rfl | (simp [AV.allIs, AV.allI, zaz, za5, za3, okI, ltI, zak, zbj, zh0]; done) | (intro o ho; simp at ho; done)) t) (by first | rfl | (simp [AV.allIs, AV.allI, zaz, za5, za3, okI, ltI, zak, zbj, zh0]; done) | (intro o ho; simp at ho; done)) (by first | rfl | (simp [AV.allIs, AV.allI, zaz, ltI, zak, zbj, zh0]; done) | (intro o ho; simp at ho; done)) (by first | rfl | (simp [AV.allIs, AV.allI, zaz, za3, zh0]; done) | (intro o ho; simp at ho; done)) ?_
  rintro _ _ ⟨μn1, rfl, rfl, hN1⟩
  refine ⟨rfl, ?_⟩
  simp -dsimp -implicitDefEqProofs (disch := first | assumption | omega | (simp [maxLen, zah, zca, zbq, zbc] <;> omega) | decide) only [q_r, zau, zam, zac, zb0, zc6, zic, za6, ↓reduceIte, List.append_nil, List.replicate_zero, List.replicate_succ, and_true, Nat.reduceEqDiff, shB, zqn, List.drop_zero, iD, Nat.reduceAdd, zau, List.length_map, zc6, zpe, zll, zh0, zes, zea, zeb, zgb]
  refine hK12 _ _ (hK10 _ _ ?_)
  refine zbs hp zad hc rfl fun K13 hK13 => ?_
  simp -dsimp -implicitDefEqProofs (disch := first | omega | decide) only [q_r, ↓reduceIte, Nat.reduceEqDiff]
  have hr' : rs ++ [num (zeu (nth fs k) (zd1 (fs.take k))) (nth fs k)] = (fs.take (k + 1)).map (num (zd1 (fs.take (k + 1)))) := by
   rw [zel hlt, List.map_append, ← zel hlt, zh1 hlt, hrs]
   congr 1
   exact List.map_congr_left fun t ht => (zd9 (zjt _ _) (zp5 ht)).symm
  have hN' : NOk ts (zd1 (fs.take (k + 1))) μn1 := by rw [zh1 hlt]; exact hN1
  refine hK13 _ _ ⟨_, _, _, ?_, ⟨k + 1, μn1, rs ++ [num (zeu (nth fs k) (zd1 (fs.take k))) (nth fs k)], ⟨by omega, hN', hr'⟩, rfl, rfl, rfl⟩, ?_⟩
  ·first | omega | (simp only [List.length_cons]; omega) | (dsimp only; omega)
  ·refine Rt.trans (Rt.gc (keep := [0,1,2,3,4,5,9,7]) (by decide) (by decide) (by simp [])) ?_
   refine Rt.end (zaa (zaa (zaa (zaa (zaa (zaa (zae _) rfl) rfl) rfl) rfl) rfl) rfl) ?_
   simp only [gcH, zbb, zcq, zap, zcb, gcV, Nat.reduceAdd, zcp, List.map_cons, List.map_nil, List.getD_cons_zero, List.getD_cons_succ, ↓reduceIte, Nat.reduceEqDiff, Option.map_some, List.cons_append, List.nil_append, zcq, zh0]; rw [zh1 hlt]; simp [avs, zzi, iD]
 ·have hkk : k = fs.length := by simp at ht; omega
  subst hkk
  rw [List.take_length] at hN hrs ⊢
  refine zbd (hK6 _ _ ?_)
  refine zab hp zad hc rfl fun K14 hK14 => ?_
  simp -dsimp -implicitDefEqProofs (disch := first | omega | decide) only [q_r, zam, za6, ↓reduceIte, AV.one, Nat.reduceEqDiff, Nat.reduceAdd, zc8, zds]
  refine hK14 _ _ ?_
  refine zao ?_
  try dsimp only [zfd, zcc]
  refine zch rfl ?_
  simp -dsimp -implicitDefEqProofs (disch := first | omega | decide) only [q_r, zam, ↓reduceIte, Nat.reduceEqDiff, Nat.reduceAdd, zc8, zds]
  show zjg _ _ = _
  simp (disch := first | assumption | omega | (simp only [maxLen, List.length_replicate, eq_self, true_and, and_true, and_self, zah, List.length_map, List.length_append, List.length_cons, List.length_nil, List.length_set, List.length_range, List.length_take, List.length_drop, zca, zbq, zbc] <;> omega) | decide | fail) only [zjg, zbt, zbl, Nat.reduceAdd, Nat.zero_add, zax, Option.map_some, Option.bind_some, Nat.mul_one, List.getElem?_cons_zero, List.getElem?_cons_succ, List.length_cons, List.length_nil, jn0, jkx, jeh, jg5, zyq (jfb _), zyq (jfc _)]
  simp [zfp, zdp, zmf, zbc, hrs]
  exact fun _ _ => rfl
end Go.Proofs.Ytgfnpfchdlcoeaa
