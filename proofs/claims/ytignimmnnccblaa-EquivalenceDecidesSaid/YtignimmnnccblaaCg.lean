/- The manager's export. -/
import Derived.Test.YtignimmnnccblaaQr
import Derived.Test.YtignimmnnccblaaCf
set_option linter.unusedVariables false
set_option linter.unusedSimpArgs false
set_option maxRecDepth 100000
set_option maxHeartbeats 4000000
namespace Go.Proofs.Ytignimmnnccblaa
open Go Go.RowKit
theorem zl8 : (((((type_of% @zhm) ∧ ((type_of% @zhn) ∧ (type_of% @zeg))) ∧ ((type_of% @zeh) ∧ ((type_of% @zjq) ∧ (type_of% @zjp)))) ∧ (((type_of% @zou) ∧ ((type_of% @zov) ∧ (type_of% @zow))) ∧ (((type_of% @zox) ∧ (type_of% @ji1)) ∧ ((type_of% @ji0) ∧ (type_of% @jf3))))) ∧ ((((type_of% @jf4) ∧ ((type_of% @jp0) ∧ (type_of% @jpz))) ∧ (((type_of% @zdm) ∧ (type_of% @zdn)) ∧ ((type_of% @zdo) ∧ (type_of% @zdv)))) ∧ (((type_of% @ze4) ∧ ((type_of% @ze5) ∧ (type_of% @ze7))) ∧ (((type_of% @zi2) ∧ (type_of% @zi3)) ∧ ((type_of% @zhw) ∧ (type_of% @zhx)))))) := ⟨⟨⟨⟨@zhm, ⟨@zhn, @zeg⟩⟩, ⟨@zeh, ⟨@zjq, @zjp⟩⟩⟩, ⟨⟨@zou, ⟨@zov, @zow⟩⟩, ⟨⟨@zox, @ji1⟩, ⟨@ji0, @jf3⟩⟩⟩⟩, ⟨⟨⟨@jf4, ⟨@jp0, @jpz⟩⟩, ⟨⟨@zdm, @zdn⟩, ⟨@zdo, @zdv⟩⟩⟩, ⟨⟨@ze4, ⟨@ze5, @ze7⟩⟩, ⟨⟨@zi2, @zi3⟩, ⟨@zhw, @zhx⟩⟩⟩⟩⟩
theorem jqr (V : Nat) (ts : List T) (μu μm : Mp) (hr : RowOk V ts) (hl : ts.length ≤ zel) : ∀ (n : Nat) (f : T), f.sz ≤ n → jtw V ts μu μm f
 | 0, f, h => by cases f <;> simp [T.sz] at h
 | n + 1, f, h => fun acc μn rs hf ha hs hN => jsq V ts μu μm hr hl f (fun s hs' => jqr V ts μu μm hr hl n s (by omega)) acc μn rs hf ha hs hN
def zeq (fs : List T) : List T := fs.foldl (fun acc t => zd9 t acc) []
theorem zkq {fs : List T} {k : Nat} (h : k < fs.length) : zeq (fs.take (k + 1)) = zd9 (nth fs k) (zeq (fs.take k)) := by
 unfold zeq; rw [zdx h, List.foldl_append]; rfl
theorem jkz (us : List T) : ∀ (fs : List T), us <+: fs.foldl (fun acc t => zd9 t acc) us := fun fs => by
 induction fs generalizing us with
 | nil => exact List.prefix_refl _
 | cons t fs ih => exact (zln t us).trans (ih _)
theorem zxt (fs gs : List T) : zeq fs <+: zeq (fs ++ gs) := by
 unfold zeq; rw [List.foldl_append]; exact jkz _ gs
theorem jjn {V : Nat} {us : List T} (hr : RowOk V us) : ∀ (fs : List T) (acc : List T), (∀ t ∈ fs, t ∈ zbr us) → RowOk V acc → (∀ s ∈ acc, s ∈ zbr us) → RowOk V (fs.foldl (fun acc t => zd9 t acc) acc) ∧ ∀ s ∈ fs.foldl (fun acc t => zd9 t acc) acc, s ∈ zbr us
 | [], acc, _, h1, h2 => ⟨h1, h2⟩
 | t :: fs, acc, hf, h1, h2 => by
  have ht := hf t (List.mem_cons_self ..)
  exact jjn hr fs (zd9 t acc) (fun s hs => hf s (List.mem_cons_of_mem _ hs)) (zlo t 0 acc (hr.okf ht) h1) (znp hr t acc ht h2)
theorem jdl {V : Nat} {us : List T} (hr : RowOk V us) {fs : List T} (h : ∀ t ∈ fs, t ∈ zbr us) : RowOk V (zeq fs) ∧ ∀ s ∈ zeq fs, s ∈ zbr us := jjn hr fs [] h (.nil V) fun s hs => by cases hs
theorem jga {fs : List T} : ∀ {k : Nat}, k < fs.length → nth fs k ∈ zbr (zeq (fs.take (k + 1))) := fun {k} h => by rw [zkq h]; exact zno _ _
theorem zkr {fs : List T} {t : T} (h : t ∈ fs) : t ∈ zbr (zeq fs) := by
 obtain ⟨k, hk, rfl⟩ := List.getElem_of_mem h
 rw [← zb6 hk]
 have := zxt (fs.take (k + 1)) (fs.drop (k + 1))
 rw [List.take_append_drop] at this
 exact zca this (jga hk)
def zb1 (ns : List Nd) (rs : List Nat) : List D := [.fs (ns.flatMap ndC) ns.length, .fs (rs.map zbz) rs.length]
def zbw (ns : List Nd) (rs : List Nat) : D := .agg (zb1 ns rs)
theorem jdm (l : List Nd) : ∀ y ∈ l.flatMap ndC, y.plain = true := fun y hy => by
 obtain ⟨n, _, h⟩ := List.mem_flatMap.1 hy
 simp only [ndC, List.mem_cons, List.not_mem_nil, or_false] at h
 rcases h with rfl | rfl | rfl <;> rfl
theorem jdn (l : List Nat) : ∀ y ∈ l.map zbz, y.plain = true := fun y hy => by
 obtain ⟨n, _, rfl⟩ := List.mem_map.1 hy
 rfl
theorem ztu (l : List Nat) : (l.map zbz).map D.fix = l.map zbz := zj2 (fun _ => rfl) l
theorem ze8 {fn : Fn} {fi ca : List AV} : zcl (.clo fn fi ca) = some [.clo fn fi ca] := rfl
theorem k0 : zpw Try.prog tI (.int .i64 0) := jjm (n := 0) (by omega)
theorem k1 : zpw Try.prog tI (.int .i64 1) := jjm (n := 1) (by omega)
def μ01 : Mp := znz (.int .i64 1) (.int .i64 1) (znz (.int .i64 0) (.int .i64 0) ([], 0))
theorem n01 (ts : List T) : NOk ts [] μ01 := by
 refine ⟨((OkM.nil tI 0).put k0).put k1, fun t ht => ?_, fun k u hg => ?_⟩
 ·simp only [zbr, List.mem_cons, List.not_mem_nil, or_false] at ht
  rcases ht with rfl | rfl
  ·rw [zje, zje]; rfl
  ·rw [zp1, zp1]; rfl
 ·obtain ⟨n, hm⟩ := zkf hg
  have hm' : (k, n, u) ∈ [((Value.int .i64 0 : Value), 0, (Value.int .i64 0 : Value)), (.int .i64 1, 1, .int .i64 1)] := hm
  simp only [List.mem_cons, List.not_mem_nil, or_false, Prod.mk.injEq] at hm'
  rcases hm' with ⟨rfl, _⟩ | ⟨rfl, _⟩
  ·exact ⟨.leaf false, zhr _, by rw [zje]; rfl⟩
  ·exact ⟨.leaf true, zp2 _, by rw [zp1]; rfl⟩
theorem zxu (V : Nat) (ts : List T) (μu μm : Mp) (hr : RowOk V ts) (hl : ts.length ≤ zel) (fs : List T) (hf : ∀ t ∈ fs, t ∈ zbr ts) (hfl : fs.length ≤ 1000000) : zlv Try.prog 68 [zcw ts μu μm, .fs (fs.map (zb2 ts)) fs.length] (.d (zbw (zlp (zeq fs)) (fs.map (num (zeq fs))))) := by
 refine zyl (fn := Try.f68) (by kernel_rfl) Try.func68 rfl (Nat.le_of_ble_eq_true rfl) fun c hc hp => ?_
 refine zbh (τ' := frL [(0, .d (zcw ts μu μm)), (1, .d (.fs (fs.map (zb2 ts)) fs.length))]) (by repeat (first | exact zam _ | refine zai ?_ (by first | rfl | (simp [r_f, zah, zad, zal]; done) | simp [r_f, zah, zad, zal, *]))) ?_
 have hmd : D.one (zcw ts μu μm) = true := rfl
 refine zac hp zak hc rfl fun K1 hK1 => ?_
 simp -dsimp -implicitDefEqProofs (disch := first | assumption | omega | (simp only [r_z, zah, zad, zal] <;> omega) | decide) only [r_r, ↓reduceIte, Nat.reduceEqDiff, Nat.reduceAdd, D.fix, Int.reduceToNat, Nat.reduceMul, Nat.reduceBNe, Nat.reduceBEq, r_m, zd7, zbz, zb2, ze8, jt9, hmd, zcw, zl8]
 refine hK1 _ _ ?_
 refine zac hp zak hc rfl fun K2 hK2 => ?_
 simp -dsimp -implicitDefEqProofs (disch := first | assumption | omega | (simp only [r_z, zah, zad, zal] <;> omega) | decide) only [r_r, ↓reduceIte, Nat.reduceEqDiff, Nat.reduceAdd, D.fix, Int.reduceToNat, Nat.reduceMul, Nat.reduceBNe, Nat.reduceBEq, r_m, zd7, zbz, zb2, ze8, jbz mtI k0 (OkM.nil tI 0), jbz mtI k1 ((OkM.nil tI 0).put k0), zl8]
 refine hK2 _ _ ?_
 refine zac hp zak hc rfl fun K3 hK3 => ?_
 simp -dsimp -implicitDefEqProofs (disch := first | assumption | omega | (simp only [r_z, zah, zad, zal] <;> omega) | decide) only [r_r, ↓reduceIte, Nat.reduceEqDiff, Nat.reduceAdd, D.fix, Int.reduceToNat, Nat.reduceMul, Nat.reduceBNe, Nat.reduceBEq, r_m, zd7, zbz, zb2, ze8, zl8]
 refine hK3 _ _ ?_
 refine zac hp zak hc rfl fun K4 hK4 => ?_
 simp -dsimp -implicitDefEqProofs (disch := first | assumption | omega | (simp only [r_z, zah, zad, zal] <;> omega) | decide) only [r_r, ↓reduceIte, Nat.reduceEqDiff, Nat.reduceAdd, D.fix, Int.reduceToNat, Nat.reduceMul, Nat.reduceBNe, Nat.reduceBEq, r_m, zd7, zbz, zb2, ze8, zl8]
 refine hK4 _ _ ?_
 refine zac hp zak hc rfl fun K5 hK5 => ?_
 simp -dsimp -implicitDefEqProofs (disch := first | assumption | omega | (simp only [r_z, zah, zad, zal] <;> omega) | decide) only [r_r, ↓reduceIte, Nat.reduceEqDiff, Nat.reduceAdd, D.fix, Int.reduceToNat, Nat.reduceMul, Nat.reduceBNe, Nat.reduceBEq, r_m, zd7, zbz, zb2, ze8, zl8]
 refine hK5 _ _ ?_
 refine zao fun K6 hK6 => ?_
 refine zac hp zak hc rfl fun K7 hK7 => ?_
 simp -dsimp -implicitDefEqProofs (disch := first | assumption | omega | (simp only [r_z, zah, zad, zal] <;> omega) | decide) only [r_r, ↓reduceIte, Nat.reduceEqDiff, Nat.reduceAdd, D.fix, Int.reduceToNat, Nat.reduceMul, Nat.reduceBNe, Nat.reduceBEq, r_m, zd7, zbz, zb2, ze8, zl8]
 refine hK7 _ _ ?_
 refine zaz ?_
 refine zbb hp (fun τ' H' mm => ∃ (k : Nat) (μn : Mp) (rs : List Nat), (k ≤ fs.length ∧ NOk ts (zeq (fs.take k)) μn ∧ rs = (fs.take k).map (num (zeq (fs.take k)))) ∧ mm = fs.length - k ∧ H' = zd7 (zcw ts μu μm) (zeq (fs.take k)) μn rs ++ [.cells [.d (.val (.slice none 0 0)), .d (.val (.slice none 0 0))]] ∧ τ' = frL [(4, .op 7 0), (6, .op 3 0), (7, .op 2 0), (13, .d (.fs (fs.map (zb2 ts)) fs.length)), (14, .d (iD fs.length)), (15, .d (iD k))]) (fs.length) ?_ ⟨0, μ01, [], ⟨Nat.zero_le _, n01 ts, rfl⟩, rfl, rfl, rfl⟩ ?_
 ·refine Rt.trans (Rt.nilc 4 0 3 rfl rfl) ?_
  refine Rt.trans (Rt.nilc 4 1 1 rfl rfl) ?_
  refine Rt.trans (Rt.gc (keep := [0,3,5,4,2,6,7,1]) (by decide) (by decide) (by simp [fzH, gcH])) ?_
  refine Rt.end (by repeat (first | exact zam _ | refine zai ?_ (by first | rfl | (simp [r_f, zah, zad, zal]; done) | simp [r_f, zah, zad, zal, *]))) ?_
  first | rfl | (simp only [r_g, Nat.reduceAdd, ↓reduceIte, Nat.reduceEqDiff, r_m, zd7, zbz, zb2, ze8]; first | done | rfl)
 rintro τ' H' mm ⟨k, μn, rs, ⟨hk, hN, hrs⟩, rfl, rfl, rfl⟩
 refine zac hp zak hc rfl fun K8 hK8 => ?_
 simp -dsimp -implicitDefEqProofs (disch := first | assumption | omega | (simp only [r_z, zah, zad, zal] <;> omega) | decide) only [r_r, ↓reduceIte, Nat.reduceEqDiff, Nat.reduceAdd, D.fix, Int.reduceToNat, Nat.reduceMul, Nat.reduceBNe, Nat.reduceBEq, r_m, zd7, zbz, zb2, ze8, zl8]
 refine hK8 _ _ ?_
 refine zao fun K9 hK9 => ?_
 refine zaq rfl (fun ht => ?_) (fun ht => ?_)
 ·have hlt : k < fs.length := by simp at ht; omega
  have hft : ∀ t ∈ fs.take k, t ∈ zbr ts := fun t h => hf t (List.mem_of_mem_take h)
  obtain ⟨ra, sa⟩ := jdl hr hft
  have hfk := hf _ (zb9 hlt)
  have hrl : rs.length = k := by rw [hrs]; simp; omega
  refine zay (hK9 _ _ ?_)
  refine zao fun K10 hK10 => ?_
  refine zaz ?_
  refine zac hp zak hc rfl fun K11 hK11 => ?_
  simp -dsimp -implicitDefEqProofs (disch := first | assumption | omega | (simp only [r_z, zah, zad, zal] <;> omega) | decide) only [r_r, ↓reduceIte, Nat.reduceEqDiff, Nat.reduceAdd, D.fix, Int.reduceToNat, Nat.reduceMul, Nat.reduceBNe, Nat.reduceBEq, r_m, zd7, zbz, zb2, ze8, zl8]
  refine hK11 _ _ ?_
  refine znh zak hp hc mixed rfl [(0, []), (1, []), (2, []), (3, []), (4, [1]), (5, []), (6, []), (7, []), (8, [])] [[], [0], [], [], [2, 3], [2, 3, 4], [0, 1, 2, 3, 4, 5], [0, 1, 2, 3, 4, 5, 6], [0, 1, 2, 3, 4, 5, 6, 7]] 1 (by kernel_rfl) fun K12 hK12 => ?_
  simp -dsimp -implicitDefEqProofs (disch := first | assumption | omega | (simp only [r_z, zah, zad, zal] <;> omega) | decide) only [r_r, ↓reduceIte, Nat.reduceEqDiff, Nat.reduceAdd, D.fix, Int.reduceToNat, Nat.reduceMul, Nat.reduceBNe, Nat.reduceBEq, r_w, r_m, zd7, zbz, zb2, ze8, zl8]
  refine zot (S := zd7 (zcw ts μu μm) (zeq (fs.take k)) μn rs) (T := [.cells [.d (.val (.slice none 0 0)), .d (.val (.slice none 0 0))], .free]) (jqr V ts μu μm hr hl _ (nth fs k) (Nat.le_refl _) (zeq (fs.take k)) μn _ hfk ra sa hN) rfl (Nat.le_of_ble_eq_true rfl) (by first | rfl | (simp [AV.allIs, AV.allI, za0, zas, zat, okI, ltI, zan, za8, zd7]; done) | (intro o ho; simp at ho; done)) (fun t => zbs (by first | rfl | (simp [AV.allIs, AV.allI, za0, zas, zat, okI, ltI, zan, za8, zd7]; done) | (intro o ho; simp at ho; done)) t) (fun t => zbs (by first | rfl | (simp [AV.allIs, AV.allI, za0, zas, zat, okI, ltI, zan, za8, zd7]; done) | (intro o ho; simp at ho; done)) t) (by first | rfl | (simp [AV.allIs, AV.allI, za0, zas, zat, okI, ltI, zan, za8, zd7]; done) | (intro o ho; simp at ho; done)) (by first | rfl | (simp [AV.allIs, AV.allI, za0, zas, zat, okI, ltI, zan, za8, zd7]; done) | (intro o ho; simp at ho; done)) (by first | rfl | (simp [AV.allIs, AV.allI, za0, zas, zat, okI, ltI, zan, za8, zd7]; done) | (intro o ho; simp at ho; done)) ?_
  rintro _ _ ⟨μn1, rfl, rfl, hN1⟩
  refine ⟨rfl, ?_⟩
  simp -dsimp -implicitDefEqProofs (disch := first | assumption | omega | (simp only [r_z, zah, zad, zal] <;> omega) | decide) only [r_r, ↓reduceIte, Nat.reduceEqDiff, Nat.reduceAdd, D.fix, Int.reduceToNat, Nat.reduceMul, Nat.reduceBNe, Nat.reduceBEq, r_w, r_m, zd7, zbz, zb2, ze8, zl8]
  refine hK12 _ _ (hK10 _ _ ?_)
  refine zbt hp zak hc rfl fun K13 hK13 => ?_
  simp -dsimp -implicitDefEqProofs (disch := first | assumption | omega | (simp only [r_z, zah, zad, zal] <;> omega) | decide) only [r_r, ↓reduceIte, Nat.reduceEqDiff, Nat.reduceAdd, D.fix, Int.reduceToNat, Nat.reduceMul, Nat.reduceBNe, Nat.reduceBEq, r_m, zd7, zbz, zb2, ze8, zl8]
  have hr' : rs ++ [num (zd9 (nth fs k) (zeq (fs.take k))) (nth fs k)] = (fs.take (k + 1)).map (num (zeq (fs.take (k + 1)))) := by
   rw [zdx hlt, List.map_append, ← zdx hlt, zkq hlt, hrs]
   congr 1
   exact List.map_congr_left fun t ht => (zdp (zln _ _) (zkr ht)).symm
  have hN' : NOk ts (zeq (fs.take (k + 1))) μn1 := by rw [zkq hlt]; exact hN1
  refine hK13 _ _ ⟨_, _, _, ?_, ⟨k + 1, μn1, rs ++ [num (zd9 (nth fs k) (zeq (fs.take k))) (nth fs k)], ⟨by omega, hN', hr'⟩, rfl, rfl, rfl⟩, ?_⟩
  ·first | omega | (simp only [List.length_cons]; omega) | (dsimp only; omega)
  ·refine Rt.trans (Rt.gc (keep := [0,1,2,3,4,5,9,7]) (by decide) (by decide) (by simp [fzH, gcH])) ?_
   refine Rt.end (by repeat (first | exact zam _ | refine zai ?_ (by first | rfl | (simp [r_f, zah, zad, zal]; done) | simp [r_f, zah, zad, zal, *]))) ?_
   simp only [r_g, Nat.reduceAdd, ↓reduceIte, Nat.reduceEqDiff, r_m, zd7, zbz, zb2, ze8]; rw [zkq hlt]; simp [avs, zbz, iD]
 ·have hkk : k = fs.length := by simp at ht; omega
  subst hkk
  rw [List.take_length] at hN hrs ⊢
  refine zbn (hK6 _ _ ?_)
  refine zac hp zak hc rfl fun K14 hK14 => ?_
  simp -dsimp -implicitDefEqProofs (disch := first | assumption | omega | (simp only [r_z, zah, zad, zal] <;> omega) | decide) only [r_r, ↓reduceIte, Nat.reduceEqDiff, Nat.reduceAdd, D.fix, Int.reduceToNat, Nat.reduceMul, Nat.reduceBNe, Nat.reduceBEq, r_m, zd7, zbz, zb2, ze8, zl8]
  refine hK14 _ _ ?_
  refine za4 ?_
  try dsimp only [zjd, zcz]
  refine zdk rfl ?_
  simp -dsimp -implicitDefEqProofs (disch := first | assumption | omega | (simp only [r_z, zah, zad, zal] <;> omega) | decide) only [r_r, ↓reduceIte, Nat.reduceEqDiff, Nat.reduceAdd, D.fix, Int.reduceToNat, Nat.reduceMul, Nat.reduceBNe, Nat.reduceBEq, r_m, zd7, zbz, zb2, ze8, zeg, zeh]
  show closeN _ _ = _
  simp (disch := first | assumption | omega | (simp only [r_z, zah, zad, zal] <;> omega) | decide) only [r_c, Nat.reduceAdd, D.fix, ↓reduceIte, Nat.reduceEqDiff, r_m, zd7, zbz, zb2, ze8, jov, jku, jb0, jfg, zvt (jdm _), zvt (jdn _)]
  simp [zbw, zb1, zim, ztu, zal, hrs]
  exact fun _ _ => rfl
end Go.Proofs.Ytignimmnnccblaa
