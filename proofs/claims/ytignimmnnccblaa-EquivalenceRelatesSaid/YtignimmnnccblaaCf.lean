/- The search that numbers nodes. -/
import Derived.Test.YtignimmnnccblaaQr
import Derived.Test.YtignimmnnccblaaCe
set_option linter.unusedVariables false
set_option linter.unusedSimpArgs false
set_option maxRecDepth 100000
set_option maxHeartbeats 4000000
namespace Go.Proofs.Ytignimmnnccblaa
open Go Go.RowKit
theorem zq1 : ((((((type_of% @zo0) ∧ (type_of% @zo1)) ∧ ((type_of% @zo2) ∧ ((type_of% @zo3) ∧ (type_of% @zlz)))) ∧ (((type_of% @zl0) ∧ (type_of% @zhq)) ∧ ((type_of% @zhr) ∧ ((type_of% @zhs) ∧ (type_of% @zht))))) ∧ ((((type_of% @zgg) ∧ (type_of% @zgh)) ∧ ((type_of% @zj2) ∧ ((type_of% @zj3) ∧ (type_of% @zf5)))) ∧ (((type_of% @zf6) ∧ (type_of% @zf7)) ∧ ((type_of% @zga) ∧ ((type_of% @zgb) ∧ (type_of% @zhv)))))) ∧ (((((type_of% @zhu) ∧ (type_of% @zez)) ∧ ((type_of% @ze0) ∧ ((type_of% @ze9) ∧ (type_of% @zfa)))) ∧ (((type_of% @jf9) ∧ (type_of% @jga)) ∧ ((type_of% @zgc) ∧ ((type_of% @zgd) ∧ (type_of% @zge))))) ∧ ((((type_of% @zgf) ∧ (type_of% @zo6)) ∧ ((type_of% @zjd) ∧ ((type_of% @zje) ∧ (type_of% @zjf)))) ∧ (((type_of% @zf8) ∧ ((type_of% @zf9) ∧ (type_of% @zei))) ∧ ((type_of% @zej) ∧ ((type_of% @zjz) ∧ (type_of% @zfc))))))) := ⟨⟨⟨⟨⟨@zo0, @zo1⟩, ⟨@zo2, ⟨@zo3, @zlz⟩⟩⟩, ⟨⟨@zl0, @zhq⟩, ⟨@zhr, ⟨@zhs, @zht⟩⟩⟩⟩, ⟨⟨⟨@zgg, @zgh⟩, ⟨@zj2, ⟨@zj3, @zf5⟩⟩⟩, ⟨⟨@zf6, @zf7⟩, ⟨@zga, ⟨@zgb, @zhv⟩⟩⟩⟩⟩, ⟨⟨⟨⟨@zhu, @zez⟩, ⟨@ze0, ⟨@ze9, @zfa⟩⟩⟩, ⟨⟨@jf9, @jga⟩, ⟨@zgc, ⟨@zgd, @zge⟩⟩⟩⟩, ⟨⟨⟨@zgf, @zo6⟩, ⟨@zjd, ⟨@zje, @zjf⟩⟩⟩, ⟨⟨@zf8, ⟨@zf9, @zei⟩⟩, ⟨@zej, ⟨@zjz, @zfc⟩⟩⟩⟩⟩⟩
def zea : T → List T → List T
 | .leaf _, acc => acc
 | .node v l h, acc => if T.node v l h ∈ acc then acc else zea h (zea l acc) ++ [.node v l h]
theorem zlm : ∀ (t : T) (acc : List T), acc <+: zea t acc
 | .leaf _, acc => List.prefix_refl _
 | .node v l h, acc => by
  unfold zea
  split
  ·exact List.prefix_refl _
  ·exact (zlm l acc).trans ((zlm h _).trans (List.prefix_append _ _))
theorem znm : ∀ (t : T) (acc : List T), t ∈ zbu (zea t acc)
 | .leaf b, acc => jox _ b
 | .node v l h, acc => by
  unfold zea
  split
  ·rename_i hm; exact List.mem_cons_of_mem _ (List.mem_cons_of_mem _ hm)
  ·rw [zfh]; simp
theorem zo9 : ∀ (t : T) (acc : List T) (s : T), s ∈ zea t acc → s ∈ acc ∨ s.sz ≤ t.sz
 | .leaf b, acc, s, hs => .inl hs
 | .node v l h, acc, s, hs => by
  unfold zea at hs
  split at hs
  ·exact .inl hs
  ·rcases List.mem_append.1 hs with hs | hs
   ·rcases zo9 h _ s hs with hs | hs
    ·rcases zo9 l _ s hs with hs | hs
     ·exact .inl hs
     ·exact .inr (by simp only [T.sz]; omega)
    ·exact .inr (by simp only [T.sz]; omega)
   ·rw [List.mem_singleton.1 hs]; exact .inr (Nat.le_refl _)
theorem zq2 {acc us : List T} (h : ∀ t ∈ acc, t ∈ zbu us) : ∀ t ∈ zbu acc, t ∈ zbu us := fun t ht => by
 simp only [zbu, List.mem_cons] at ht
 rcases ht with rfl | rfl | ht
 ·exact zhx _
 ·exact zqb _
 ·exact h t ht
theorem znn {V : Nat} {ts : List T} (hr : RowOk V ts) : ∀ (t : T) (acc : List T), t ∈ zbu ts → (∀ s ∈ acc, s ∈ zbu ts) → ∀ s ∈ zea t acc, s ∈ zbu ts
 | .leaf b, acc, _, h => h
 | .node v l r, acc, ht, h => fun s hs => by
  unfold zea at hs
  split at hs
  ·exact h s hs
  ·rcases List.mem_append.1 hs with hs | hs
   ·exact znn hr r _ (hr.chf ht).2 (znn hr l acc (hr.chf ht).1 h) s hs
   ·rw [List.mem_singleton.1 hs]; exact ht
theorem zln {V : Nat} : ∀ (t : T) (k : Nat) (acc : List T), t.Ok V k → RowOk V acc → RowOk V (zea t acc)
 | .leaf b, _, acc, _, h => h
 | .node v l r, k, acc, ht, h => by
  unfold zea
  split
  ·exact h
  ·rename_i hn
   have h1 := zln l (v + 1) acc ht.2.2.2.1 h
   have h2 := zln r (v + 1) (zea l acc) ht.2.2.2.2 h1
   refine h2.snoc (ht.mono (Nat.zero_le _)) (fun hm => ?_) (zcc (zlm r _) (znm l acc)) (znm r _)
   simp only [zbu, List.mem_cons] at hm
   rcases hm with hm | hm | hm
   ·cases hm
   ·cases hm
   ·rcases zo9 r _ _ hm with hm | hm
    ·rcases zo9 l _ _ hm with hm | hm
     ·exact hn hm
     ·simp only [T.sz] at hm; omega
    ·simp only [T.sz] at hm; omega
theorem zno {α : Type} [DecidableEq α] : ∀ {l m : List α}, l.Nodup → (∀ x ∈ l, x ∈ m) → l.length ≤ m.length
 | [], m, _, _ => Nat.zero_le _
 | a :: l, m, hn, h => by
  have ha := h a (List.mem_cons_self ..)
  have h1 := List.nodup_cons.1 hn
  have := zno (l := l) (m := m.erase a) h1.2 fun x hx => (List.mem_erase_of_ne (by rintro rfl; exact h1.1 hx)).2 (h x (List.mem_cons_of_mem _ hx))
  rw [List.length_erase_of_mem ha] at this
  have hp := List.length_pos_of_mem ha
  rw [List.length_cons]; omega
theorem zud {V : Nat} {ts acc : List T} (ha : RowOk V acc) (h : ∀ s ∈ acc, s ∈ zbu ts) : acc.length ≤ ts.length := by
 have := zno ha.nd (zq2 h)
 rw [zey, zey] at this; omega
def zlo (ts : List T) : List Nd := ts.map (zjy ts)
theorem zam (ts : List T) : (zlo ts).length = ts.length := by simp [zlo]
theorem jdb {V : Nat} {ts : List T} (h : RowOk V ts) {t : T} (hl : t.l ∈ zbu ts) (hh : t.h ∈ zbu ts) : zlo (ts ++ [t]) = zlo ts ++ [zjy ts t] := by
 unfold zlo
 rw [List.map_append]
 congr 1
 ·exact List.map_congr_left fun s hs => zwt h (List.prefix_append _ _) (List.mem_cons_of_mem _ (List.mem_cons_of_mem _ hs))
 ·simp only [List.map_cons, List.map_nil]
  unfold zjy
  rw [zeh hl, zeh hh]
abbrev tI : TypeId := 109
theorem mtI : mtB Try.prog KT tI = some (.int .i64 0) := by kernel_rfl
theorem jjq {n : Nat} (h : n ≤ 4000000000) : zp5 Try.prog tI (vi n) := jr9 (et := 3) (by kernel_rfl) (jjl h)
structure NOk (ts acc : List T) (μ : Mp) : Prop where
 ok : OkM Try.prog tI μ
 get : ∀ t ∈ zbu acc, zgy (vi (num ts t)) μ = some (vi (num acc t))
 inv : ∀ k u, zgy k μ = some u → ∃ t ∈ zbu acc, k = vi (num ts t)
theorem NOk.add {ts acc : List T} {μ : Mp} (h : NOk ts acc μ) (hl : ts.length ≤ zeo) (hs : ∀ s ∈ acc, s ∈ zbu ts) {t : T} (ht : t ∈ zbu ts) (hn : t ∉ zbu acc) : NOk ts (acc ++ [t]) (zny (vi (num ts t)) (vi (2 + acc.length)) μ) := by
 have hk : zp5 Try.prog tI (vi (num ts t)) := jjq (znk hl ht)
 classical
 refine ⟨h.ok.put hk, fun s hs' => ?_, fun k u hg => ?_⟩
 ·rw [zf4 hk.1 (by rfl)]
  rw [zfh, List.mem_append] at hs'
  rcases hs' with hs' | hs'
  ·have hsf := zq2 hs s hs'
   rw [zeh hs', if_neg fun e => hn (zdb hsf ht (znj e) ▸ hs')]
   exact h.get s hs'
  ·rw [List.mem_singleton.1 hs', zp8 hn, if_pos rfl]
 ·by_cases hk' : zjh k = true
  ·rw [zf4 hk.1 hk'] at hg
   split at hg
   ·rename_i e; exact ⟨t, by rw [zfh]; simp, e⟩
   ·obtain ⟨s, h1, h2⟩ := h.inv k u hg
    exact ⟨s, zg0 h1, h2⟩
  ·obtain ⟨n, hm⟩ := zkq hg
   exact absurd ((h.ok.put hk).keys _ hm).1 hk'
theorem NOk.none {ts acc : List T} {μ : Mp} (h : NOk ts acc μ) (hs : ∀ s ∈ acc, s ∈ zbu ts) {t : T} (ht : t ∈ zbu ts) (hn : t ∉ zbu acc) : zgy (vi (num ts t)) μ = none := by
 cases hg : zgy (vi (num ts t)) μ with
 | none => rfl
 | some u =>
  obtain ⟨s, h1, h2⟩ := h.inv _ _ hg
  exact absurd (zdb ht (zq2 hs s h1) (znj h2) ▸ h1) hn
def zd8 (md : D) (acc : List T) (μn : Mp) (rs : List Nat) : zaq := [.cells [.d md], .cells [.om 4], .cells [.clo (.func 73) [] [.op 1 0, .op 0 0, .op 2 0, .op 3 0]], .cells [.os 3 5 0 acc.length, .os 1 6 0 rs.length], mO μn, .cells (avs ((zlo acc).flatMap ndC)), .cells (avs (rs.map zb1))]
def jtl (md : D) (ts acc : List T) (rs : List Nat) (f : T) (x : AV) (S' : zaq) : Prop := ∃ μn', S' = zd8 md (zea f acc) μn' rs ∧ x = .d (iD (num (zea f acc) f)) ∧ NOk ts (zea f acc) μn'
def jtm (V : Nat) (ts : List T) (μu μm : Mp) (f : T) : Prop := ∀ (acc : List T) (μn : Mp) (rs : List Nat), f ∈ zbu ts → RowOk V acc → (∀ s ∈ acc, s ∈ zbu ts) → NOk ts acc μn →
 ScS Try.prog [0, 1, 2, 3, 4, 6] 73 [.d (iD (num ts f)), .op 1 0, .op 0 0, .op 2 0, .op 3 0] (zd8 (zcz ts μu μm) acc μn rs) (jtl (zcz ts μu μm) ts acc rs f)
theorem jse (V : Nat) (ts : List T) (μu μm : Mp) (hr : RowOk V ts) (hl : ts.length ≤ zeo) (f : T) (ih : ∀ s : T, s.sz < f.sz → jtm V ts μu μm s) (acc : List T) (μn : Mp) (rs : List Nat) (hf : f ∈ zbu ts) (ha : RowOk V acc) (hs : ∀ s ∈ acc, s ∈ zbu ts) (hN : NOk ts acc μn) : ScS Try.prog [0, 1, 2, 3, 4, 6] 73 [.d (iD (num ts f)), .op 1 0, .op 0 0, .op 2 0, .op 3 0] (zd8 (zcz ts μu μm) acc μn rs) (jtl (zcz ts μu μm) ts acc rs f) := by
 refine zhe (fn := Try.f73) (by kernel_rfl) Try.func73 rfl (Nat.le_of_ble_eq_true rfl) fun c hc hp => ?_
 refine jkm ?_
 have hl' := hl
 unfold zeo at hl
 have nf := zeg hf
 have hlen := zud ha hs
 have hk : zp5 Try.prog tI (.int .i64 (num ts f)) := jjq (znk hl' hf)
 refine zac hp zaj hc rfl fun K1 hK1 => ?_
 simp -dsimp -implicitDefEqProofs (disch := first | assumption | omega | (simp only [r_z, zah, zae, zam] <;> omega) | decide) only [r_r, ↓reduceIte, Nat.reduceEqDiff, Nat.reduceAdd, D.fix, Int.reduceToNat, Nat.reduceMul, Nat.reduceBNe, Nat.reduceBEq, r_m, zd8, zcz, zb1]
 refine hK1 _ _ ?_
 refine zan fun K2 hK2 => ?_
 refine zac hp zaj hc rfl fun K3 hK3 => ?_
 by_cases hg : (f ∈ zbu acc)
 ·have hgm : zgy (.int .i64 (num ts f)) μn = some (vi (num acc f)) := hN.get f hg
  simp -dsimp -implicitDefEqProofs (disch := first | assumption | omega | (simp only [r_z, zah, zae, zam] <;> omega) | decide) only [r_r, ↓reduceIte, Nat.reduceEqDiff, Nat.reduceAdd, D.fix, Int.reduceToNat, Nat.reduceMul, Nat.reduceBNe, Nat.reduceBEq, r_m, zd8, zcz, zb1, zia, zsp mtI hk hN.ok, hgm, Option.getD_some, Option.getD_none, Option.isSome_some, Option.isSome_none, zq1]
  refine hK3 _ _ ?_
  refine zac hp zaj hc rfl fun K4 hK4 => ?_
  simp -dsimp -implicitDefEqProofs (disch := first | assumption | omega | (simp only [r_z, zah, zae, zam] <;> omega) | decide) only [r_r, ↓reduceIte, Nat.reduceEqDiff, Nat.reduceAdd, D.fix, Int.reduceToNat, Nat.reduceMul, Nat.reduceBNe, Nat.reduceBEq, r_m, zd8, zcz, zb1]
  refine hK4 _ _ ?_
  refine zap rfl (fun ht => ?_) (fun ht => ?_)
  ·refine zac hp zaj hc rfl fun K5 hK5 => ?_
   simp -dsimp -implicitDefEqProofs (disch := first | assumption | omega | (simp only [r_z, zah, zae, zam] <;> omega) | decide) only [r_r, ↓reduceIte, Nat.reduceEqDiff, Nat.reduceAdd, D.fix, Int.reduceToNat, Nat.reduceMul, Nat.reduceBNe, Nat.reduceBEq, r_m, zd8, zcz, zb1]
   refine hK5 _ _ ?_
   refine zb3 hp (τ' := frL [(6, .d (iD (num acc f)))]) (H' := zd8 (zcz ts μu μm) acc μn rs) ?_ ?_
   ·refine Rt.trans (Rt.gc (keep := [0,1,2,3,4,5,6]) (by decide) (by decide) (by simp [fzH, gcH])) ?_
    refine Rt.end (by repeat (first | exact zal _ | refine zai ?_ (by first | rfl | (simp [r_f, zah, zae, zam]; done) | simp [r_f, zah, zae, zam, *]))) ?_
    first | rfl | (simp only [r_g, Nat.reduceAdd, ↓reduceIte, Nat.reduceEqDiff, r_m, zd8, zcz, zb1]; first | done | rfl)
   refine za6 ?_
   refine zbs (t := 6) rfl ?_
   show ∃ _, _
   have e : zea f acc = acc := by
    cases f with
    | leaf b => rfl
    | node v l h => unfold zea; rw [if_pos (by simpa [zbu] using hg)]
   rw [e]
   exact ⟨μn, rfl, rfl, hN⟩
  ·cases ht
 ·have hgm : zgy (.int .i64 (num ts f)) μn = none := hN.none hs hf hg
  simp -dsimp -implicitDefEqProofs (disch := first | assumption | omega | (simp only [r_z, zah, zae, zam] <;> omega) | decide) only [r_r, ↓reduceIte, Nat.reduceEqDiff, Nat.reduceAdd, D.fix, Int.reduceToNat, Nat.reduceMul, Nat.reduceBNe, Nat.reduceBEq, r_m, zd8, zcz, zb1, zia, zsp mtI hk hN.ok, hgm, Option.getD_some, Option.getD_none, Option.isSome_some, Option.isSome_none, zq1]
  refine hK3 _ _ ?_
  refine zac hp zaj hc rfl fun K6 hK6 => ?_
  simp -dsimp -implicitDefEqProofs (disch := first | assumption | omega | (simp only [r_z, zah, zae, zam] <;> omega) | decide) only [r_r, ↓reduceIte, Nat.reduceEqDiff, Nat.reduceAdd, D.fix, Int.reduceToNat, Nat.reduceMul, Nat.reduceBNe, Nat.reduceBEq, r_m, zd8, zcz, zb1]
  refine hK6 _ _ ?_
  refine zap rfl (fun ht => ?_) (fun ht => ?_)
  ·cases ht
  ·refine za0 (hK2 _ _ ?_)
   refine zac hp zaj hc rfl fun K7 hK7 => ?_
   simp -dsimp -implicitDefEqProofs (disch := first | assumption | omega | (simp only [r_z, zah, zae, zam] <;> omega) | decide) only [r_r, ↓reduceIte, Nat.reduceEqDiff, Nat.reduceAdd, D.fix, Int.reduceToNat, Nat.reduceMul, Nat.reduceBNe, Nat.reduceBEq, r_m, zd8, zcz, zb1, zxx, jkv, zi6 hf, ndC, zjy, zq1]
   obtain ⟨v, l, h, rfl⟩ : ∃ v l h, f = .node v l h := by
    cases f with
    | leaf b => exact absurd (jox acc b) hg
    | node v l h => exact ⟨v, l, h, rfl⟩
   have hcl : l ∈ zbu ts := (hr.chf hf).1
   have hch : h ∈ zbu ts := (hr.chf hf).2
   have hok := hr.okf hf
   have hn' : T.node v l h ∉ acc := fun hm => hg (List.mem_cons_of_mem _ (List.mem_cons_of_mem _ hm))
   have hev : zea (.node v l h) acc = zea h (zea l acc) ++ [.node v l h] := by rw [zea, if_neg hn']
   have ra1 := zln l 0 acc hok.l_ok ha
   have sa1 := znn hr l acc hcl hs
   have ra2 := zln h 0 (zea l acc) hok.h_ok ra1
   have sa2 := znn hr h (zea l acc) hch sa1
   have hlen2 := zud ra2 sa2
   have hmem1 := znm l acc
   have hmem2 := znm h (zea l acc)
   have hpre2 := zlm h (zea l acc)
   have hn2 : T.node v l h ∉ zbu (zea h (zea l acc)) := fun hm => by
    simp only [zbu, List.mem_cons] at hm
    rcases hm with hm | hm | hm
    ·cases hm
    ·cases hm
    ·rcases zo9 h _ _ hm with hm | hm
     ·rcases zo9 l _ _ hm with hm | hm
      ·exact hn' hm
      ·simp only [T.sz] at hm; omega
     ·simp only [T.sz] at hm; omega
   refine hK7 _ _ ?_
   refine zb3 hp (τ' := frL [(0, .d (iD (num ts (.node v l h)))), (1, .op 1 0), (2, .op 0 0), (3, .op 2 0), (4, .op 3 0), (9, .op 7 0)]) (H' := zd8 (zcz ts μu μm) acc μn rs ++ [.cells [.d (iD v), .d (iD (num ts l)), .d (iD (num ts h))]]) ?_ ?_
   ·refine Rt.trans (Rt.gc (keep := [0,1,2,3,4,5,6,7]) (by decide) (by decide) (by simp [fzH, gcH])) ?_
    refine Rt.end (by repeat (first | exact zal _ | refine zai ?_ (by first | rfl | (simp [r_f, zah, zae, zam]; done) | simp [r_f, zah, zae, zam, *]))) ?_
    first | rfl | (simp only [r_g, Nat.reduceAdd, ↓reduceIte, Nat.reduceEqDiff, r_m, zd8, zcz, zb1]; first | done | rfl)
   refine zd7 zaj hp hc mixed rfl [(0, []), (1, []), (2, []), (3, []), (4, []), (6, []), (7, []), (8, []), (11, []), (5, [1, 6, 8]), (9, [1]), (10, []), (12, [])] [[], [0], [], [], [3], [2, 3, 4], [], [], [7], [2, 3, 4, 5, 6, 7, 8], [0, 1, 2, 3, 4, 5, 6, 7, 8, 9], [], [0, 1, 2, 3, 4, 5, 6, 7, 8, 9, 10, 11]] 1 (by kernel_rfl) fun K8 hK8 => ?_
   simp -dsimp -implicitDefEqProofs (disch := first | assumption | omega | (simp only [r_z, zah, zae, zam] <;> omega) | decide) only [r_r, ↓reduceIte, Nat.reduceEqDiff, Nat.reduceAdd, D.fix, Int.reduceToNat, Nat.reduceMul, Nat.reduceBNe, Nat.reduceBEq, r_w, r_m, zd8, zcz, zb1, zq1]
   refine zoz (S := zd8 (zcz ts μu μm) acc μn rs) (T := [.cells [.d (iD v), .d (iD (num ts l)), .d (iD (num ts h))], .cells [.d (iD 0), .d (iD 0), .d (iD 0)]]) (ih l (by simp only [T.sz]; omega) acc μn rs hcl ha hs hN) rfl (Nat.le_of_ble_eq_true rfl) (by first | rfl | (simp [AV.allIs, AV.allI, za3, zat, zau, okI, ltI, zao, zbb, zd8]; done) | (intro o ho; simp at ho; done)) (fun t => zbv (by first | rfl | (simp [AV.allIs, AV.allI, za3, zat, zau, okI, ltI, zao, zbb, zd8]; done) | (intro o ho; simp at ho; done)) t) (fun t => zbv (by first | rfl | (simp [AV.allIs, AV.allI, za3, zat, zau, okI, ltI, zao, zbb, zd8]; done) | (intro o ho; simp at ho; done)) t) (by first | rfl | (simp [AV.allIs, AV.allI, za3, zat, zau, okI, ltI, zao, zbb, zd8]; done) | (intro o ho; simp at ho; done)) (by first | rfl | (simp [AV.allIs, AV.allI, za3, zat, zau, okI, ltI, zao, zbb, zd8]; done) | (intro o ho; simp at ho; done)) (by first | rfl | (simp [AV.allIs, AV.allI, za3, zat, zau, okI, ltI, zao, zbb, zd8]; done) | (intro o ho; simp at ho; done)) ?_
   rintro _ _ ⟨μn1, rfl, rfl, hN1⟩
   refine ⟨rfl, ?_⟩
   simp -dsimp -implicitDefEqProofs (disch := first | assumption | omega | (simp only [r_z, zah, zae, zam] <;> omega) | decide) only [r_r, ↓reduceIte, Nat.reduceEqDiff, Nat.reduceAdd, D.fix, Int.reduceToNat, Nat.reduceMul, Nat.reduceBNe, Nat.reduceBEq, r_w, r_m, zd8, zcz, zb1, zq1]
   refine zoz (S := zd8 (zcz ts μu μm) (zea l acc) μn1 rs) (T := [.cells [.d (iD v), .d (iD (num ts l)), .d (iD (num ts h))], .cells [.d (iD 0), .d (iD 0), .d (iD 0)]]) (ih h (by simp only [T.sz]; omega) (zea l acc) μn1 rs hch ra1 sa1 hN1) rfl (Nat.le_of_ble_eq_true rfl) (by first | rfl | (simp [AV.allIs, AV.allI, za3, zat, zau, okI, ltI, zao, zbb, zd8]; done) | (intro o ho; simp at ho; done)) (fun t => zbv (by first | rfl | (simp [AV.allIs, AV.allI, za3, zat, zau, okI, ltI, zao, zbb, zd8]; done) | (intro o ho; simp at ho; done)) t) (fun t => zbv (by first | rfl | (simp [AV.allIs, AV.allI, za3, zat, zau, okI, ltI, zao, zbb, zd8]; done) | (intro o ho; simp at ho; done)) t) (by first | rfl | (simp [AV.allIs, AV.allI, za3, zat, zau, okI, ltI, zao, zbb, zd8]; done) | (intro o ho; simp at ho; done)) (by first | rfl | (simp [AV.allIs, AV.allI, za3, zat, zau, okI, ltI, zao, zbb, zd8]; done) | (intro o ho; simp at ho; done)) (by first | rfl | (simp [AV.allIs, AV.allI, za3, zat, zau, okI, ltI, zao, zbb, zd8]; done) | (intro o ho; simp at ho; done)) ?_
   rintro _ _ ⟨μn2, rfl, rfl, hN2⟩
   refine ⟨rfl, ?_⟩
   simp -dsimp -implicitDefEqProofs (disch := first | assumption | omega | (simp only [r_z, zah, zae, zam] <;> omega) | decide) only [r_r, ↓reduceIte, Nat.reduceEqDiff, Nat.reduceAdd, D.fix, Int.reduceToNat, Nat.reduceMul, Nat.reduceBNe, Nat.reduceBEq, r_w, r_m, zd8, zcz, zb1, zq1]
   refine hK8 _ _ ?_
   refine zb3 hp (τ' := frL [(0, .d (iD (num ts (.node v l h)))), (1, .op 1 0), (4, .op 3 0), (10, .op 7 0)]) (H' := zd8 (zcz ts μu μm) (zea h (zea l acc)) μn2 rs ++ [.cells [.d (iD v), .d (iD (num (zea l acc) l)), .d (iD (num (zea h (zea l acc)) h))]]) ?_ ?_
   ·refine Rt.trans (Rt.gc (keep := [0,1,2,3,4,5,6,8]) (by decide) (by decide) (by simp [fzH, gcH])) ?_
    refine Rt.end (by repeat (first | exact zal _ | refine zai ?_ (by first | rfl | (simp [r_f, zah, zae, zam]; done) | simp [r_f, zah, zae, zam, *]))) ?_
    first | rfl | (simp only [r_g, Nat.reduceAdd, ↓reduceIte, Nat.reduceEqDiff, r_m, zd8, zcz, zb1]; first | done | rfl)
   refine zac hp zaj hc rfl fun K9 hK9 => ?_
   simp -dsimp -implicitDefEqProofs (disch := first | assumption | omega | (simp only [r_z, zah, zae, zam] <;> omega) | decide) only [r_r, ↓reduceIte, Nat.reduceEqDiff, Nat.reduceAdd, D.fix, Int.reduceToNat, Nat.reduceMul, Nat.reduceBNe, Nat.reduceBEq, r_m, zd8, zcz, zb1, zq1]
   refine hK9 _ _ ?_
   refine zac hp zaj hc rfl fun K10 hK10 => ?_
   simp -dsimp -implicitDefEqProofs (disch := first | assumption | omega | (simp only [r_z, zah, zae, zam] <;> omega) | decide) only [r_r, ↓reduceIte, Nat.reduceEqDiff, Nat.reduceAdd, D.fix, Int.reduceToNat, Nat.reduceMul, Nat.reduceBNe, Nat.reduceBEq, r_m, zd8, zcz, zb1, jb4 mtI hk hN2.ok, zq1]
   have hN3 := hN2.add hl' sa2 hf hn2
   refine hK10 _ _ ?_
   refine zac hp zaj hc rfl fun K11 hK11 => ?_
   simp -dsimp -implicitDefEqProofs (disch := first | assumption | omega | (simp only [r_z, zah, zae, zam] <;> omega) | decide) only [r_r, ↓reduceIte, Nat.reduceEqDiff, Nat.reduceAdd, D.fix, Int.reduceToNat, Nat.reduceMul, Nat.reduceBNe, Nat.reduceBEq, r_m, zd8, zcz, zb1, zia, jks mtI hk (hN2.ok.put hk), zs5 (rfl : zjh (.int .i64 (num ts (.node v l h) : Int)) = true), Option.getD_some, zq1]
   refine hK11 _ _ ?_
   refine zb3 hp (τ' := frL [(6, .d (.val (.int .i64 (1 + (((zea h (zea l acc)).length + 1 : Nat) : Int)))))]) (H' := zd8 (zcz ts μu μm) (zea h (zea l acc) ++ [.node v l h]) (zny (vi (num ts (.node v l h))) (.int .i64 (1 + (((zea h (zea l acc)).length + 1 : Nat) : Int))) μn2) rs) ?_ ?_
   ·refine Rt.trans (Rt.gc (keep := [0,1,2,3,4,9,6]) (by decide) (by decide) (by simp [fzH, gcH])) ?_
    refine Rt.end (by repeat (first | exact zal _ | refine zai ?_ (by first | rfl | (simp [r_f, zah, zae, zam]; done) | simp [r_f, zah, zae, zam, *]))) ?_
    simp only [r_g, Nat.reduceAdd, ↓reduceIte, Nat.reduceEqDiff]; unfold zd8; rw [jdb (t := .node v l h) ra2 (zcc hpre2 hmem1) hmem2]; simp [ndC, zjy, T.v, T.l, T.h, vi, iD, avs, zdr hpre2 hmem1, zcz]
   refine za6 ?_
   refine zbs (t := 6) rfl ?_
   show ∃ _, _
   have eu : (1 + (((zea h (zea l acc)).length + 1 : Nat) : Int)) = ((2 + (zea h (zea l acc)).length : Nat) : Int) := by omega
   rw [hev, eu]
   exact ⟨_, rfl, by rw [zp8 hn2]; rfl, hN3⟩
end Go.Proofs.Ytignimmnnccblaa
