/- The search that numbers nodes. -/
import Derived.Test.YtignimmnnccblaaQr
import Derived.Test.YtignimmnnccblaaCe
set_option linter.unusedVariables false
set_option linter.unusedSimpArgs false
set_option maxRecDepth 100000
set_option maxHeartbeats 4000000
namespace Go.Proofs.Ytignimmnnccblaa
open Go Go.RowKit
theorem zqp : ((((((type_of% @zou) ∧ (type_of% @zov)) ∧ ((type_of% @zow) ∧ ((type_of% @zox) ∧ (type_of% @zlz)))) ∧ (((type_of% @zl0) ∧ (type_of% @zhq)) ∧ ((type_of% @zhr) ∧ ((type_of% @zhs) ∧ (type_of% @zht))))) ∧ ((((type_of% @zgq) ∧ (type_of% @zgr)) ∧ ((type_of% @zjv) ∧ ((type_of% @zjw) ∧ (type_of% @zgf)))) ∧ (((type_of% @zgg) ∧ (type_of% @zgh)) ∧ ((type_of% @zgk) ∧ ((type_of% @zgl) ∧ (type_of% @zhv)))))) ∧ (((((type_of% @zhu) ∧ (type_of% @zez)) ∧ ((type_of% @ze0) ∧ ((type_of% @zex) ∧ (type_of% @zey)))) ∧ (((type_of% @jgd) ∧ (type_of% @jge)) ∧ ((type_of% @zgm) ∧ ((type_of% @zgn) ∧ (type_of% @zgo))))) ∧ ((((type_of% @zgp) ∧ (type_of% @zo0)) ∧ ((type_of% @zje) ∧ ((type_of% @zjf) ∧ (type_of% @zjg)))) ∧ (((type_of% @zgi) ∧ ((type_of% @zgj) ∧ (type_of% @zeg))) ∧ ((type_of% @zeh) ∧ ((type_of% @zjs) ∧ (type_of% @zfa))))))) := ⟨⟨⟨⟨⟨@zou, @zov⟩, ⟨@zow, ⟨@zox, @zlz⟩⟩⟩, ⟨⟨@zl0, @zhq⟩, ⟨@zhr, ⟨@zhs, @zht⟩⟩⟩⟩, ⟨⟨⟨@zgq, @zgr⟩, ⟨@zjv, ⟨@zjw, @zgf⟩⟩⟩, ⟨⟨@zgg, @zgh⟩, ⟨@zgk, ⟨@zgl, @zhv⟩⟩⟩⟩⟩, ⟨⟨⟨⟨@zhu, @zez⟩, ⟨@ze0, ⟨@zex, @zey⟩⟩⟩, ⟨⟨@jgd, @jge⟩, ⟨@zgm, ⟨@zgn, @zgo⟩⟩⟩⟩, ⟨⟨⟨@zgp, @zo0⟩, ⟨@zje, ⟨@zjf, @zjg⟩⟩⟩, ⟨⟨@zgi, ⟨@zgj, @zeg⟩⟩, ⟨@zeh, ⟨@zjs, @zfa⟩⟩⟩⟩⟩⟩
def zd8 : T → List T → List T
 | .leaf _, acc => acc
 | .node v l h, acc => if T.node v l h ∈ acc then acc else zd8 h (zd8 l acc) ++ [.node v l h]
theorem zln : ∀ (t : T) (acc : List T), acc <+: zd8 t acc
 | .leaf _, acc => List.prefix_refl _
 | .node v l h, acc => by
  unfold zd8
  split
  ·exact List.prefix_refl _
  ·exact (zln l acc).trans ((zln h _).trans (List.prefix_append _ _))
theorem znm : ∀ (t : T) (acc : List T), t ∈ zbq (zd8 t acc)
 | .leaf b, acc => jph _ b
 | .node v l h, acc => by
  unfold zd8
  split
  ·rename_i hm; exact List.mem_cons_of_mem _ (List.mem_cons_of_mem _ hm)
  ·rw [zfp]; simp
theorem zo3 : ∀ (t : T) (acc : List T) (s : T), s ∈ zd8 t acc → s ∈ acc ∨ s.sz ≤ t.sz
 | .leaf b, acc, s, hs => .inl hs
 | .node v l h, acc, s, hs => by
  unfold zd8 at hs
  split at hs
  ·exact .inl hs
  ·rcases List.mem_append.1 hs with hs | hs
   ·rcases zo3 h _ s hs with hs | hs
    ·rcases zo3 l _ s hs with hs | hs
     ·exact .inl hs
     ·exact .inr (by simp only [T.sz]; omega)
    ·exact .inr (by simp only [T.sz]; omega)
   ·rw [List.mem_singleton.1 hs]; exact .inr (Nat.le_refl _)
theorem zqq {acc us : List T} (h : ∀ t ∈ acc, t ∈ zbq us) : ∀ t ∈ zbq acc, t ∈ zbq us := fun t ht => by
 simp only [zbq, List.mem_cons] at ht
 rcases ht with rfl | rfl | ht
 ·exact zhy _
 ·exact zp5 _
 ·exact h t ht
theorem znn {V : Nat} {ts : List T} (hr : RowOk V ts) : ∀ (t : T) (acc : List T), t ∈ zbq ts → (∀ s ∈ acc, s ∈ zbq ts) → ∀ s ∈ zd8 t acc, s ∈ zbq ts
 | .leaf b, acc, _, h => h
 | .node v l r, acc, ht, h => fun s hs => by
  unfold zd8 at hs
  split at hs
  ·exact h s hs
  ·rcases List.mem_append.1 hs with hs | hs
   ·exact znn hr r _ (hr.chf ht).2 (znn hr l acc (hr.chf ht).1 h) s hs
   ·rw [List.mem_singleton.1 hs]; exact ht
theorem zlo {V : Nat} : ∀ (t : T) (k : Nat) (acc : List T), t.Ok V k → RowOk V acc → RowOk V (zd8 t acc)
 | .leaf b, _, acc, _, h => h
 | .node v l r, k, acc, ht, h => by
  unfold zd8
  split
  ·exact h
  ·rename_i hn
   have h1 := zlo l (v + 1) acc ht.2.2.2.1 h
   have h2 := zlo r (v + 1) (zd8 l acc) ht.2.2.2.2 h1
   refine h2.snoc (ht.mono (Nat.zero_le _)) (fun hm => ?_) (zcb (zln r _) (znm l acc)) (znm r _)
   simp only [zbq, List.mem_cons] at hm
   rcases hm with hm | hm | hm
   ·cases hm
   ·cases hm
   ·rcases zo3 r _ _ hm with hm | hm
    ·rcases zo3 l _ _ hm with hm | hm
     ·exact hn hm
     ·simp only [T.sz] at hm; omega
    ·simp only [T.sz] at hm; omega
theorem zno {α : Type} [DecidableEq α] : ∀ {l m : List α}, l.Nodup → (∀ x ∈ l, x ∈ m) → l.length ≤ m.length
 | [], m, _, _ => Nat.zero_le _
 | a :: l, m, hn, h => by
  have ha := h a (List.mem_cons_self ..)
  have h1 := List.nodup_cons.1 hn
  have := zno (l := l) (m := m.erase a) h1.2 fun x hx => (List.mem_erase_of_ne (by rintro rfl; exact h1.1 hx)).2 (h x (List.mem_cons_of_mem _ hx))
  rw [List.length_erase_of_mem ha] at this
  have hp := List.length_pos_of_mem ha
  rw [List.length_cons]; omega
theorem zt5 {V : Nat} {ts acc : List T} (ha : RowOk V acc) (h : ∀ s ∈ acc, s ∈ zbq ts) : acc.length ≤ ts.length := by
 have := zno ha.nd (zqq h)
 rw [zew, zew] at this; omega
def zlp (ts : List T) : List Nd := ts.map (zjr ts)
theorem zan (ts : List T) : (zlp ts).length = ts.length := by simp [zlp]
theorem jdx {V : Nat} {ts : List T} (h : RowOk V ts) {t : T} (hl : t.l ∈ zbq ts) (hh : t.h ∈ zbq ts) : zlp (ts ++ [t]) = zlp ts ++ [zjr ts t] := by
 unfold zlp
 rw [List.map_append]
 congr 1
 ·exact List.map_congr_left fun s hs => zwo h (List.prefix_append _ _) (List.mem_cons_of_mem _ (List.mem_cons_of_mem _ hs))
 ·simp only [List.map_cons, List.map_nil]
  unfold zjr
  rw [zef hl, zef hh]
abbrev tI : TypeId := 109
theorem mtI : mtB Try.prog KT tI = some (.int .i64 0) := by kernel_rfl
theorem jjv {n : Nat} (h : n ≤ 4000000000) : zpz Try.prog tI (vi n) := js0 (et := 3) (by kernel_rfl) (jjp h)
structure NOk (ts acc : List T) (μ : Mp) : Prop where
 ok : OkM Try.prog tI μ
 get : ∀ t ∈ zbq acc, zg5 (vi (num ts t)) μ = some (vi (num acc t))
 inv : ∀ k u, zg5 k μ = some u → ∃ t ∈ zbq acc, k = vi (num ts t)
theorem NOk.add {ts acc : List T} {μ : Mp} (h : NOk ts acc μ) (hl : ts.length ≤ zel) (hs : ∀ s ∈ acc, s ∈ zbq ts) {t : T} (ht : t ∈ zbq ts) (hn : t ∉ zbq acc) : NOk ts (acc ++ [t]) (znz (vi (num ts t)) (vi (2 + acc.length)) μ) := by
 have hk : zpz Try.prog tI (vi (num ts t)) := jjv (znk hl ht)
 classical
 refine ⟨h.ok.put hk, fun s hs' => ?_, fun k u hg => ?_⟩
 ·rw [zge hk.1 (by rfl)]
  rw [zfp, List.mem_append] at hs'
  rcases hs' with hs' | hs'
  ·have hsf := zqq hs s hs'
   rw [zef hs', if_neg fun e => hn (zdl hsf ht (znj e) ▸ hs')]
   exact h.get s hs'
  ·rw [List.mem_singleton.1 hs', zp2 hn, if_pos rfl]
 ·by_cases hk' : zji k = true
  ·rw [zge hk.1 hk'] at hg
   split at hg
   ·rename_i e; exact ⟨t, by rw [zfp]; simp, e⟩
   ·obtain ⟨s, h1, h2⟩ := h.inv k u hg
    exact ⟨s, zg7 h1, h2⟩
  ·obtain ⟨n, hm⟩ := zkj hg
   exact absurd ((h.ok.put hk).keys _ hm).1 hk'
theorem NOk.none {ts acc : List T} {μ : Mp} (h : NOk ts acc μ) (hs : ∀ s ∈ acc, s ∈ zbq ts) {t : T} (ht : t ∈ zbq ts) (hn : t ∉ zbq acc) : zg5 (vi (num ts t)) μ = none := by
 cases hg : zg5 (vi (num ts t)) μ with
 | none => rfl
 | some u =>
  obtain ⟨s, h1, h2⟩ := h.inv _ _ hg
  exact absurd (zdl ht (zqq hs s h1) (znj h2) ▸ h1) hn
def zd6 (md : D) (acc : List T) (μn : Mp) (rs : List Nat) : zar := [.cells [.d md], .cells [.om 4], .cells [.clo (.func 73) [] [.op 1 0, .op 0 0, .op 2 0, .op 3 0]], .cells [.os 3 5 0 acc.length, .os 1 6 0 rs.length], mO μn, .cells (avs ((zlp acc).flatMap ndC)), .cells (avs (rs.map zbw))]
def jue (md : D) (ts acc : List T) (rs : List Nat) (f : T) (x : AV) (S' : zar) : Prop := ∃ μn', S' = zd6 md (zd8 f acc) μn' rs ∧ x = .d (iD (num (zd8 f acc) f)) ∧ NOk ts (zd8 f acc) μn'
def juf (V : Nat) (ts : List T) (μu μm : Mp) (f : T) : Prop := ∀ (acc : List T) (μn : Mp) (rs : List Nat), f ∈ zbq ts → RowOk V acc → (∀ s ∈ acc, s ∈ zbq ts) → NOk ts acc μn →
 ScS Try.prog [0, 1, 2, 3, 4, 6] 73 [.d (iD (num ts f)), .op 1 0, .op 0 0, .op 2 0, .op 3 0] (zd6 (zc0 ts μu μm) acc μn rs) (jue (zc0 ts μu μm) ts acc rs f)
theorem js5 (V : Nat) (ts : List T) (μu μm : Mp) (hr : RowOk V ts) (hl : ts.length ≤ zel) (f : T) (ih : ∀ s : T, s.sz < f.sz → juf V ts μu μm s) (acc : List T) (μn : Mp) (rs : List Nat) (hf : f ∈ zbq ts) (ha : RowOk V acc) (hs : ∀ s ∈ acc, s ∈ zbq ts) (hN : NOk ts acc μn) : ScS Try.prog [0, 1, 2, 3, 4, 6] 73 [.d (iD (num ts f)), .op 1 0, .op 0 0, .op 2 0, .op 3 0] (zd6 (zc0 ts μu μm) acc μn rs) (jue (zc0 ts μu μm) ts acc rs f) := by
 refine zhd (fn := Try.f73) (by kernel_rfl) Try.func73 rfl (Nat.le_of_ble_eq_true rfl) fun c hc hp => ?_
 refine jkv ?_
 have hl' := hl
 unfold zel at hl
 have nf := zee hf
 have hlen := zt5 ha hs
 have hk : zpz Try.prog tI (.int .i64 (num ts f)) := jjv (znk hl' hf)
 refine zac hp zaj hc rfl fun K1 hK1 => ?_
 simp -dsimp -implicitDefEqProofs (disch := first | assumption | omega | (simp only [r_z, zai, zad, zan] <;> omega) | decide) only [r_r, ↓reduceIte, Nat.reduceEqDiff, Nat.reduceAdd, D.fix, Int.reduceToNat, Nat.reduceMul, Nat.reduceBNe, Nat.reduceBEq, r_m, zd6, zc0, zbw]
 refine hK1 _ _ ?_
 refine zam fun K2 hK2 => ?_
 refine zac hp zaj hc rfl fun K3 hK3 => ?_
 by_cases hg : (f ∈ zbq acc)
 ·have hgm : zg5 (.int .i64 (num ts f)) μn = some (vi (num acc f)) := hN.get f hg
  simp -dsimp -implicitDefEqProofs (disch := first | assumption | omega | (simp only [r_z, zai, zad, zan] <;> omega) | decide) only [r_r, ↓reduceIte, Nat.reduceEqDiff, Nat.reduceAdd, D.fix, Int.reduceToNat, Nat.reduceMul, Nat.reduceBNe, Nat.reduceBEq, r_m, zd6, zc0, zbw, zih, zsh mtI hk hN.ok, hgm, Option.getD_some, Option.getD_none, Option.isSome_some, Option.isSome_none, zqp]
  refine hK3 _ _ ?_
  refine zac hp zaj hc rfl fun K4 hK4 => ?_
  simp -dsimp -implicitDefEqProofs (disch := first | assumption | omega | (simp only [r_z, zai, zad, zan] <;> omega) | decide) only [r_r, ↓reduceIte, Nat.reduceEqDiff, Nat.reduceAdd, D.fix, Int.reduceToNat, Nat.reduceMul, Nat.reduceBNe, Nat.reduceBEq, r_m, zd6, zc0, zbw]
  refine hK4 _ _ ?_
  refine zaq rfl (fun ht => ?_) (fun ht => ?_)
  ·refine zac hp zaj hc rfl fun K5 hK5 => ?_
   simp -dsimp -implicitDefEqProofs (disch := first | assumption | omega | (simp only [r_z, zai, zad, zan] <;> omega) | decide) only [r_r, ↓reduceIte, Nat.reduceEqDiff, Nat.reduceAdd, D.fix, Int.reduceToNat, Nat.reduceMul, Nat.reduceBNe, Nat.reduceBEq, r_m, zd6, zc0, zbw]
   refine hK5 _ _ ?_
   refine zb2 hp (τ' := frL [(6, .d (iD (num acc f)))]) (H' := zd6 (zc0 ts μu μm) acc μn rs) ?_ ?_
   ·refine Rt.trans (Rt.gc (keep := [0,1,2,3,4,5,6]) (by decide) (by decide) (by simp [fzH, gcH])) ?_
    refine Rt.end (by repeat (first | exact zak _ | refine zah ?_ (by first | rfl | (simp [r_f, zai, zad, zan]; done) | simp [r_f, zai, zad, zan, *]))) ?_
    first | rfl | (simp only [r_g, Nat.reduceAdd, ↓reduceIte, Nat.reduceEqDiff, r_m, zd6, zc0, zbw]; first | done | rfl)
   refine za4 ?_
   refine zbp (t := 6) rfl ?_
   show ∃ _, _
   have e : zd8 f acc = acc := by
    cases f with
    | leaf b => rfl
    | node v l h => unfold zd8; rw [if_pos (by simpa [zbq] using hg)]
   rw [e]
   exact ⟨μn, rfl, rfl, hN⟩
  ·cases ht
 ·have hgm : zg5 (.int .i64 (num ts f)) μn = none := hN.none hs hf hg
  simp -dsimp -implicitDefEqProofs (disch := first | assumption | omega | (simp only [r_z, zai, zad, zan] <;> omega) | decide) only [r_r, ↓reduceIte, Nat.reduceEqDiff, Nat.reduceAdd, D.fix, Int.reduceToNat, Nat.reduceMul, Nat.reduceBNe, Nat.reduceBEq, r_m, zd6, zc0, zbw, zih, zsh mtI hk hN.ok, hgm, Option.getD_some, Option.getD_none, Option.isSome_some, Option.isSome_none, zqp]
  refine hK3 _ _ ?_
  refine zac hp zaj hc rfl fun K6 hK6 => ?_
  simp -dsimp -implicitDefEqProofs (disch := first | assumption | omega | (simp only [r_z, zai, zad, zan] <;> omega) | decide) only [r_r, ↓reduceIte, Nat.reduceEqDiff, Nat.reduceAdd, D.fix, Int.reduceToNat, Nat.reduceMul, Nat.reduceBNe, Nat.reduceBEq, r_m, zd6, zc0, zbw]
  refine hK6 _ _ ?_
  refine zaq rfl (fun ht => ?_) (fun ht => ?_)
  ·cases ht
  ·refine zay (hK2 _ _ ?_)
   refine zac hp zaj hc rfl fun K7 hK7 => ?_
   simp -dsimp -implicitDefEqProofs (disch := first | assumption | omega | (simp only [r_z, zai, zad, zan] <;> omega) | decide) only [r_r, ↓reduceIte, Nat.reduceEqDiff, Nat.reduceAdd, D.fix, Int.reduceToNat, Nat.reduceMul, Nat.reduceBNe, Nat.reduceBEq, r_m, zd6, zc0, zbw, zxu, jk4, zi7 hf, ndC, zjr, zqp]
   obtain ⟨v, l, h, rfl⟩ : ∃ v l h, f = .node v l h := by
    cases f with
    | leaf b => exact absurd (jph acc b) hg
    | node v l h => exact ⟨v, l, h, rfl⟩
   have hcl : l ∈ zbq ts := (hr.chf hf).1
   have hch : h ∈ zbq ts := (hr.chf hf).2
   have hok := hr.okf hf
   have hn' : T.node v l h ∉ acc := fun hm => hg (List.mem_cons_of_mem _ (List.mem_cons_of_mem _ hm))
   have hev : zd8 (.node v l h) acc = zd8 h (zd8 l acc) ++ [.node v l h] := by rw [zd8, if_neg hn']
   have ra1 := zlo l 0 acc hok.l_ok ha
   have sa1 := znn hr l acc hcl hs
   have ra2 := zlo h 0 (zd8 l acc) hok.h_ok ra1
   have sa2 := znn hr h (zd8 l acc) hch sa1
   have hlen2 := zt5 ra2 sa2
   have hmem1 := znm l acc
   have hmem2 := znm h (zd8 l acc)
   have hpre2 := zln h (zd8 l acc)
   have hn2 : T.node v l h ∉ zbq (zd8 h (zd8 l acc)) := fun hm => by
    simp only [zbq, List.mem_cons] at hm
    rcases hm with hm | hm | hm
    ·cases hm
    ·cases hm
    ·rcases zo3 h _ _ hm with hm | hm
     ·rcases zo3 l _ _ hm with hm | hm
      ·exact hn' hm
      ·simp only [T.sz] at hm; omega
     ·simp only [T.sz] at hm; omega
   refine hK7 _ _ ?_
   refine zb2 hp (τ' := frL [(0, .d (iD (num ts (.node v l h)))), (1, .op 1 0), (2, .op 0 0), (3, .op 2 0), (4, .op 3 0), (9, .op 7 0)]) (H' := zd6 (zc0 ts μu μm) acc μn rs ++ [.cells [.d (iD v), .d (iD (num ts l)), .d (iD (num ts h))]]) ?_ ?_
   ·refine Rt.trans (Rt.gc (keep := [0,1,2,3,4,5,6,7]) (by decide) (by decide) (by simp [fzH, gcH])) ?_
    refine Rt.end (by repeat (first | exact zak _ | refine zah ?_ (by first | rfl | (simp [r_f, zai, zad, zan]; done) | simp [r_f, zai, zad, zan, *]))) ?_
    first | rfl | (simp only [r_g, Nat.reduceAdd, ↓reduceIte, Nat.reduceEqDiff, r_m, zd6, zc0, zbw]; first | done | rfl)
   refine zd5 zaj hp hc mixed rfl [(0, []), (1, []), (2, []), (3, []), (4, []), (6, []), (7, []), (8, []), (11, []), (5, [1, 6, 8]), (9, [1]), (10, []), (12, [])] [[], [0], [], [], [3], [2, 3, 4], [], [], [7], [2, 3, 4, 5, 6, 7, 8], [0, 1, 2, 3, 4, 5, 6, 7, 8, 9], [], [0, 1, 2, 3, 4, 5, 6, 7, 8, 9, 10, 11]] 1 (by kernel_rfl) fun K8 hK8 => ?_
   simp -dsimp -implicitDefEqProofs (disch := first | assumption | omega | (simp only [r_z, zai, zad, zan] <;> omega) | decide) only [r_r, ↓reduceIte, Nat.reduceEqDiff, Nat.reduceAdd, D.fix, Int.reduceToNat, Nat.reduceMul, Nat.reduceBNe, Nat.reduceBEq, r_w, r_m, zd6, zc0, zbw, zqp]
   refine zot (S := zd6 (zc0 ts μu μm) acc μn rs) (T := [.cells [.d (iD v), .d (iD (num ts l)), .d (iD (num ts h))], .cells [.d (iD 0), .d (iD 0), .d (iD 0)]]) (ih l (by simp only [T.sz]; omega) acc μn rs hcl ha hs hN) rfl (Nat.le_of_ble_eq_true rfl) (by first | rfl | (simp [AV.allIs, AV.allI, za1, zat, zau, okI, ltI, zao, zbb, zd6]; done) | (intro o ho; simp at ho; done)) (fun t => zbr (by first | rfl | (simp [AV.allIs, AV.allI, za1, zat, zau, okI, ltI, zao, zbb, zd6]; done) | (intro o ho; simp at ho; done)) t) (fun t => zbr (by first | rfl | (simp [AV.allIs, AV.allI, za1, zat, zau, okI, ltI, zao, zbb, zd6]; done) | (intro o ho; simp at ho; done)) t) (by first | rfl | (simp [AV.allIs, AV.allI, za1, zat, zau, okI, ltI, zao, zbb, zd6]; done) | (intro o ho; simp at ho; done)) (by first | rfl | (simp [AV.allIs, AV.allI, za1, zat, zau, okI, ltI, zao, zbb, zd6]; done) | (intro o ho; simp at ho; done)) (by first | rfl | (simp [AV.allIs, AV.allI, za1, zat, zau, okI, ltI, zao, zbb, zd6]; done) | (intro o ho; simp at ho; done)) ?_
   rintro _ _ ⟨μn1, rfl, rfl, hN1⟩
   refine ⟨rfl, ?_⟩
   simp -dsimp -implicitDefEqProofs (disch := first | assumption | omega | (simp only [r_z, zai, zad, zan] <;> omega) | decide) only [r_r, ↓reduceIte, Nat.reduceEqDiff, Nat.reduceAdd, D.fix, Int.reduceToNat, Nat.reduceMul, Nat.reduceBNe, Nat.reduceBEq, r_w, r_m, zd6, zc0, zbw, zqp]
   refine zot (S := zd6 (zc0 ts μu μm) (zd8 l acc) μn1 rs) (T := [.cells [.d (iD v), .d (iD (num ts l)), .d (iD (num ts h))], .cells [.d (iD 0), .d (iD 0), .d (iD 0)]]) (ih h (by simp only [T.sz]; omega) (zd8 l acc) μn1 rs hch ra1 sa1 hN1) rfl (Nat.le_of_ble_eq_true rfl) (by first | rfl | (simp [AV.allIs, AV.allI, za1, zat, zau, okI, ltI, zao, zbb, zd6]; done) | (intro o ho; simp at ho; done)) (fun t => zbr (by first | rfl | (simp [AV.allIs, AV.allI, za1, zat, zau, okI, ltI, zao, zbb, zd6]; done) | (intro o ho; simp at ho; done)) t) (fun t => zbr (by first | rfl | (simp [AV.allIs, AV.allI, za1, zat, zau, okI, ltI, zao, zbb, zd6]; done) | (intro o ho; simp at ho; done)) t) (by first | rfl | (simp [AV.allIs, AV.allI, za1, zat, zau, okI, ltI, zao, zbb, zd6]; done) | (intro o ho; simp at ho; done)) (by first | rfl | (simp [AV.allIs, AV.allI, za1, zat, zau, okI, ltI, zao, zbb, zd6]; done) | (intro o ho; simp at ho; done)) (by first | rfl | (simp [AV.allIs, AV.allI, za1, zat, zau, okI, ltI, zao, zbb, zd6]; done) | (intro o ho; simp at ho; done)) ?_
   rintro _ _ ⟨μn2, rfl, rfl, hN2⟩
   refine ⟨rfl, ?_⟩
   simp -dsimp -implicitDefEqProofs (disch := first | assumption | omega | (simp only [r_z, zai, zad, zan] <;> omega) | decide) only [r_r, ↓reduceIte, Nat.reduceEqDiff, Nat.reduceAdd, D.fix, Int.reduceToNat, Nat.reduceMul, Nat.reduceBNe, Nat.reduceBEq, r_w, r_m, zd6, zc0, zbw, zqp]
   refine hK8 _ _ ?_
   refine zb2 hp (τ' := frL [(0, .d (iD (num ts (.node v l h)))), (1, .op 1 0), (4, .op 3 0), (10, .op 7 0)]) (H' := zd6 (zc0 ts μu μm) (zd8 h (zd8 l acc)) μn2 rs ++ [.cells [.d (iD v), .d (iD (num (zd8 l acc) l)), .d (iD (num (zd8 h (zd8 l acc)) h))]]) ?_ ?_
   ·refine Rt.trans (Rt.gc (keep := [0,1,2,3,4,5,6,8]) (by decide) (by decide) (by simp [fzH, gcH])) ?_
    refine Rt.end (by repeat (first | exact zak _ | refine zah ?_ (by first | rfl | (simp [r_f, zai, zad, zan]; done) | simp [r_f, zai, zad, zan, *]))) ?_
    first | rfl | (simp only [r_g, Nat.reduceAdd, ↓reduceIte, Nat.reduceEqDiff, r_m, zd6, zc0, zbw]; first | done | rfl)
   refine zac hp zaj hc rfl fun K9 hK9 => ?_
   simp -dsimp -implicitDefEqProofs (disch := first | assumption | omega | (simp only [r_z, zai, zad, zan] <;> omega) | decide) only [r_r, ↓reduceIte, Nat.reduceEqDiff, Nat.reduceAdd, D.fix, Int.reduceToNat, Nat.reduceMul, Nat.reduceBNe, Nat.reduceBEq, r_m, zd6, zc0, zbw, zqp]
   refine hK9 _ _ ?_
   refine zac hp zaj hc rfl fun K10 hK10 => ?_
   simp -dsimp -implicitDefEqProofs (disch := first | assumption | omega | (simp only [r_z, zai, zad, zan] <;> omega) | decide) only [r_r, ↓reduceIte, Nat.reduceEqDiff, Nat.reduceAdd, D.fix, Int.reduceToNat, Nat.reduceMul, Nat.reduceBNe, Nat.reduceBEq, r_m, zd6, zc0, zbw, jcg mtI hk hN2.ok, zqp]
   have hN3 := hN2.add hl' sa2 hf hn2
   refine hK10 _ _ ?_
   refine zac hp zaj hc rfl fun K11 hK11 => ?_
   simp -dsimp -implicitDefEqProofs (disch := first | assumption | omega | (simp only [r_z, zai, zad, zan] <;> omega) | decide) only [r_r, ↓reduceIte, Nat.reduceEqDiff, Nat.reduceAdd, D.fix, Int.reduceToNat, Nat.reduceMul, Nat.reduceBNe, Nat.reduceBEq, r_m, zd6, zc0, zbw, zih, jk1 mtI hk (hN2.ok.put hk), zsx (rfl : zji (.int .i64 (num ts (.node v l h) : Int)) = true), Option.getD_some, zqp]
   refine hK11 _ _ ?_
   refine zb2 hp (τ' := frL [(6, .d (.val (.int .i64 (1 + (((zd8 h (zd8 l acc)).length + 1 : Nat) : Int)))))]) (H' := zd6 (zc0 ts μu μm) (zd8 h (zd8 l acc) ++ [.node v l h]) (znz (vi (num ts (.node v l h))) (.int .i64 (1 + (((zd8 h (zd8 l acc)).length + 1 : Nat) : Int))) μn2) rs) ?_ ?_
   ·refine Rt.trans (Rt.gc (keep := [0,1,2,3,4,9,6]) (by decide) (by decide) (by simp [fzH, gcH])) ?_
    refine Rt.end (by repeat (first | exact zak _ | refine zah ?_ (by first | rfl | (simp [r_f, zai, zad, zan]; done) | simp [r_f, zai, zad, zan, *]))) ?_
    simp only [r_g, Nat.reduceAdd, ↓reduceIte, Nat.reduceEqDiff]; unfold zd6; rw [jdx (t := .node v l h) ra2 (zcb hpre2 hmem1) hmem2]; simp [ndC, zjr, T.v, T.l, T.h, vi, iD, avs, zdr hpre2 hmem1, zc0]
   refine za4 ?_
   refine zbp (t := 6) rfl ?_
   show ∃ _, _
   have eu : (1 + (((zd8 h (zd8 l acc)).length + 1 : Nat) : Int)) = ((2 + (zd8 h (zd8 l acc)).length : Nat) : Int) := by omega
   rw [hev, eu]
   exact ⟨_, rfl, by rw [zp2 hn2]; rfl, hN3⟩
end Go.Proofs.Ytignimmnnccblaa
