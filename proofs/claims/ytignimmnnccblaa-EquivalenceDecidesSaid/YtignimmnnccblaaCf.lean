/- The search that numbers nodes. -/
import Derived.Test.YtignimmnnccblaaQr
import Derived.Test.YtignimmnnccblaaCe
set_option linter.unusedVariables false
set_option linter.unusedSimpArgs false
set_option maxRecDepth 100000
set_option maxHeartbeats 4000000
namespace Go.Proofs.Ytignimmnnccblaa
open Go Go.RowKit
theorem zqg : ((((((type_of% @zou) ∧ (type_of% @zov)) ∧ ((type_of% @zow) ∧ ((type_of% @zox) ∧ (type_of% @zl0)))) ∧ (((type_of% @zl1) ∧ (type_of% @zhw)) ∧ ((type_of% @zhx) ∧ ((type_of% @zhm) ∧ (type_of% @zhn))))) ∧ ((((type_of% @zge) ∧ (type_of% @zgf)) ∧ ((type_of% @zjr) ∧ ((type_of% @zjs) ∧ (type_of% @zf3)))) ∧ (((type_of% @zf4) ∧ (type_of% @zf5)) ∧ ((type_of% @zf8) ∧ ((type_of% @zf9) ∧ (type_of% @zhp)))))) ∧ (((((type_of% @zho) ∧ (type_of% @zex)) ∧ ((type_of% @zey) ∧ ((type_of% @ze4) ∧ (type_of% @ze5)))) ∧ (((type_of% @jf3) ∧ (type_of% @jf4)) ∧ ((type_of% @zga) ∧ ((type_of% @zgb) ∧ (type_of% @zgc))))) ∧ ((((type_of% @zgd) ∧ (type_of% @zo0)) ∧ ((type_of% @zi8) ∧ ((type_of% @zi9) ∧ (type_of% @zja)))) ∧ (((type_of% @zf6) ∧ ((type_of% @zf7) ∧ (type_of% @zeg))) ∧ ((type_of% @zeh) ∧ ((type_of% @zjo) ∧ (type_of% @ze7))))))) := ⟨⟨⟨⟨⟨@zou, @zov⟩, ⟨@zow, ⟨@zox, @zl0⟩⟩⟩, ⟨⟨@zl1, @zhw⟩, ⟨@zhx, ⟨@zhm, @zhn⟩⟩⟩⟩, ⟨⟨⟨@zge, @zgf⟩, ⟨@zjr, ⟨@zjs, @zf3⟩⟩⟩, ⟨⟨@zf4, @zf5⟩, ⟨@zf8, ⟨@zf9, @zhp⟩⟩⟩⟩⟩, ⟨⟨⟨⟨@zho, @zex⟩, ⟨@zey, ⟨@ze4, @ze5⟩⟩⟩, ⟨⟨@jf3, @jf4⟩, ⟨@zga, ⟨@zgb, @zgc⟩⟩⟩⟩, ⟨⟨⟨@zgd, @zo0⟩, ⟨@zi8, ⟨@zi9, @zja⟩⟩⟩, ⟨⟨@zf6, ⟨@zf7, @zeg⟩⟩, ⟨@zeh, ⟨@zjo, @ze7⟩⟩⟩⟩⟩⟩
def zd9 : T → List T → List T
 | .leaf _, acc => acc
 | .node v l h, acc => if T.node v l h ∈ acc then acc else zd9 h (zd9 l acc) ++ [.node v l h]
theorem zln : ∀ (t : T) (acc : List T), acc <+: zd9 t acc
 | .leaf _, acc => List.prefix_refl _
 | .node v l h, acc => by
  unfold zd9
  split
  ·exact List.prefix_refl _
  ·exact (zln l acc).trans ((zln h _).trans (List.prefix_append _ _))
theorem zno : ∀ (t : T) (acc : List T), t ∈ zbr (zd9 t acc)
 | .leaf b, acc => jo0 _ b
 | .node v l h, acc => by
  unfold zd9
  split
  ·rename_i hm; exact List.mem_cons_of_mem _ (List.mem_cons_of_mem _ hm)
  ·rw [zfc]; simp
theorem zo3 : ∀ (t : T) (acc : List T) (s : T), s ∈ zd9 t acc → s ∈ acc ∨ s.sz ≤ t.sz
 | .leaf b, acc, s, hs => .inl hs
 | .node v l h, acc, s, hs => by
  unfold zd9 at hs
  split at hs
  ·exact .inl hs
  ·rcases List.mem_append.1 hs with hs | hs
   ·rcases zo3 h _ s hs with hs | hs
    ·rcases zo3 l _ s hs with hs | hs
     ·exact .inl hs
     ·exact .inr (by simp only [T.sz]; omega)
    ·exact .inr (by simp only [T.sz]; omega)
   ·rw [List.mem_singleton.1 hs]; exact .inr (Nat.le_refl _)
theorem zqh {acc us : List T} (h : ∀ t ∈ acc, t ∈ zbr us) : ∀ t ∈ zbr acc, t ∈ zbr us := fun t ht => by
 simp only [zbr, List.mem_cons] at ht
 rcases ht with rfl | rfl | ht
 ·exact zhr _
 ·exact zp2 _
 ·exact h t ht
theorem znp {V : Nat} {ts : List T} (hr : RowOk V ts) : ∀ (t : T) (acc : List T), t ∈ zbr ts → (∀ s ∈ acc, s ∈ zbr ts) → ∀ s ∈ zd9 t acc, s ∈ zbr ts
 | .leaf b, acc, _, h => h
 | .node v l r, acc, ht, h => fun s hs => by
  unfold zd9 at hs
  split at hs
  ·exact h s hs
  ·rcases List.mem_append.1 hs with hs | hs
   ·exact znp hr r _ (hr.chf ht).2 (znp hr l acc (hr.chf ht).1 h) s hs
   ·rw [List.mem_singleton.1 hs]; exact ht
theorem zlo {V : Nat} : ∀ (t : T) (k : Nat) (acc : List T), t.Ok V k → RowOk V acc → RowOk V (zd9 t acc)
 | .leaf b, _, acc, _, h => h
 | .node v l r, k, acc, ht, h => by
  unfold zd9
  split
  ·exact h
  ·rename_i hn
   have h1 := zlo l (v + 1) acc ht.2.2.2.1 h
   have h2 := zlo r (v + 1) (zd9 l acc) ht.2.2.2.2 h1
   refine h2.snoc (ht.mono (Nat.zero_le _)) (fun hm => ?_) (zca (zln r _) (zno l acc)) (zno r _)
   simp only [zbr, List.mem_cons] at hm
   rcases hm with hm | hm | hm
   ·cases hm
   ·cases hm
   ·rcases zo3 r _ _ hm with hm | hm
    ·rcases zo3 l _ _ hm with hm | hm
     ·exact hn hm
     ·simp only [T.sz] at hm; omega
    ·simp only [T.sz] at hm; omega
theorem znq {α : Type} [DecidableEq α] : ∀ {l m : List α}, l.Nodup → (∀ x ∈ l, x ∈ m) → l.length ≤ m.length
 | [], m, _, _ => Nat.zero_le _
 | a :: l, m, hn, h => by
  have ha := h a (List.mem_cons_self ..)
  have h1 := List.nodup_cons.1 hn
  have := znq (l := l) (m := m.erase a) h1.2 fun x hx => (List.mem_erase_of_ne (by rintro rfl; exact h1.1 hx)).2 (h x (List.mem_cons_of_mem _ hx))
  rw [List.length_erase_of_mem ha] at this
  have hp := List.length_pos_of_mem ha
  rw [List.length_cons]; omega
theorem ztt {V : Nat} {ts acc : List T} (ha : RowOk V acc) (h : ∀ s ∈ acc, s ∈ zbr ts) : acc.length ≤ ts.length := by
 have := znq ha.nd (zqh h)
 rw [zew, zew] at this; omega
def zlp (ts : List T) : List Nd := ts.map (zjn ts)
theorem zal (ts : List T) : (zlp ts).length = ts.length := by simp [zlp]
theorem jdk {V : Nat} {ts : List T} (h : RowOk V ts) {t : T} (hl : t.l ∈ zbr ts) (hh : t.h ∈ zbr ts) : zlp (ts ++ [t]) = zlp ts ++ [zjn ts t] := by
 unfold zlp
 rw [List.map_append]
 congr 1
 ·exact List.map_congr_left fun s hs => zwh h (List.prefix_append _ _) (List.mem_cons_of_mem _ (List.mem_cons_of_mem _ hs))
 ·simp only [List.map_cons, List.map_nil]
  unfold zjn
  rw [zef hl, zef hh]
abbrev tI : TypeId := 109
theorem mtI : mtB Try.prog KT tI = some (.int .i64 0) := by kernel_rfl
theorem jjm {n : Nat} (h : n ≤ 4000000000) : zpw Try.prog tI (vi n) := jsl (et := 3) (by kernel_rfl) (jji h)
structure NOk (ts acc : List T) (μ : Mp) : Prop where
 ok : OkM Try.prog tI μ
 get : ∀ t ∈ zbr acc, zgw (vi (num ts t)) μ = some (vi (num acc t))
 inv : ∀ k u, zgw k μ = some u → ∃ t ∈ zbr acc, k = vi (num ts t)
theorem NOk.add {ts acc : List T} {μ : Mp} (h : NOk ts acc μ) (hl : ts.length ≤ zel) (hs : ∀ s ∈ acc, s ∈ zbr ts) {t : T} (ht : t ∈ zbr ts) (hn : t ∉ zbr acc) : NOk ts (acc ++ [t]) (znz (vi (num ts t)) (vi (2 + acc.length)) μ) := by
 have hk : zpw Try.prog tI (vi (num ts t)) := jjm (znm hl ht)
 classical
 refine ⟨h.ok.put hk, fun s hs' => ?_, fun k u hg => ?_⟩
 ·rw [zf2 hk.1 (by rfl)]
  rw [zfc, List.mem_append] at hs'
  rcases hs' with hs' | hs'
  ·have hsf := zqh hs s hs'
   rw [zef hs', if_neg fun e => hn (zdi hsf ht (znl e) ▸ hs')]
   exact h.get s hs'
  ·rw [List.mem_singleton.1 hs', zpz hn, if_pos rfl]
 ·by_cases hk' : zjc k = true
  ·rw [zf2 hk.1 hk'] at hg
   split at hg
   ·rename_i e; exact ⟨t, by rw [zfc]; simp, e⟩
   ·obtain ⟨s, h1, h2⟩ := h.inv k u hg
    exact ⟨s, zgy h1, h2⟩
  ·obtain ⟨n, hm⟩ := zkf hg
   exact absurd ((h.ok.put hk).keys _ hm).1 hk'
theorem NOk.none {ts acc : List T} {μ : Mp} (h : NOk ts acc μ) (hs : ∀ s ∈ acc, s ∈ zbr ts) {t : T} (ht : t ∈ zbr ts) (hn : t ∉ zbr acc) : zgw (vi (num ts t)) μ = none := by
 cases hg : zgw (vi (num ts t)) μ with
 | none => rfl
 | some u =>
  obtain ⟨s, h1, h2⟩ := h.inv _ _ hg
  exact absurd (zdi ht (zqh hs s h1) (znl h2) ▸ h1) hn
def zd7 (md : D) (acc : List T) (μn : Mp) (rs : List Nat) : zap := [.cells [.d md], .cells [.om 4], .cells [.clo (.func 73) [] [.op 1 0, .op 0 0, .op 2 0, .op 3 0]], .cells [.os 3 5 0 acc.length, .os 1 6 0 rs.length], mO μn, .cells (avs ((zlp acc).flatMap ndC)), .cells (avs (rs.map zbz))]
def jtv (md : D) (ts acc : List T) (rs : List Nat) (f : T) (x : AV) (S' : zap) : Prop := ∃ μn', S' = zd7 md (zd9 f acc) μn' rs ∧ x = .d (iD (num (zd9 f acc) f)) ∧ NOk ts (zd9 f acc) μn'
def jtw (V : Nat) (ts : List T) (μu μm : Mp) (f : T) : Prop := ∀ (acc : List T) (μn : Mp) (rs : List Nat), f ∈ zbr ts → RowOk V acc → (∀ s ∈ acc, s ∈ zbr ts) → NOk ts acc μn →
 ScS Try.prog [0, 1, 2, 3, 4, 6] 73 [.d (iD (num ts f)), .op 1 0, .op 0 0, .op 2 0, .op 3 0] (zd7 (zcw ts μu μm) acc μn rs) (jtv (zcw ts μu μm) ts acc rs f)
theorem jsq (V : Nat) (ts : List T) (μu μm : Mp) (hr : RowOk V ts) (hl : ts.length ≤ zel) (f : T) (ih : ∀ s : T, s.sz < f.sz → jtw V ts μu μm s) (acc : List T) (μn : Mp) (rs : List Nat) (hf : f ∈ zbr ts) (ha : RowOk V acc) (hs : ∀ s ∈ acc, s ∈ zbr ts) (hN : NOk ts acc μn) : ScS Try.prog [0, 1, 2, 3, 4, 6] 73 [.d (iD (num ts f)), .op 1 0, .op 0 0, .op 2 0, .op 3 0] (zd7 (zcw ts μu μm) acc μn rs) (jtv (zcw ts μu μm) ts acc rs f) := by
 refine zha (fn := Try.f73) (by kernel_rfl) Try.func73 rfl (Nat.le_of_ble_eq_true rfl) fun c hc hp => ?_
 refine jkm ?_
 have hl' := hl
 unfold zel at hl
 have nf := zee hf
 have hlen := ztt ha hs
 have hk : zpw Try.prog tI (.int .i64 (num ts f)) := jjm (znm hl' hf)
 refine zac hp zak hc rfl fun K1 hK1 => ?_
 simp -dsimp -implicitDefEqProofs (disch := first | assumption | omega | (simp only [r_z, zah, zad, zal] <;> omega) | decide) only [r_r, ↓reduceIte, Nat.reduceEqDiff, Nat.reduceAdd, D.fix, Int.reduceToNat, Nat.reduceMul, Nat.reduceBNe, Nat.reduceBEq, r_m, zd7, zcw, zbz]
 refine hK1 _ _ ?_
 refine zao fun K2 hK2 => ?_
 refine zac hp zak hc rfl fun K3 hK3 => ?_
 by_cases hg : (f ∈ zbr acc)
 ·have hgm : zgw (.int .i64 (num ts f)) μn = some (vi (num acc f)) := hN.get f hg
  simp -dsimp -implicitDefEqProofs (disch := first | assumption | omega | (simp only [r_z, zah, zad, zal] <;> omega) | decide) only [r_r, ↓reduceIte, Nat.reduceEqDiff, Nat.reduceAdd, D.fix, Int.reduceToNat, Nat.reduceMul, Nat.reduceBNe, Nat.reduceBEq, r_m, zd7, zcw, zbz, zia, zr7 mtI hk hN.ok, hgm, Option.getD_some, Option.getD_none, Option.isSome_some, Option.isSome_none, zqg]
  refine hK3 _ _ ?_
  refine zac hp zak hc rfl fun K4 hK4 => ?_
  simp -dsimp -implicitDefEqProofs (disch := first | assumption | omega | (simp only [r_z, zah, zad, zal] <;> omega) | decide) only [r_r, ↓reduceIte, Nat.reduceEqDiff, Nat.reduceAdd, D.fix, Int.reduceToNat, Nat.reduceMul, Nat.reduceBNe, Nat.reduceBEq, r_m, zd7, zcw, zbz]
  refine hK4 _ _ ?_
  refine zaq rfl (fun ht => ?_) (fun ht => ?_)
  ·refine zac hp zak hc rfl fun K5 hK5 => ?_
   simp -dsimp -implicitDefEqProofs (disch := first | assumption | omega | (simp only [r_z, zah, zad, zal] <;> omega) | decide) only [r_r, ↓reduceIte, Nat.reduceEqDiff, Nat.reduceAdd, D.fix, Int.reduceToNat, Nat.reduceMul, Nat.reduceBNe, Nat.reduceBEq, r_m, zd7, zcw, zbz]
   refine hK5 _ _ ?_
   refine zb3 hp (τ' := frL [(6, .d (iD (num acc f)))]) (H' := zd7 (zcw ts μu μm) acc μn rs) ?_ ?_
   ·refine Rt.trans (Rt.gc (keep := [0,1,2,3,4,5,6]) (by decide) (by decide) (by simp [fzH, gcH])) ?_
    refine Rt.end (by repeat (first | exact zam _ | refine zai ?_ (by first | rfl | (simp [r_f, zah, zad, zal]; done) | simp [r_f, zah, zad, zal, *]))) ?_
    first | rfl | (simp only [r_g, Nat.reduceAdd, ↓reduceIte, Nat.reduceEqDiff, r_m, zd7, zcw, zbz]; first | done | rfl)
   refine za4 ?_
   refine zbq (t := 6) rfl ?_
   show ∃ _, _
   have e : zd9 f acc = acc := by
    cases f with
    | leaf b => rfl
    | node v l h => unfold zd9; rw [if_pos (by simpa [zbr] using hg)]
   rw [e]
   exact ⟨μn, rfl, rfl, hN⟩
  ·cases ht
 ·have hgm : zgw (.int .i64 (num ts f)) μn = none := hN.none hs hf hg
  simp -dsimp -implicitDefEqProofs (disch := first | assumption | omega | (simp only [r_z, zah, zad, zal] <;> omega) | decide) only [r_r, ↓reduceIte, Nat.reduceEqDiff, Nat.reduceAdd, D.fix, Int.reduceToNat, Nat.reduceMul, Nat.reduceBNe, Nat.reduceBEq, r_m, zd7, zcw, zbz, zia, zr7 mtI hk hN.ok, hgm, Option.getD_some, Option.getD_none, Option.isSome_some, Option.isSome_none, zqg]
  refine hK3 _ _ ?_
  refine zac hp zak hc rfl fun K6 hK6 => ?_
  simp -dsimp -implicitDefEqProofs (disch := first | assumption | omega | (simp only [r_z, zah, zad, zal] <;> omega) | decide) only [r_r, ↓reduceIte, Nat.reduceEqDiff, Nat.reduceAdd, D.fix, Int.reduceToNat, Nat.reduceMul, Nat.reduceBNe, Nat.reduceBEq, r_m, zd7, zcw, zbz]
  refine hK6 _ _ ?_
  refine zaq rfl (fun ht => ?_) (fun ht => ?_)
  ·cases ht
  ·refine zay (hK2 _ _ ?_)
   refine zac hp zak hc rfl fun K7 hK7 => ?_
   simp -dsimp -implicitDefEqProofs (disch := first | assumption | omega | (simp only [r_z, zah, zad, zal] <;> omega) | decide) only [r_r, ↓reduceIte, Nat.reduceEqDiff, Nat.reduceAdd, D.fix, Int.reduceToNat, Nat.reduceMul, Nat.reduceBNe, Nat.reduceBEq, r_m, zd7, zcw, zbz, zxn, jkv, zi1 hf, ndC, zjn, zqg]
   obtain ⟨v, l, h, rfl⟩ : ∃ v l h, f = .node v l h := by
    cases f with
    | leaf b => exact absurd (jo0 acc b) hg
    | node v l h => exact ⟨v, l, h, rfl⟩
   have hcl : l ∈ zbr ts := (hr.chf hf).1
   have hch : h ∈ zbr ts := (hr.chf hf).2
   have hok := hr.okf hf
   have hn' : T.node v l h ∉ acc := fun hm => hg (List.mem_cons_of_mem _ (List.mem_cons_of_mem _ hm))
   have hev : zd9 (.node v l h) acc = zd9 h (zd9 l acc) ++ [.node v l h] := by rw [zd9, if_neg hn']
   have ra1 := zlo l 0 acc hok.l_ok ha
   have sa1 := znp hr l acc hcl hs
   have ra2 := zlo h 0 (zd9 l acc) hok.h_ok ra1
   have sa2 := znp hr h (zd9 l acc) hch sa1
   have hlen2 := ztt ra2 sa2
   have hmem1 := zno l acc
   have hmem2 := zno h (zd9 l acc)
   have hpre2 := zln h (zd9 l acc)
   have hn2 : T.node v l h ∉ zbr (zd9 h (zd9 l acc)) := fun hm => by
    simp only [zbr, List.mem_cons] at hm
    rcases hm with hm | hm | hm
    ·cases hm
    ·cases hm
    ·rcases zo3 h _ _ hm with hm | hm
     ·rcases zo3 l _ _ hm with hm | hm
      ·exact hn' hm
      ·simp only [T.sz] at hm; omega
     ·simp only [T.sz] at hm; omega
   refine hK7 _ _ ?_
   refine zb3 hp (τ' := frL [(0, .d (iD (num ts (.node v l h)))), (1, .op 1 0), (2, .op 0 0), (3, .op 2 0), (4, .op 3 0), (9, .op 7 0)]) (H' := zd7 (zcw ts μu μm) acc μn rs ++ [.cells [.d (iD v), .d (iD (num ts l)), .d (iD (num ts h))]]) ?_ ?_
   ·refine Rt.trans (Rt.gc (keep := [0,1,2,3,4,5,6,7]) (by decide) (by decide) (by simp [fzH, gcH])) ?_
    refine Rt.end (by repeat (first | exact zam _ | refine zai ?_ (by first | rfl | (simp [r_f, zah, zad, zal]; done) | simp [r_f, zah, zad, zal, *]))) ?_
    first | rfl | (simp only [r_g, Nat.reduceAdd, ↓reduceIte, Nat.reduceEqDiff, r_m, zd7, zcw, zbz]; first | done | rfl)
   refine zd6 zak hp hc mixed rfl [(0, []), (1, []), (2, []), (3, []), (4, []), (6, []), (7, []), (8, []), (11, []), (5, [1, 6, 8]), (9, [1]), (10, []), (12, [])] [[], [0], [], [], [3], [2, 3, 4], [], [], [7], [2, 3, 4, 5, 6, 7, 8], [0, 1, 2, 3, 4, 5, 6, 7, 8, 9], [], [0, 1, 2, 3, 4, 5, 6, 7, 8, 9, 10, 11]] 1 (by kernel_rfl) fun K8 hK8 => ?_
   simp -dsimp -implicitDefEqProofs (disch := first | assumption | omega | (simp only [r_z, zah, zad, zal] <;> omega) | decide) only [r_r, ↓reduceIte, Nat.reduceEqDiff, Nat.reduceAdd, D.fix, Int.reduceToNat, Nat.reduceMul, Nat.reduceBNe, Nat.reduceBEq, r_w, r_m, zd7, zcw, zbz, zqg]
   refine zot (S := zd7 (zcw ts μu μm) acc μn rs) (T := [.cells [.d (iD v), .d (iD (num ts l)), .d (iD (num ts h))], .cells [.d (iD 0), .d (iD 0), .d (iD 0)]]) (ih l (by simp only [T.sz]; omega) acc μn rs hcl ha hs hN) rfl (Nat.le_of_ble_eq_true rfl) (by first | rfl | (simp [AV.allIs, AV.allI, za0, zas, zat, okI, ltI, zan, za8, zd7]; done) | (intro o ho; simp at ho; done)) (fun t => zbs (by first | rfl | (simp [AV.allIs, AV.allI, za0, zas, zat, okI, ltI, zan, za8, zd7]; done) | (intro o ho; simp at ho; done)) t) (fun t => zbs (by first | rfl | (simp [AV.allIs, AV.allI, za0, zas, zat, okI, ltI, zan, za8, zd7]; done) | (intro o ho; simp at ho; done)) t) (by first | rfl | (simp [AV.allIs, AV.allI, za0, zas, zat, okI, ltI, zan, za8, zd7]; done) | (intro o ho; simp at ho; done)) (by first | rfl | (simp [AV.allIs, AV.allI, za0, zas, zat, okI, ltI, zan, za8, zd7]; done) | (intro o ho; simp at ho; done)) (by first | rfl | (simp [AV.allIs, AV.allI, za0, zas, zat, okI, ltI, zan, za8, zd7]; done) | (intro o ho; simp at ho; done)) ?_
   rintro _ _ ⟨μn1, rfl, rfl, hN1⟩
   refine ⟨rfl, ?_⟩
   simp -dsimp -implicitDefEqProofs (disch := first | assumption | omega | (simp only [r_z, zah, zad, zal] <;> omega) | decide) only [r_r, ↓reduceIte, Nat.reduceEqDiff, Nat.reduceAdd, D.fix, Int.reduceToNat, Nat.reduceMul, Nat.reduceBNe, Nat.reduceBEq, r_w, r_m, zd7, zcw, zbz, zqg]
   refine zot (S := zd7 (zcw ts μu μm) (zd9 l acc) μn1 rs) (T := [.cells [.d (iD v), .d (iD (num ts l)), .d (iD (num ts h))], .cells [.d (iD 0), .d (iD 0), .d (iD 0)]]) (ih h (by simp only [T.sz]; omega) (zd9 l acc) μn1 rs hch ra1 sa1 hN1) rfl (Nat.le_of_ble_eq_true rfl) (by first | rfl | (simp [AV.allIs, AV.allI, za0, zas, zat, okI, ltI, zan, za8, zd7]; done) | (intro o ho; simp at ho; done)) (fun t => zbs (by first | rfl | (simp [AV.allIs, AV.allI, za0, zas, zat, okI, ltI, zan, za8, zd7]; done) | (intro o ho; simp at ho; done)) t) (fun t => zbs (by first | rfl | (simp [AV.allIs, AV.allI, za0, zas, zat, okI, ltI, zan, za8, zd7]; done) | (intro o ho; simp at ho; done)) t) (by first | rfl | (simp [AV.allIs, AV.allI, za0, zas, zat, okI, ltI, zan, za8, zd7]; done) | (intro o ho; simp at ho; done)) (by first | rfl | (simp [AV.allIs, AV.allI, za0, zas, zat, okI, ltI, zan, za8, zd7]; done) | (intro o ho; simp at ho; done)) (by first | rfl | (simp [AV.allIs, AV.allI, za0, zas, zat, okI, ltI, zan, za8, zd7]; done) | (intro o ho; simp at ho; done)) ?_
   rintro _ _ ⟨μn2, rfl, rfl, hN2⟩
   refine ⟨rfl, ?_⟩
   simp -dsimp -implicitDefEqProofs (disch := first | assumption | omega | (simp only [r_z, zah, zad, zal] <;> omega) | decide) only [r_r, ↓reduceIte, Nat.reduceEqDiff, Nat.reduceAdd, D.fix, Int.reduceToNat, Nat.reduceMul, Nat.reduceBNe, Nat.reduceBEq, r_w, r_m, zd7, zcw, zbz, zqg]
   refine hK8 _ _ ?_
   refine zb3 hp (τ' := frL [(0, .d (iD (num ts (.node v l h)))), (1, .op 1 0), (4, .op 3 0), (10, .op 7 0)]) (H' := zd7 (zcw ts μu μm) (zd9 h (zd9 l acc)) μn2 rs ++ [.cells [.d (iD v), .d (iD (num (zd9 l acc) l)), .d (iD (num (zd9 h (zd9 l acc)) h))]]) ?_ ?_
   ·refine Rt.trans (Rt.gc (keep := [0,1,2,3,4,5,6,8]) (by decide) (by decide) (by simp [fzH, gcH])) ?_
    refine Rt.end (by repeat (first | exact zam _ | refine zai ?_ (by first | rfl | (simp [r_f, zah, zad, zal]; done) | simp [r_f, zah, zad, zal, *]))) ?_
    first | rfl | (simp only [r_g, Nat.reduceAdd, ↓reduceIte, Nat.reduceEqDiff, r_m, zd7, zcw, zbz]; first | done | rfl)
   refine zac hp zak hc rfl fun K9 hK9 => ?_
   simp -dsimp -implicitDefEqProofs (disch := first | assumption | omega | (simp only [r_z, zah, zad, zal] <;> omega) | decide) only [r_r, ↓reduceIte, Nat.reduceEqDiff, Nat.reduceAdd, D.fix, Int.reduceToNat, Nat.reduceMul, Nat.reduceBNe, Nat.reduceBEq, r_m, zd7, zcw, zbz, zqg]
   refine hK9 _ _ ?_
   refine zac hp zak hc rfl fun K10 hK10 => ?_
   simp -dsimp -implicitDefEqProofs (disch := first | assumption | omega | (simp only [r_z, zah, zad, zal] <;> omega) | decide) only [r_r, ↓reduceIte, Nat.reduceEqDiff, Nat.reduceAdd, D.fix, Int.reduceToNat, Nat.reduceMul, Nat.reduceBNe, Nat.reduceBEq, r_m, zd7, zcw, zbz, jbz mtI hk hN2.ok, zqg]
   have hN3 := hN2.add hl' sa2 hf hn2
   refine hK10 _ _ ?_
   refine zac hp zak hc rfl fun K11 hK11 => ?_
   simp -dsimp -implicitDefEqProofs (disch := first | assumption | omega | (simp only [r_z, zah, zad, zal] <;> omega) | decide) only [r_r, ↓reduceIte, Nat.reduceEqDiff, Nat.reduceAdd, D.fix, Int.reduceToNat, Nat.reduceMul, Nat.reduceBNe, Nat.reduceBEq, r_m, zd7, zcw, zbz, zia, jks mtI hk (hN2.ok.put hk), zsn (rfl : zjc (.int .i64 (num ts (.node v l h) : Int)) = true), Option.getD_some, zqg]
   refine hK11 _ _ ?_
   refine zb3 hp (τ' := frL [(6, .d (.val (.int .i64 (1 + (((zd9 h (zd9 l acc)).length + 1 : Nat) : Int)))))]) (H' := zd7 (zcw ts μu μm) (zd9 h (zd9 l acc) ++ [.node v l h]) (znz (vi (num ts (.node v l h))) (.int .i64 (1 + (((zd9 h (zd9 l acc)).length + 1 : Nat) : Int))) μn2) rs) ?_ ?_
   ·refine Rt.trans (Rt.gc (keep := [0,1,2,3,4,9,6]) (by decide) (by decide) (by simp [fzH, gcH])) ?_
    refine Rt.end (by repeat (first | exact zam _ | refine zai ?_ (by first | rfl | (simp [r_f, zah, zad, zal]; done) | simp [r_f, zah, zad, zal, *]))) ?_
    simp only [r_g, Nat.reduceAdd, ↓reduceIte, Nat.reduceEqDiff]; unfold zd7; rw [jdk (t := .node v l h) ra2 (zca hpre2 hmem1) hmem2]; simp [ndC, zjn, T.v, T.l, T.h, vi, iD, avs, zdp hpre2 hmem1, zcw]
   refine za4 ?_
   refine zbq (t := 6) rfl ?_
   show ∃ _, _
   have eu : (1 + (((zd9 h (zd9 l acc)).length + 1 : Nat) : Int)) = ((2 + (zd9 h (zd9 l acc)).length : Nat) : Int) := by omega
   rw [hev, eu]
   exact ⟨_, rfl, by rw [zpz hn2]; rfl, hN3⟩
end Go.Proofs.Ytignimmnnccblaa
