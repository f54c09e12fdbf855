/- The search that numbers nodes. -/
import Derived.Test.YtgfnpfchdlcoeaaQr
import Derived.Test.YtgfnpfchdlcoeaaQ
import Derived.Test.YtgfnpfchdlcoeaaCe
set_option linter.unusedVariables false
set_option linter.unusedSimpArgs false
set_option maxRecDepth 100000
set_option maxHeartbeats 4000000
namespace Go.Proofs.Ytgfnpfchdlcoeaa
open Go Go.RowKit
def zeu : T → List T → List T
 | .leaf _, acc => acc
 | .node v l h, acc => if T.node v l h ∈ acc then acc else zeu h (zeu l acc) ++ [.node v l h]
theorem zjt : ∀ (t : T) (acc : List T), acc <+: zeu t acc
 | .leaf _, acc => List.prefix_refl _
 | .node v l h, acc => by
  unfold zeu
  split
  ·exact List.prefix_refl _
  ·exact (zjt l acc).trans ((zjt h _).trans (List.prefix_append _ _))
theorem zju : ∀ (t : T) (acc : List T), t ∈ zbn (zeu t acc)
 | .leaf b, acc => jn4 _ b
 | .node v l h, acc => by
  unfold zeu
  split
  ·rename_i hm; exact List.mem_cons_of_mem _ (List.mem_cons_of_mem _ hm)
  ·rw [zf5]; simp
theorem zsr : ∀ (t : T) (acc : List T) (s : T), s ∈ zeu t acc → s ∈ acc ∨ s.sz ≤ t.sz
 | .leaf b, acc, s, hs => .inl hs
 | .node v l h, acc, s, hs => by
  unfold zeu at hs
  split at hs
  ·exact .inl hs
  ·rcases List.mem_append.1 hs with hs | hs
   ·rcases zsr h _ s hs with hs | hs
    ·rcases zsr l _ s hs with hs | hs
     ·exact .inl hs
     ·exact .inr (by simp only [T.sz]; omega)
    ·exact .inr (by simp only [T.sz]; omega)
   ·rw [List.mem_singleton.1 hs]; exact .inr (Nat.le_refl _)
theorem zt6 {acc us : List T} (h : ∀ t ∈ acc, t ∈ zbn us) : ∀ t ∈ zbn acc, t ∈ zbn us := fun t ht => by
 simp only [zbn, List.mem_cons] at ht
 rcases ht with rfl | rfl | ht
 ·exact zk1 _
 ·exact ztr _
 ·exact h t ht
theorem zp2 {V : Nat} {ts : List T} (hr : RowOk V ts) : ∀ (t : T) (acc : List T), t ∈ zbn ts → (∀ s ∈ acc, s ∈ zbn ts) → ∀ s ∈ zeu t acc, s ∈ zbn ts
 | .leaf b, acc, _, h => h
 | .node v l r, acc, ht, h => fun s hs => by
  unfold zeu at hs
  split at hs
  ·exact h s hs
  ·rcases List.mem_append.1 hs with hs | hs
   ·exact zp2 hr r _ (hr.chf ht).2 (zp2 hr l acc (hr.chf ht).1 h) s hs
   ·rw [List.mem_singleton.1 hs]; exact ht
theorem zio {V : Nat} : ∀ (t : T) (k : Nat) (acc : List T), t.Ok V k → RowOk V acc → RowOk V (zeu t acc)
 | .leaf b, _, acc, _, h => h
 | .node v l r, k, acc, ht, h => by
  unfold zeu
  split
  ·exact h
  ·rename_i hn
   have h1 := zio l (v + 1) acc ht.2.2.2.1 h
   have h2 := zio r (v + 1) (zeu l acc) ht.2.2.2.2 h1
   refine h2.snoc (ht.mono (Nat.zero_le _)) (fun hm => ?_) (zcs (zjt r _) (zju l acc)) (zju r _)
   simp only [zbn, List.mem_cons] at hm
   rcases hm with hm | hm | hm
   ·cases hm
   ·cases hm
   ·rcases zsr r _ _ hm with hm | hm
    ·rcases zsr l _ _ hm with hm | hm
     ·exact hn hm
     ·simp only [T.sz] at hm; omega
    ·simp only [T.sz] at hm; omega
theorem zp3 {α : Type} [DecidableEq α] : ∀ {l m : List α}, l.Nodup → (∀ x ∈ l, x ∈ m) → l.length ≤ m.length
 | [], m, _, _ => Nat.zero_le _
 | a :: l, m, hn, h => by
  have ha := h a (List.mem_cons_self ..)
  have h1 := List.nodup_cons.1 hn
  have := zp3 (l := l) (m := m.erase a) h1.2 fun x hx => (List.mem_erase_of_ne (by rintro rfl; exact h1.1 hx)).2 (h x (List.mem_cons_of_mem _ hx))
  rw [List.length_erase_of_mem ha] at this
  have hp := List.length_pos_of_mem ha
  rw [List.length_cons]; omega
theorem zxo {V : Nat} {ts acc : List T} (ha : RowOk V acc) (h : ∀ s ∈ acc, s ∈ zbn ts) : acc.length ≤ ts.length := by
 have := zp3 ha.nd (zt6 h)
 rw [zf6, zf6] at this; omega
def zdl (ts : List T) : List Nd := ts.map (zhz ts)
theorem zbc (ts : List T) : (zdl ts).length = ts.length := by simp [zdl]
theorem zp4 {V : Nat} {ts : List T} (h : RowOk V ts) {t : T} (hl : t.l ∈ zbn ts) (hh : t.h ∈ zbn ts) : zdl (ts ++ [t]) = zdl ts ++ [zhz ts t] := by
 unfold zdl
 rw [List.map_append]
 congr 1
 ·exact List.map_congr_left fun s hs => zza h (List.prefix_append _ _) (List.mem_cons_of_mem _ (List.mem_cons_of_mem _ hs))
 ·simp only [List.map_cons, List.map_nil]
  unfold zhz
  rw [zfl hl, zfl hh]
abbrev tI : TypeId := 132
theorem mtI : mtB Try.prog KT tI = some (.int .i64 0) := by kernel_rfl
theorem jlk {n : Nat} (h : n ≤ 4000000000) : zqy Try.prog tI (vi n) := jrl (et := 3) (by kernel_rfl) (jjl h)
structure NOk (ts acc : List T) (μ : Mp) : Prop where
 ok : OkM Try.prog tI μ
 get : ∀ t ∈ zbn acc, zig (vi (num ts t)) μ = some (vi (num acc t))
 inv : ∀ k u, zig k μ = some u → ∃ t ∈ zbn acc, k = vi (num ts t)
theorem NOk.add {ts acc : List T} {μ : Mp} (h : NOk ts acc μ) (hl : ts.length ≤ zed) (hs : ∀ s ∈ acc, s ∈ zbn ts) {t : T} (ht : t ∈ zbn ts) (hn : t ∉ zbn acc) : NOk ts (acc ++ [t]) (zpm (vi (num ts t)) (vi (2 + acc.length)) μ) := by
 have hk : zqy Try.prog tI (vi (num ts t)) := jlk (zla hl ht)
 classical
 refine ⟨h.ok.put hk, fun s hs' => ?_, fun k u hg => ?_⟩
 ·rw [zha hk.1 (by rfl)]
  rw [zf5, List.mem_append] at hs'
  rcases hs' with hs' | hs'
  ·have hsf := zt6 hs s hs'
   rw [zfl hs', if_neg fun e => hn (zd8 hsf ht (zso e) ▸ hs')]
   exact h.get s hs'
  ·rw [List.mem_singleton.1 hs', zpp hn, if_pos rfl]
 ·by_cases hk' : zjz k = true
  ·rw [zha hk.1 hk'] at hg
   split at hg
   ·rename_i e; exact ⟨t, by rw [zf5]; simp, e⟩
   ·obtain ⟨s, h1, h2⟩ := h.inv k u hg
    exact ⟨s, zhy h1, h2⟩
  ·obtain ⟨n, hm⟩ := zl9 hg
   exact absurd ((h.ok.put hk).keys _ hm).1 hk'
theorem NOk.none {ts acc : List T} {μ : Mp} (h : NOk ts acc μ) (hs : ∀ s ∈ acc, s ∈ zbn ts) {t : T} (ht : t ∈ zbn ts) (hn : t ∉ zbn acc) : zig (vi (num ts t)) μ = none := by
 cases hg : zig (vi (num ts t)) μ with
 | none => rfl
 | some u =>
  obtain ⟨s, h1, h2⟩ := h.inv _ _ hg
  exact absurd (zd8 ht (zt6 hs s h1) (zso h2) ▸ h1) hn
def zh0 (md : D) (acc : List T) (μn : Mp) (rs : List Nat) : zal := [.cells [.d md], .cells [.om 4], .cells [.clo (.func 81) [] [.op 1 0, .op 0 0, .op 2 0, .op 3 0]], .cells [.os 3 5 0 acc.length, .os 1 6 0 rs.length], mO μn, .cells (avs ((zdl acc).flatMap ndC)), .cells (avs (rs.map zzi))]
def js9 (md : D) (ts acc : List T) (rs : List Nat) (f : T) (x : AV) (S' : zal) : Prop := ∃ μn', S' = zh0 md (zeu f acc) μn' rs ∧ x = .d (iD (num (zeu f acc) f)) ∧ NOk ts (zeu f acc) μn'
def jta (V : Nat) (ts : List T) (μu μm : Mp) (f : T) : Prop := ∀ (acc : List T) (μn : Mp) (rs : List Nat), f ∈ zbn ts → RowOk V acc → (∀ s ∈ acc, s ∈ zbn ts) → NOk ts acc μn →
 ScS Try.prog [0, 1, 2, 3, 4, 6] 81 [.d (iD (num ts f)), .op 1 0, .op 0 0, .op 2 0, .op 3 0] (zh0 (zi6 ts μu μm) acc μn rs) (js9 (zi6 ts μu μm) ts acc rs f)
theorem ziy : (type_of% @zah) ∧ (type_of% @zca) ∧ (type_of% @zbq) ∧ (type_of% @zbc) := ⟨@zah, @zca, @zbq, @zbc⟩
theorem jrq (V : Nat) (ts : List T) (μu μm : Mp) (hr : RowOk V ts) (hl : ts.length ≤ zed) (f : T) (ih : ∀ s : T, s.sz < f.sz → jta V ts μu μm s) (acc : List T) (μn : Mp) (rs : List Nat) (hf : f ∈ zbn ts) (ha : RowOk V acc) (hs : ∀ s ∈ acc, s ∈ zbn ts) (hN : NOk ts acc μn) : ScS Try.prog [0, 1, 2, 3, 4, 6] 81 [.d (iD (num ts f)), .op 1 0, .op 0 0, .op 2 0, .op 3 0] (zh0 (zi6 ts μu μm) acc μn rs) (js9 (zi6 ts μu μm) ts acc rs f) := by
 refine zlj (fn := Try.f81) (by kernel_rfl) Try.func81 rfl (Nat.le_of_ble_eq_true rfl) fun c hc hp => ?_
 refine jko ?_
 have hl' := hl
 unfold zed at hl
 have nf := zdn hf
 have hlen := zxo ha hs
 have hk : zqy Try.prog tI (.int .i64 (num ts f)) := jlk (zla hl' hf)
 refine zab hp zad hc rfl fun K1 hK1 => ?_
 simp -dsimp -implicitDefEqProofs (disch := first | assumption | omega | (simp [maxLen, ziy] <;> omega) | decide) only [q_r, iD, zh0, zi6]
 refine hK1 _ _ ?_
 refine zaf fun K2 hK2 => ?_
 refine zab hp zad hc rfl fun K3 hK3 => ?_
 by_cases hg : (f ∈ zbn acc)
 ·have hgm : zig (.int .i64 (num ts f)) μn = some (vi (num acc f)) := hN.get f hg
  simp -dsimp -implicitDefEqProofs (disch := first | assumption | omega | (simp [maxLen, ziy] <;> omega) | decide) only [q_r, zam, ↓reduceIte, Nat.reduceEqDiff, Nat.reduceAdd, zgf, ziw, zhv, zvr mtI hk hN.ok, hgm, Option.getD_some, Option.isSome_some, zix, zk9]
  refine hK3 _ _ ?_
  refine zab hp zad hc rfl fun K4 hK4 => ?_
  simp -dsimp -implicitDefEqProofs (disch := first | assumption | omega | (simp [maxLen, ziy] <;> omega) | decide) only [q_r, ↓reduceIte]
  refine hK4 _ _ ?_
  refine zag rfl (fun ht => ?_) (fun ht => ?_)
  ·refine zab hp zad hc rfl fun K5 hK5 => ?_
   simp -dsimp -implicitDefEqProofs (disch := first | assumption | omega | (simp [maxLen, ziy] <;> omega) | decide) only [q_r, ↓reduceIte, Nat.reduceEqDiff]
   refine hK5 _ _ ?_
   refine zbx hp (τ' := frL [(6, .d (iD (num acc f)))]) (H' := zh0 (zi6 ts μu μm) acc μn rs) ?_ ?_
   ·refine Rt.trans (Rt.gc (keep := [0,1,2,3,4,5,6]) (by decide) (by decide) (by simp [])) ?_
    refine Rt.end (zaa (zae _) rfl) ?_
    first | rfl | (simp only [gcH, zbb, zcq, zap, zcb, gcV, Nat.reduceAdd, zcp, List.map_cons, List.map_nil, List.getD_cons_zero, List.getD_cons_succ, ↓reduceIte, Nat.reduceEqDiff, Option.map_some, zcq, zh0, zi6]; first | done | rfl)
   refine zao ?_
   refine zb3 (t := 6) rfl ?_
   show ∃ _, _
   have e : zeu f acc = acc := by
    cases f with
    | leaf b => rfl
    | node v l h => unfold zeu; rw [if_pos (by simpa [zbn] using hg)]
   rw [e]
   exact ⟨μn, rfl, rfl, hN⟩
  ·cases ht
 ·have hgm : zig (.int .i64 (num ts f)) μn = none := hN.none hs hf hg
  simp -dsimp -implicitDefEqProofs (disch := first | assumption | omega | (simp [maxLen, ziy] <;> omega) | decide) only [q_r, zam, ↓reduceIte, Nat.reduceEqDiff, Nat.reduceAdd, zgf, ziw, zhv, zvr mtI hk hN.ok, hgm, Option.getD_none, Option.isSome_none, zix, zk9]
  refine hK3 _ _ ?_
  refine zab hp zad hc rfl fun K6 hK6 => ?_
  simp -dsimp -implicitDefEqProofs (disch := first | assumption | omega | (simp [maxLen, ziy] <;> omega) | decide) only [q_r, ↓reduceIte]
  refine hK6 _ _ ?_
  refine zag rfl (fun ht => ?_) (fun ht => ?_)
  ·cases ht
  ·refine zan (hK2 _ _ ?_)
   refine zab hp zad hc rfl fun K7 hK7 => ?_
   simp -dsimp -implicitDefEqProofs (disch := first | assumption | omega | (simp [maxLen, ziy] <;> omega) | decide) only [q_r, zau, zam, zac, ixO, zai, zb0, za6, zdy, ↓reduceIte, D.one, Value.oneCell', Int.toNat_natCast, Nat.reduceEqDiff, iD, Nat.reduceAdd, zau, zme, zky hf, ndC, zhz, zg1, zg2, zmd, zcj, zck, zcm, zgn, zg4, znu]
   obtain ⟨v, l, h, rfl⟩ : ∃ v l h, f = .node v l h := by
    cases f with
    | leaf b => exact absurd (jn4 acc b) hg
    | node v l h => exact ⟨v, l, h, rfl⟩
   have hcl : l ∈ zbn ts := (hr.chf hf).1
   have hch : h ∈ zbn ts := (hr.chf hf).2
   have hok := hr.okf hf
   have hn' : T.node v l h ∉ acc := fun hm => hg (List.mem_cons_of_mem _ (List.mem_cons_of_mem _ hm))
   have hev : zeu (.node v l h) acc = zeu h (zeu l acc) ++ [.node v l h] := by rw [zeu, if_neg hn']
   have ra1 := zio l 0 acc hok.l_ok ha
   have sa1 := zp2 hr l acc hcl hs
   have ra2 := zio h 0 (zeu l acc) hok.h_ok ra1
   have sa2 := zp2 hr h (zeu l acc) hch sa1
   have hlen2 := zxo ra2 sa2
   have hmem1 := zju l acc
   have hmem2 := zju h (zeu l acc)
   have hpre2 := zjt h (zeu l acc)
   have hn2 : T.node v l h ∉ zbn (zeu h (zeu l acc)) := fun hm => by
    simp only [zbn, List.mem_cons] at hm
    rcases hm with hm | hm | hm
    ·cases hm
    ·cases hm
    ·rcases zsr h _ _ hm with hm | hm
     ·rcases zsr l _ _ hm with hm | hm
      ·exact hn' hm
      ·simp only [T.sz] at hm; omega
     ·simp only [T.sz] at hm; omega
   refine hK7 _ _ ?_
   refine zbx hp (τ' := frL [(0, .d (iD (num ts (.node v l h)))), (1, .op 1 0), (2, .op 0 0), (3, .op 2 0), (4, .op 3 0), (9, .op 7 0)]) (H' := zh0 (zi6 ts μu μm) acc μn rs ++ [.cells [.d (iD v), .d (iD (num ts l)), .d (iD (num ts h))]]) ?_ ?_
   ·refine Rt.trans (Rt.gc (keep := [0,1,2,3,4,5,6,7]) (by decide) (by decide) (by simp [])) ?_
    refine Rt.end (zaa (zaa (zaa (zaa (zaa (zaa (zae _) rfl) rfl) rfl) rfl) rfl) rfl) ?_
    first | rfl | (simp only [gcH, zbb, zcq, zap, zcb, gcV, Nat.reduceAdd, zcp, List.map_cons, List.map_nil, List.getD_cons_zero, List.getD_cons_succ, ↓reduceIte, Nat.reduceEqDiff, Option.map_some, List.cons_append, List.nil_append, zcq, zh0, zi6]; first | done | rfl)
   refine ze9 zad hp hc mixed rfl [(0, []), (1, []), (2, []), (3, []), (4, []), (6, []), (7, []), (8, []), (11, []), (5, [1, 6, 8]), (9, [1]), (10, []), (12, [])] [[], [0], [], [], [3], [2, 3, 4], [], [], [7], [2, 3, 4, 5, 6, 7, 8], [0, 1, 2, 3, 4, 5, 6, 7, 8, 9], [], [0, 1, 2, 3, 4, 5, 6, 7, 8, 9, 10, 11]] 1 (by kernel_rfl) fun K8 hK8 => ?_
   simp -dsimp -implicitDefEqProofs (disch := first | assumption | omega | (simp [maxLen, ziy] <;> omega) | decide) only [q_r, zam, zac, zb0, zc6, ↓reduceIte, List.replicate_zero, List.replicate_succ, Nat.reduceEqDiff, shB, zqn, iD, Nat.reduceAdd, zc6, zpe, List.getD_cons_zero, List.getD_cons_succ, zh0, zi6, zb4, zci, zcn, zzd, je7, zco, zdd, znu]
   refine zvs (S := zh0 (zi6 ts μu μm) acc μn rs) (T := [.cells [.d (iD v), .d (iD (num ts l)), .d (iD (num ts h))], .cells [.d (iD 0), .d (iD 0), .d (iD 0)]]) (ih l (by simp only [T.sz]; omega) acc μn rs hcl ha hs hN) rfl (Nat.le_of_ble_eq_true rfl) (by first | rfl | (simp [AV.allIs, AV.allI, zaz, za5, za3, okI, ltI, zak, zbj, zh0]; done) | (intro o ho; simp at ho; done)) (fun t => zbv (by first | rfl | (simp [AV.allIs, AV.allI, zaz, za5, za3, okI, ltI, zak, zbj, zh0]; done) | (intro o ho; simp at ho; done)) t) (fun t => zbv (by first | rfl | (simp [AV.allIs, AV.allI, zaz, za5, za3, okI, ltI, zak, zbj, zh0]; done) | (intro o ho; simp at ho; done)) t) (by first | rfl | (simp [AV.allIs, AV.allI, zaz, za5, za3, okI, ltI, zak, zbj, zh0]; done) | (intro o ho; simp at ho; done)) (by first | rfl | (simp [AV.allIs, AV.allI, zaz, ltI, zak, zbj, zh0]; done) | (intro o ho; simp at ho; done)) (by first | rfl | (simp [AV.allIs, AV.allI, zaz, zh0]; done) | (intro o ho; simp at ho; done)) ?_
   rintro _ _ ⟨μn1, rfl, rfl, hN1⟩
   refine ⟨rfl, ?_⟩
   simp -dsimp -implicitDefEqProofs (disch := first | assumption | omega | (simp [maxLen, ziy] <;> omega) | decide) only [q_r, zam, ↓reduceIte, Nat.reduceEqDiff, iD, zh0, zi6, zci, zcn, zzd, je7]
   refine zvs (S := zh0 (zi6 ts μu μm) (zeu l acc) μn1 rs) (T := [.cells [.d (iD v), .d (iD (num ts l)), .d (iD (num ts h))], .cells [.d (iD 0), .d (iD 0), .d (iD 0)]]) (ih h (by simp only [T.sz]; omega) (zeu l acc) μn1 rs hch ra1 sa1 hN1) rfl (Nat.le_of_ble_eq_true rfl) (by first | rfl | (simp [AV.allIs, AV.allI, zaz, za5, za3, okI, ltI, zak, zbj, zh0]; done) | (intro o ho; simp at ho; done)) (fun t => zbv (by first | rfl | (simp [AV.allIs, AV.allI, zaz, za5, za3, okI, ltI, zak, zbj, zh0]; done) | (intro o ho; simp at ho; done)) t) (fun t => zbv (by first | rfl | (simp [AV.allIs, AV.allI, zaz, za5, za3, okI, ltI, zak, zbj, zh0]; done) | (intro o ho; simp at ho; done)) t) (by first | rfl | (simp [AV.allIs, AV.allI, zaz, za5, za3, okI, ltI, zak, zbj, zh0]; done) | (intro o ho; simp at ho; done)) (by first | rfl | (simp [AV.allIs, AV.allI, zaz, ltI, zak, zbj, zh0]; done) | (intro o ho; simp at ho; done)) (by first | rfl | (simp [AV.allIs, AV.allI, zaz, zh0]; done) | (intro o ho; simp at ho; done)) ?_
   rintro _ _ ⟨μn2, rfl, rfl, hN2⟩
   refine ⟨rfl, ?_⟩
   simp -dsimp -implicitDefEqProofs (disch := first | assumption | omega | (simp [maxLen, ziy] <;> omega) | decide) only [q_r, zam, zb7, za6, ↓reduceIte, AV.one, D.one, Value.oneCell', Nat.reduceEqDiff, iD, Nat.reduceAdd, zh0, zi6, zgn, zci, zcn, jb9, znv, zpw, zpx, jb8]
   refine hK8 _ _ ?_
   refine zbx hp (τ' := frL [(0, .d (iD (num ts (.node v l h)))), (1, .op 1 0), (4, .op 3 0), (10, .op 7 0)]) (H' := zh0 (zi6 ts μu μm) (zeu h (zeu l acc)) μn2 rs ++ [.cells [.d (iD v), .d (iD (num (zeu l acc) l)), .d (iD (num (zeu h (zeu l acc)) h))]]) ?_ ?_
   ·refine Rt.trans (Rt.gc (keep := [0,1,2,3,4,5,6,8]) (by decide) (by decide) (by simp [])) ?_
    refine Rt.end (zaa (zaa (zaa (zaa (zae _) rfl) rfl) rfl) rfl) ?_
    first | rfl | (simp only [gcH, zbb, zcq, zap, zcb, gcV, Nat.reduceAdd, zcp, List.map_cons, List.map_nil, List.getD_cons_zero, List.getD_cons_succ, ↓reduceIte, Nat.reduceEqDiff, Option.map_some, List.cons_append, List.nil_append, zcq, zh0, zi6]; first | done | rfl)
   refine zab hp zad hc rfl fun K9 hK9 => ?_
   simp -dsimp -implicitDefEqProofs (disch := first | assumption | omega | (simp only [maxLen, List.length_replicate, eq_self, true_and, and_true, and_self, zah, List.length_map, List.length_append, List.length_cons, List.length_nil, List.length_set, List.length_range, List.length_take, List.length_drop, zca, zbq, zbc] <;> omega) | decide | fail) only [q_r, zau, Option.map_some, zam, zac, zb0, zic, za6, ↓reduceIte, Bool.false_eq_true, eq_self, zat, zcw, zdo, zb2, List.map_cons, List.map_nil, List.length_cons, List.length_nil, List.getElem?_cons_zero, List.getElem?_cons_succ, List.cons_append, List.nil_append, List.append_nil, List.set_cons_zero, List.set_cons_succ, List.replicate_zero, List.replicate_succ, List.all_cons, List.all_nil, zdg, zfh, zdh, zcx, AV.one, D.one, Value.oneCell', Bool.and_self, true_and, Nat.zero_add, Nat.add_zero, Nat.reduceEqDiff, List.drop_zero, iD, Nat.reduceAdd, List.nil_append, zau, Nat.zero_mul, Nat.reduceMul, List.flatten_cons, List.flatten_nil, zh0, zi6, zbk, zcj, zck, zgn, zg4, jb2]
   refine hK9 _ _ ?_
   refine zab hp zad hc rfl fun K10 hK10 => ?_
   simp -dsimp -implicitDefEqProofs (disch := first | assumption | omega | (simp [maxLen, ziy] <;> omega) | decide) only [q_r, zam, zac, zc1, zar, ↓reduceIte, Nat.reduceEqDiff, Nat.reduceAdd, zih, zn6, ziw, jbu mtI hk hN2.ok, zix, zk9, zbk, zcj, zck, zcm]
   have hN3 := hN2.add hl' sa2 hf hn2
   refine hK10 _ _ ?_
   refine zab hp zad hc rfl fun K11 hK11 => ?_
   simp -dsimp -implicitDefEqProofs (disch := first | assumption | omega | (simp [maxLen, ziy] <;> omega) | decide) only [q_r, zam, ↓reduceIte, Nat.reduceEqDiff, Nat.reduceAdd, zgf, ziw, zhv, jef mtI hk (hN2.ok.put hk), zp0 (rfl : zjz (.int .i64 (num ts (.node v l h) : Int)) = true), Option.getD_some, zix, zk9]
   refine hK11 _ _ ?_
   refine zbx hp (τ' := frL [(6, .d (.val (.int .i64 (1 + (((zeu h (zeu l acc)).length + 1 : Nat) : Int)))))]) (H' := zh0 (zi6 ts μu μm) (zeu h (zeu l acc) ++ [.node v l h]) (zpm (vi (num ts (.node v l h))) (.int .i64 (1 + (((zeu h (zeu l acc)).length + 1 : Nat) : Int))) μn2) rs) ?_ ?_
   ·refine Rt.trans (Rt.gc (keep := [0,1,2,3,4,9,6]) (by decide) (by decide) (by simp [])) ?_
    refine Rt.end (zaa (zae _) rfl) ?_
    simp only [gcH, zbb, zcq, zap, zcb, gcV, Nat.reduceAdd, zcp, List.map_cons, List.map_nil, List.getD_cons_zero, List.getD_cons_succ, ↓reduceIte, Nat.reduceEqDiff, Option.map_some]; unfold zh0; rw [zp4 (t := .node v l h) ra2 (zcs hpre2 hmem1) hmem2]; simp [ndC, zhz, T.v, T.l, T.h, vi, iD, avs, zd9 hpre2 hmem1, zi6]
   refine zao ?_
   refine zb3 (t := 6) rfl ?_
   show ∃ _, _
   have eu : (1 + (((zeu h (zeu l acc)).length + 1 : Nat) : Int)) = ((2 + (zeu h (zeu l acc)).length : Nat) : Int) := by omega
   rw [hev, eu]
   exact ⟨_, rfl, by rw [zpp hn2]; rfl, hN3⟩
end Go.Proofs.Ytgfnpfchdlcoeaa
