/- The manager's ite. -/
import Derived.Test.YtignimmnnccblaaQr
import Derived.Test.YtignimmnnccblaaCb
set_option linter.unusedVariables false
set_option linter.unusedSimpArgs false
set_option maxRecDepth 100000
set_option maxHeartbeats 4000000
namespace Go.Proofs.Ytignimmnnccblaa
open Go Go.RowKit
theorem zgy : ((((((type_of% @zex) ∧ (type_of% @zey)) ∧ ((type_of% @zfa) ∧ ((type_of% @jjk) ∧ (type_of% @zxk)))) ∧ (((type_of% @zxl) ∧ ((type_of% @zxm) ∧ (type_of% @zxn))) ∧ ((type_of% @zxo) ∧ ((type_of% @zxp) ∧ (type_of% @zxq))))) ∧ ((((type_of% @zxr) ∧ ((type_of% @zxs) ∧ (type_of% @zxt))) ∧ ((type_of% @zsu) ∧ ((type_of% @zsv) ∧ (type_of% @jjf)))) ∧ (((type_of% @jjg) ∧ ((type_of% @jjh) ∧ (type_of% @jjj))) ∧ ((type_of% @jji) ∧ ((type_of% @zxh) ∧ (type_of% @zxi)))))) ∧ (((((type_of% @zjv) ∧ (type_of% @zjw)) ∧ ((type_of% @zw9) ∧ ((type_of% @zxa) ∧ (type_of% @zxb)))) ∧ (((type_of% @zxc) ∧ ((type_of% @zlz) ∧ (type_of% @zl0))) ∧ ((type_of% @zhq) ∧ ((type_of% @zhr) ∧ (type_of% @zgq))))) ∧ ((((type_of% @zgr) ∧ ((type_of% @zgf) ∧ (type_of% @zgg))) ∧ ((type_of% @zgh) ∧ ((type_of% @zez) ∧ (type_of% @ze0)))) ∧ (((type_of% @zgk) ∧ ((type_of% @zgl) ∧ (type_of% @zhs))) ∧ ((type_of% @zht) ∧ ((type_of% @zmk) ∧ (type_of% @zml))))))) := ⟨⟨⟨⟨⟨@zex, @zey⟩, ⟨@zfa, ⟨@jjk, @zxk⟩⟩⟩, ⟨⟨@zxl, ⟨@zxm, @zxn⟩⟩, ⟨@zxo, ⟨@zxp, @zxq⟩⟩⟩⟩, ⟨⟨⟨@zxr, ⟨@zxs, @zxt⟩⟩, ⟨@zsu, ⟨@zsv, @jjf⟩⟩⟩, ⟨⟨@jjg, ⟨@jjh, @jjj⟩⟩, ⟨@jji, ⟨@zxh, @zxi⟩⟩⟩⟩⟩, ⟨⟨⟨⟨@zjv, @zjw⟩, ⟨@zw9, ⟨@zxa, @zxb⟩⟩⟩, ⟨⟨@zxc, ⟨@zlz, @zl0⟩⟩, ⟨@zhq, ⟨@zhr, @zgq⟩⟩⟩⟩, ⟨⟨⟨@zgr, ⟨@zgf, @zgg⟩⟩, ⟨@zgh, ⟨@zez, @ze0⟩⟩⟩, ⟨⟨@zgk, ⟨@zgl, @zhs⟩⟩, ⟨@zht, ⟨@zmk, @zml⟩⟩⟩⟩⟩⟩
theorem zsx {k v : Value} {μ : Mp} (hk : zji k = true) : zg5 k (znz k v μ) = some v := by
 classical
 rw [zge hk hk, if_pos rfl]
theorem jqs {ts : List T} {t : T} : (zjr ts t).v = t.v := rfl
def js1 (V b : Nat) (ts : List T) (f g h : T) (x : AV) (S' : zar) : Prop := ∃ ts' μu' μm' t, S' = zbe ts' μu' μm' ∧ x = .d (iD (num ts' t)) ∧ MS V ts' μu' μm' ∧ ts <+: ts' ∧ ts'.length + 1 ≤ ts.length + b ∧ t ∈ zbq ts' ∧ Ite f g h t
def juc (V n : Nat) : Prop := ∀ (ts : List T) (μu μm : Mp) (f g h : T), MS V ts μu μm → f ∈ zbq ts → g ∈ zbq ts → h ∈ zbq ts → f.Ok V (V - n) → g.Ok V (V - n) → h.Ok V (V - n) → ts.length + 2 ^ n ≤ zel →
 ScS Try.prog [0, 1, 2] 71 [.op 0 0, .d (iD (num ts f)), .d (iD (num ts g)), .d (iD (num ts h))] (zbe ts μu μm) (js1 V (2 ^ n) ts f g h)
theorem jqt {ts : List T} {f : T} (hf : f ∈ zbq ts) (h : num ts f = 1) : f = .leaf true := zdl hf (zp5 ts) (h.trans (zp4 ts).symm)
theorem jqu {ts : List T} {f : T} (hf : f ∈ zbq ts) (h : num ts f = 0) : f = .leaf false := zdl hf (zhy ts) (h.trans (zjk ts).symm)
theorem jk5 {ts : List T} {f : T} (h1 : num ts f ≠ 1) (h0 : num ts f ≠ 0) : ∃ v l r, f = .node v l r := by
 cases f with
 | leaf b =>
   cases b
   ·exact absurd (zjk ts) h0
   ·exact absurd (zp4 ts) h1
 | node v l r => exact ⟨v, l, r, rfl⟩
theorem js2 (V n : Nat) (ih : ∀ m, m < n → juc V m) (ts : List T) (μu μm : Mp) (f g h : T) (hS : MS V ts μu μm) (hf : f ∈ zbq ts) (hg : g ∈ zbq ts) (hh : h ∈ zbq ts) (kf : f.Ok V (V - n)) (kg : g.Ok V (V - n)) (kh : h.Ok V (V - n)) (hlen : ts.length + 2 ^ n ≤ zel) : ScS Try.prog [0, 1, 2] 71 [.op 0 0, .d (iD (num ts f)), .d (iD (num ts g)), .d (iD (num ts h))] (zbe ts μu μm) (js1 V (2 ^ n) ts f g h) := by
 refine zhd (fn := Try.f71) (by kernel_rfl) Try.func71 rfl (Nat.le_of_ble_eq_true rfl) fun c hc hp => ?_
 refine jb2 ?_
 unfold zbe zbh
 have hl := hS.len
 have hV := hS.V0
 have hpos : 0 < 2 ^ n := Nat.two_pow_pos n
 have nf := zee hf
 have ng := zee hg
 have nh := zee hh
 unfold zel at hl hlen
 refine zac hp zaj hc rfl fun K1 hK1 => ?_
 simp -dsimp -implicitDefEqProofs (disch := first | assumption | omega | (simp only [r_z, zai, zad] <;> omega) | decide) only [r_r, ↓reduceIte, Nat.reduceEqDiff, Nat.reduceAdd, D.fix, Int.reduceToNat, Nat.reduceMul, Nat.reduceBNe, Nat.reduceBEq, r_m, zc0, zbe, zbh]
 refine hK1 _ _ ?_
 refine zam fun K2 hK2 => ?_
 refine zaz ?_
 refine zac hp zaj hc rfl fun K3 hK3 => ?_
 rcases (show num ts f = 1 ∨ (num ts f ≠ 1 ∧ num ts g = num ts h) ∨ (num ts f ≠ 1 ∧ num ts g ≠ num ts h) by omega) with hd1 | ⟨hd1, hd2⟩ | ⟨hd1, hd2⟩
 ·have q1 : ((num ts f : Int) == 1) = true := by simp; omega
  have q2 := q1
  simp -dsimp -implicitDefEqProofs (disch := first | assumption | omega | (simp only [r_z, zai, zad] <;> omega) | decide) only [r_r, ↓reduceIte, Nat.reduceEqDiff, Nat.reduceAdd, D.fix, Int.reduceToNat, Nat.reduceMul, Nat.reduceBNe, Nat.reduceBEq, r_m, zc0, zbe, zbh, q1, q2, zgy]
  refine hK3 _ _ ?_
  refine zaq rfl (fun ht => ?_) (fun ht => ?_)
  ·refine zac hp zaj hc rfl fun K4 hK4 => ?_
   simp -dsimp -implicitDefEqProofs (disch := first | assumption | omega | (simp only [r_z, zai, zad] <;> omega) | decide) only [r_r, ↓reduceIte, Nat.reduceEqDiff, Nat.reduceAdd, D.fix, Int.reduceToNat, Nat.reduceMul, Nat.reduceBNe, Nat.reduceBEq, r_m, zc0, zbe, zbh]
   refine hK4 _ _ ?_
   refine zb2 hp (τ' := frL [(8, .d (iD (num ts g)))]) (H' := zbe ts μu μm) ?_ ?_
   ·refine Rt.trans (Rt.gc (keep := [0,1,2,3]) (by decide) (by decide) (by simp [fzH, gcH])) ?_
    refine Rt.end (by repeat (first | exact zak _ | refine zah ?_ (by first | rfl | (simp [r_f, zai, zad, hmin]; done) | simp [r_f, zai, zad, hmin, *]))) ?_
    first | rfl | (simp only [r_g, Nat.reduceAdd, ↓reduceIte, Nat.reduceEqDiff, r_m, zc0, zbe, zbh]; first | done | rfl)
   refine za4 ?_
   refine zbp (t := 8) rfl ?_
   show ∃ _, _
   obtain rfl := jqt hf hd1
   exact ⟨ts, μu, μm, g, rfl, rfl, hS, List.prefix_refl _, by omega, hg, fun a => rfl⟩
  ·cases ht
 ·have q1 : ((num ts f : Int) == 1) = false := by simp; omega
  have q2 : ((num ts g : Int) == (num ts h : Int)) = true := by simp; omega
  simp -dsimp -implicitDefEqProofs (disch := first | assumption | omega | (simp only [r_z, zai, zad] <;> omega) | decide) only [r_r, ↓reduceIte, Nat.reduceEqDiff, Nat.reduceAdd, D.fix, Int.reduceToNat, Nat.reduceMul, Nat.reduceBNe, Nat.reduceBEq, r_m, zc0, zbe, zbh, q1, q2, zgy]
  refine hK3 _ _ ?_
  refine zaq rfl (fun ht => ?_) (fun ht => ?_)
  ·refine zac hp zaj hc rfl fun K5 hK5 => ?_
   simp -dsimp -implicitDefEqProofs (disch := first | assumption | omega | (simp only [r_z, zai, zad] <;> omega) | decide) only [r_r, ↓reduceIte, Nat.reduceEqDiff, Nat.reduceAdd, D.fix, Int.reduceToNat, Nat.reduceMul, Nat.reduceBNe, Nat.reduceBEq, r_m, zc0, zbe, zbh]
   refine hK5 _ _ ?_
   refine zb2 hp (τ' := frL [(8, .d (iD (num ts g)))]) (H' := zbe ts μu μm) ?_ ?_
   ·refine Rt.trans (Rt.gc (keep := [0,1,2,3]) (by decide) (by decide) (by simp [fzH, gcH])) ?_
    refine Rt.end (by repeat (first | exact zak _ | refine zah ?_ (by first | rfl | (simp [r_f, zai, zad, hmin]; done) | simp [r_f, zai, zad, hmin, *]))) ?_
    first | rfl | (simp only [r_g, Nat.reduceAdd, ↓reduceIte, Nat.reduceEqDiff, r_m, zc0, zbe, zbh]; first | done | rfl)
   refine za4 ?_
   refine zbp (t := 8) rfl ?_
   show ∃ _, _
   obtain rfl := zdl hg hh hd2
   exact ⟨ts, μu, μm, g, rfl, rfl, hS, List.prefix_refl _, by omega, hg, fun a => by simp⟩
  ·cases ht
 ·have q1 : ((num ts f : Int) == 1) = false := by simp; omega
  have q2 : ((num ts g : Int) == (num ts h : Int)) = false := by simp; omega
  simp -dsimp -implicitDefEqProofs (disch := first | assumption | omega | (simp only [r_z, zai, zad] <;> omega) | decide) only [r_r, ↓reduceIte, Nat.reduceEqDiff, Nat.reduceAdd, D.fix, Int.reduceToNat, Nat.reduceMul, Nat.reduceBNe, Nat.reduceBEq, r_m, zc0, zbe, zbh, q1, q2, zgy]
  refine hK3 _ _ ?_
  refine zaq rfl (fun ht => ?_) (fun ht => ?_)
  ·cases ht
  ·refine zac hp zaj hc rfl fun K6 hK6 => ?_
   simp -dsimp -implicitDefEqProofs (disch := first | assumption | omega | (simp only [r_z, zai, zad] <;> omega) | decide) only [r_r, ↓reduceIte, Nat.reduceEqDiff, Nat.reduceAdd, D.fix, Int.reduceToNat, Nat.reduceMul, Nat.reduceBNe, Nat.reduceBEq, r_m, zc0, zbe, zbh, zgy]
   refine hK6 _ _ ?_
   refine zaq rfl (fun ht => ?_) (fun ht => ?_)
   ·have hd3 : num ts f = 0 := by simp at ht; omega
    refine zac hp zaj hc rfl fun K7 hK7 => ?_
    simp -dsimp -implicitDefEqProofs (disch := first | assumption | omega | (simp only [r_z, zai, zad] <;> omega) | decide) only [r_r, ↓reduceIte, Nat.reduceEqDiff, Nat.reduceAdd, D.fix, Int.reduceToNat, Nat.reduceMul, Nat.reduceBNe, Nat.reduceBEq, r_m, zc0, zbe, zbh]
    refine hK7 _ _ ?_
    refine zb2 hp (τ' := frL [(8, .d (iD (num ts h)))]) (H' := zbe ts μu μm) ?_ ?_
    ·refine Rt.trans (Rt.gc (keep := [0,1,2,3]) (by decide) (by decide) (by simp [fzH, gcH])) ?_
     refine Rt.end (by repeat (first | exact zak _ | refine zah ?_ (by first | rfl | (simp [r_f, zai, zad, hmin]; done) | simp [r_f, zai, zad, hmin, *]))) ?_
     first | rfl | (simp only [r_g, Nat.reduceAdd, ↓reduceIte, Nat.reduceEqDiff, r_m, zc0, zbe, zbh]; first | done | rfl)
    refine za4 ?_
    refine zbp (t := 8) rfl ?_
    show ∃ _, _
    obtain rfl := jqu hf hd3
    exact ⟨ts, μu, μm, h, rfl, rfl, hS, List.prefix_refl _, by omega, hh, fun a => rfl⟩
   ·have hd3 : num ts f ≠ 0 := by simp at ht; omega
    have hk := hS.keyM hf hg hh
    refine zay (hK2 _ _ ?_)
    refine zac hp zaj hc rfl fun K8 hK8 => ?_
    simp -dsimp -implicitDefEqProofs (disch := first | assumption | omega | (simp only [r_z, zai, zad] <;> omega) | decide) only [r_r, ↓reduceIte, Nat.reduceEqDiff, Nat.reduceAdd, D.fix, Int.reduceToNat, Nat.reduceMul, Nat.reduceBNe, Nat.reduceBEq, r_m, zc0, zbe, zbh, zgy]
    refine hK8 _ _ ?_
    refine zam fun K9 hK9 => ?_
    refine zbn zaj hc mixed rfl (q := 0) (by kernel_rfl) (by kernel_rfl) fun K10 hK10 => ?_
    cases hgm : zg5 (k3V (num ts f) (num ts g) (num ts h)) μm
    rotate_left
    ·rename_i u
     obtain ⟨f', g', h', t, a1, a2, a3, a4, ek, rfl, hite⟩ := hS.m.inv _ _ hgm
     obtain ⟨e1, e2, e3⟩ := jjq ek
     obtain rfl := zdl hf a1 e1
     obtain rfl := zdl hg a2 e2
     obtain rfl := zdl hh a3 e3
     simp -dsimp -implicitDefEqProofs (disch := first | assumption | omega | (simp only [r_z, zai, zad] <;> omega) | decide) only [r_r, ↓reduceIte, Nat.reduceEqDiff, Nat.reduceAdd, D.fix, Int.reduceToNat, Nat.reduceMul, Nat.reduceBNe, Nat.reduceBEq, r_m, zc0, zbe, zbh, ziv, zih, zsh mtM hk hS.m.ok, hgm, Option.getD_some, Option.getD_none, Option.isSome_some, Option.isSome_none, zgy]
     refine hK10 _ _ ?_
     refine zac hp zaj hc rfl fun K11 hK11 => ?_
     simp -dsimp -implicitDefEqProofs (disch := first | assumption | omega | (simp only [r_z, zai, zad] <;> omega) | decide) only [r_r, ↓reduceIte, Nat.reduceEqDiff, Nat.reduceAdd, D.fix, Int.reduceToNat, Nat.reduceMul, Nat.reduceBNe, Nat.reduceBEq, r_m, zc0, zbe, zbh]
     refine hK11 _ _ ?_
     refine zaq rfl (fun ht => ?_) (fun ht => ?_)
     ·refine zac hp zaj hc rfl fun K12 hK12 => ?_
      simp -dsimp -implicitDefEqProofs (disch := first | assumption | omega | (simp only [r_z, zai, zad] <;> omega) | decide) only [r_r, ↓reduceIte, Nat.reduceEqDiff, Nat.reduceAdd, D.fix, Int.reduceToNat, Nat.reduceMul, Nat.reduceBNe, Nat.reduceBEq, r_m, zc0, zbe, zbh]
      refine hK12 _ _ ?_
      refine zb2 hp (τ' := frL [(8, .d (iD (num ts t)))]) (H' := zbe ts μu μm) ?_ ?_
      ·refine Rt.trans (Rt.gc (keep := [0,1,2,3]) (by decide) (by decide) (by simp [fzH, gcH])) ?_
       refine Rt.end (by repeat (first | exact zak _ | refine zah ?_ (by first | rfl | (simp [r_f, zai, zad, hmin]; done) | simp [r_f, zai, zad, hmin, *]))) ?_
       first | rfl | (simp only [r_g, Nat.reduceAdd, ↓reduceIte, Nat.reduceEqDiff, r_m, zc0, zbe, zbh]; first | done | rfl)
      refine za4 ?_
      refine zbp (t := 8) rfl ?_
      show ∃ _, _
      exact ⟨ts, μu, μm, t, rfl, rfl, hS, List.prefix_refl _, by omega, a4, hite⟩
     ·cases ht
    ·simp -dsimp -implicitDefEqProofs (disch := first | assumption | omega | (simp only [r_z, zai, zad] <;> omega) | decide) only [r_r, ↓reduceIte, Nat.reduceEqDiff, Nat.reduceAdd, D.fix, Int.reduceToNat, Nat.reduceMul, Nat.reduceBNe, Nat.reduceBEq, r_m, zc0, zbe, zbh, ziv, zih, zsh mtM hk hS.m.ok, hgm, Option.getD_some, Option.getD_none, Option.isSome_some, Option.isSome_none, zgy]
     refine hK10 _ _ ?_
     refine zac hp zaj hc rfl fun K13 hK13 => ?_
     simp -dsimp -implicitDefEqProofs (disch := first | assumption | omega | (simp only [r_z, zai, zad] <;> omega) | decide) only [r_r, ↓reduceIte, Nat.reduceEqDiff, Nat.reduceAdd, D.fix, Int.reduceToNat, Nat.reduceMul, Nat.reduceBNe, Nat.reduceBEq, r_m, zc0, zbe, zbh]
     refine hK13 _ _ ?_
     refine zaq rfl (fun ht => ?_) (fun ht => ?_)
     ·cases ht
     ·refine zay (hK9 _ _ ?_)
      refine zbn zaj hc mixed rfl (q := 0) (by kernel_rfl) (by kernel_rfl) fun K14 hK14 => ?_
      simp -dsimp -implicitDefEqProofs (disch := first | assumption | omega | (simp only [r_z, zai, zad] <;> omega) | decide) only [r_r, ↓reduceIte, Nat.reduceEqDiff, Nat.reduceAdd, D.fix, Int.reduceToNat, Nat.reduceMul, Nat.reduceBNe, Nat.reduceBEq, r_m, zc0, zbe, zbh, juu, zi7 hf, zi7 hg, zi7 hh, jqs, zgy]
      obtain ⟨v, hmin, vf, vg, vh, hvV, hvn⟩ : ∃ v : Nat, min (f.v : Int) (min (g.v : Int) (h.v : Int)) = (v : Int) ∧ v ≤ f.v ∧ v ≤ g.v ∧ v ≤ h.v ∧ v < V ∧ V - n ≤ v := by
       obtain ⟨u, l, r, rfl⟩ := jk5 hd1 hd3
       have := kf.2.1
       have k1 := kf.1
       have k2 := kg.v_ge (by omega)
       have k3 := kh.v_ge (by omega)
       refine ⟨min (min (T.node u l r).v g.v) h.v, by omega, by omega, by omega, by omega, ?_, ?_⟩
       ·rw [show (T.node u l r).v = u from rfl]; omega
       ·rw [show (T.node u l r).v = u from rfl]; omega
      have hn1 : n - 1 < n := by omega
      have e2 : 2 ^ n = 2 ^ (n - 1) + 2 ^ (n - 1) := by
       obtain ⟨m, rfl⟩ : ∃ m, n = m + 1 := ⟨n - 1, by omega⟩
       rw [Nat.add_sub_cancel, Nat.pow_succ]; omega
      have hpos1 : 0 < 2 ^ (n - 1) := Nat.two_pow_pos _
      have lev : ∀ {q : T} {b : Bool}, q.Ok V (V - n) → v ≤ q.v → (zhj q v b).Ok V (V - (n - 1)) := fun hq hv => (zhk (by omega) hq hv _).mono (by omega)
      have prt : ∀ {us : List T} {q : T} (b : Bool), RowOk V us → q ∈ zbq us → zhj q v b ∈ zbq us := fun {us q} b hr hq => by
       unfold zhj
       have := hr.chf hq
       split
       ·split
        ·exact this.2
        ·exact this.1
       ·exact hq
      refine hK14 _ _ ?_
      refine zb2 hp (τ' := frL [(0, .op 0 0), (1, .d (iD (num ts f))), (2, .d (iD (num ts g))), (3, .d (iD (num ts h))), (9, .op 4 0), (12, .d (iD v))]) (H' := zbe ts μu μm ++ [.cells [.d (iD (num ts f)), .d (iD (num ts g)), .d (iD (num ts h))]]) ?_ ?_
      ·refine Rt.trans (Rt.gc (keep := [0,1,2,3,4]) (by decide) (by decide) (by simp [fzH, gcH])) ?_
       refine Rt.end (by repeat (first | exact zak _ | refine zah ?_ (by first | rfl | (simp [r_f, zai, zad, hmin]; done) | simp [r_f, zai, zad, hmin, *]))) ?_
       first | rfl | (simp only [r_g, Nat.reduceAdd, ↓reduceIte, Nat.reduceEqDiff, r_m, zc0, zbe, zbh]; first | done | rfl)
      refine zac hp zaj hc rfl fun K15 hK15 => ?_
      simp -dsimp -implicitDefEqProofs (disch := first | assumption | omega | (simp only [r_z, zai, zad] <;> omega) | decide) only [r_r, ↓reduceIte, Nat.reduceEqDiff, Nat.reduceAdd, D.fix, Int.reduceToNat, Nat.reduceMul, Nat.reduceBNe, Nat.reduceBEq, r_m, zc0, zbe, zbh, zgy]
      refine zfk (zo2 ts μu μm f hf hS.len v false) ?_ ?_
      ·simp (disch := first | assumption | omega | (simp only [r_z, zai, zad] <;> omega) | decide) only [r_c, Nat.reduceAdd, D.fix, ↓reduceIte, Nat.reduceEqDiff, r_m, zc0, zbe, zbh, zig, zfo, zjq, ziu]
      simp -dsimp -implicitDefEqProofs (disch := first | assumption | omega | (simp only [r_z, zai, zad] <;> omega) | decide) only [r_r, ↓reduceIte, Nat.reduceEqDiff, Nat.reduceAdd, D.fix, Int.reduceToNat, Nat.reduceMul, Nat.reduceBNe, Nat.reduceBEq, r_m, zc0, zbe, zbh, zgy]
      refine zfk (zo2 ts μu μm g hg hS.len v false) ?_ ?_
      ·simp (disch := first | assumption | omega | (simp only [r_z, zai, zad] <;> omega) | decide) only [r_c, Nat.reduceAdd, D.fix, ↓reduceIte, Nat.reduceEqDiff, r_m, zc0, zbe, zbh, zig, zfo, zjq, ziu]
      simp -dsimp -implicitDefEqProofs (disch := first | assumption | omega | (simp only [r_z, zai, zad] <;> omega) | decide) only [r_r, ↓reduceIte, Nat.reduceEqDiff, Nat.reduceAdd, D.fix, Int.reduceToNat, Nat.reduceMul, Nat.reduceBNe, Nat.reduceBEq, r_m, zc0, zbe, zbh, zgy]
      refine zfk (zo2 ts μu μm h hh hS.len v false) ?_ ?_
      ·simp (disch := first | assumption | omega | (simp only [r_z, zai, zad] <;> omega) | decide) only [r_c, Nat.reduceAdd, D.fix, ↓reduceIte, Nat.reduceEqDiff, r_m, zc0, zbe, zbh, zig, zfo, zjq, ziu]
      simp -dsimp -implicitDefEqProofs (disch := first | assumption | omega | (simp only [r_z, zai, zad] <;> omega) | decide) only [r_r, ↓reduceIte, Nat.reduceEqDiff, Nat.reduceAdd, D.fix, Int.reduceToNat, Nat.reduceMul, Nat.reduceBNe, Nat.reduceBEq, r_m, zc0, zbe, zbh, zgy]
      refine ztx (S := zbe ts μu μm) (T := [.cells [.d (iD (num ts f)), .d (iD (num ts g)), .d (iD (num ts h))]]) (ih (n - 1) hn1 ts μu μm _ _ _ hS (prt false hS.row hf) (prt false hS.row hg) (prt false hS.row hh) (lev kf vf) (lev kg vg) (lev kh vh) (by unfold zel; omega)) rfl (by first | rfl | (simp [AV.allIs, AV.allI, za1, zat, zau, okI, ltI, zao, zbb, zbe, zbh]; done) | (intro o ho; simp at ho; done)) (fun t => zbr (by first | rfl | (simp [AV.allIs, AV.allI, za1, zat, zau, okI, ltI, zao, zbb, zbe, zbh]; done) | (intro o ho; simp at ho; done)) t) (by first | rfl | (simp [AV.allIs, AV.allI, za1, zat, zau, okI, ltI, zao, zbb, zbe, zbh]; done) | (intro o ho; simp at ho; done)) (by first | rfl | (simp [AV.allIs, AV.allI, za1, zat, zau, okI, ltI, zao, zbb, zbe, zbh]; done) | (intro o ho; simp at ho; done)) (by first | rfl | (simp [AV.allIs, AV.allI, za1, zat, zau, okI, ltI, zao, zbb, zbe, zbh]; done) | (intro o ho; simp at ho; done)) ?_
      rintro _ _ ⟨ts1, μu1, μm1, t1, rfl, rfl, hS1, hp1, hl1, hm1, hi1⟩
      refine ⟨rfl, ?_⟩
      simp -dsimp -implicitDefEqProofs (disch := first | assumption | omega | (simp only [r_z, zai, zad] <;> omega) | decide) only [r_r, ↓reduceIte, Nat.reduceEqDiff, Nat.reduceAdd, D.fix, Int.reduceToNat, Nat.reduceMul, Nat.reduceBNe, Nat.reduceBEq, r_m, zc0, zbe, zbh, zgy]
      have hf1 := zcb hp1 hf
      have hg1 := zcb hp1 hg
      have hh1 := zcb hp1 hh
      have ef1 := zdr hp1 hf
      have eg1 := zdr hp1 hg
      have eh1 := zdr hp1 hh
      have hlen1 := hS1.len
      unfold zel at hlen1
      refine hK15 _ _ ?_
      refine zb2 hp (τ' := frL [(0, .op 0 0), (1, .d (iD (num ts1 f))), (2, .d (iD (num ts1 g))), (3, .d (iD (num ts1 h))), (9, .op 4 0), (12, .d (iD v)), (13, .d (iD (num ts1 t1)))]) (H' := zbe ts1 μu1 μm1 ++ [.cells [.d (iD (num ts f)), .d (iD (num ts g)), .d (iD (num ts h))]]) ?_ ?_
      ·refine Rt.trans (Rt.gc (keep := [0,1,2,3,4]) (by decide) (by decide) (by simp [fzH, gcH])) ?_
       refine Rt.end (by repeat (first | exact zak _ | refine zah ?_ (by first | rfl | (simp [r_f, zai, zad, hmin]; done) | simp [r_f, zai, zad, hmin, *]))) ?_
       first | rfl | (simp only [r_g, Nat.reduceAdd, ↓reduceIte, Nat.reduceEqDiff, r_m, zc0, zbe, zbh]; first | done | rfl)
      refine zac hp zaj hc rfl fun K16 hK16 => ?_
      simp -dsimp -implicitDefEqProofs (disch := first | assumption | omega | (simp only [r_z, zai, zad] <;> omega) | decide) only [r_r, ↓reduceIte, Nat.reduceEqDiff, Nat.reduceAdd, D.fix, Int.reduceToNat, Nat.reduceMul, Nat.reduceBNe, Nat.reduceBEq, r_m, zc0, zbe, zbh, zgy]
      refine zfk (zo2 ts1 μu1 μm1 f hf1 hS1.len v true) ?_ ?_
      ·simp (disch := first | assumption | omega | (simp only [r_z, zai, zad] <;> omega) | decide) only [r_c, Nat.reduceAdd, D.fix, ↓reduceIte, Nat.reduceEqDiff, r_m, zc0, zbe, zbh, zig, zfo, zjq, ziu]
      simp -dsimp -implicitDefEqProofs (disch := first | assumption | omega | (simp only [r_z, zai, zad] <;> omega) | decide) only [r_r, ↓reduceIte, Nat.reduceEqDiff, Nat.reduceAdd, D.fix, Int.reduceToNat, Nat.reduceMul, Nat.reduceBNe, Nat.reduceBEq, r_m, zc0, zbe, zbh, zgy]
      refine zfk (zo2 ts1 μu1 μm1 g hg1 hS1.len v true) ?_ ?_
      ·simp (disch := first | assumption | omega | (simp only [r_z, zai, zad] <;> omega) | decide) only [r_c, Nat.reduceAdd, D.fix, ↓reduceIte, Nat.reduceEqDiff, r_m, zc0, zbe, zbh, zig, zfo, zjq, ziu]
      simp -dsimp -implicitDefEqProofs (disch := first | assumption | omega | (simp only [r_z, zai, zad] <;> omega) | decide) only [r_r, ↓reduceIte, Nat.reduceEqDiff, Nat.reduceAdd, D.fix, Int.reduceToNat, Nat.reduceMul, Nat.reduceBNe, Nat.reduceBEq, r_m, zc0, zbe, zbh, zgy]
      refine zfk (zo2 ts1 μu1 μm1 h hh1 hS1.len v true) ?_ ?_
      ·simp (disch := first | assumption | omega | (simp only [r_z, zai, zad] <;> omega) | decide) only [r_c, Nat.reduceAdd, D.fix, ↓reduceIte, Nat.reduceEqDiff, r_m, zc0, zbe, zbh, zig, zfo, zjq, ziu]
      simp -dsimp -implicitDefEqProofs (disch := first | assumption | omega | (simp only [r_z, zai, zad] <;> omega) | decide) only [r_r, ↓reduceIte, Nat.reduceEqDiff, Nat.reduceAdd, D.fix, Int.reduceToNat, Nat.reduceMul, Nat.reduceBNe, Nat.reduceBEq, r_m, zc0, zbe, zbh, zgy]
      refine ztx (S := zbe ts1 μu1 μm1) (T := [.cells [.d (iD (num ts f)), .d (iD (num ts g)), .d (iD (num ts h))]]) (ih (n - 1) hn1 ts1 μu1 μm1 _ _ _ hS1 (prt true hS1.row hf1) (prt true hS1.row hg1) (prt true hS1.row hh1) (lev kf vf) (lev kg vg) (lev kh vh) (by unfold zel; omega)) rfl (by first | rfl | (simp [AV.allIs, AV.allI, za1, zat, zau, okI, ltI, zao, zbb, zbe, zbh]; done) | (intro o ho; simp at ho; done)) (fun t => zbr (by first | rfl | (simp [AV.allIs, AV.allI, za1, zat, zau, okI, ltI, zao, zbb, zbe, zbh]; done) | (intro o ho; simp at ho; done)) t) (by first | rfl | (simp [AV.allIs, AV.allI, za1, zat, zau, okI, ltI, zao, zbb, zbe, zbh]; done) | (intro o ho; simp at ho; done)) (by first | rfl | (simp [AV.allIs, AV.allI, za1, zat, zau, okI, ltI, zao, zbb, zbe, zbh]; done) | (intro o ho; simp at ho; done)) (by first | rfl | (simp [AV.allIs, AV.allI, za1, zat, zau, okI, ltI, zao, zbb, zbe, zbh]; done) | (intro o ho; simp at ho; done)) ?_
      rintro _ _ ⟨ts2, μu2, μm2, t2, rfl, rfl, hS2, hp2, hl2, hm2, hi2⟩
      refine ⟨rfl, ?_⟩
      simp -dsimp -implicitDefEqProofs (disch := first | assumption | omega | (simp only [r_z, zai, zad] <;> omega) | decide) only [r_r, ↓reduceIte, Nat.reduceEqDiff, Nat.reduceAdd, D.fix, Int.reduceToNat, Nat.reduceMul, Nat.reduceBNe, Nat.reduceBEq, r_m, zc0, zbe, zbh, zgy]
      have et1 := zdr hp2 hm1
      have hlen2 := hS2.len
      unfold zel at hlen2
      have o1 : t1.Ok V (v + 1) := hi1.ok (hS1.row.okf hm1) (zhk (by omega) kf vf _) (zhk (by omega) kg vg _) (zhk (by omega) kh vh _)
      have o2 : t2.Ok V (v + 1) := hi2.ok (hS2.row.okf hm2) (zhk (by omega) kf vf _) (zhk (by omega) kg vg _) (zhk (by omega) kh vh _)
      refine hK16 _ _ ?_
      refine zb2 hp (τ' := frL [(0, .op 0 0), (9, .op 4 0), (12, .d (iD v)), (13, .d (iD (num ts2 t1))), (14, .d (iD (num ts2 t2)))]) (H' := zbe ts2 μu2 μm2 ++ [.cells [.d (iD (num ts f)), .d (iD (num ts g)), .d (iD (num ts h))]]) ?_ ?_
      ·refine Rt.trans (Rt.gc (keep := [0,1,2,3,4]) (by decide) (by decide) (by simp [fzH, gcH])) ?_
       refine Rt.end (by repeat (first | exact zak _ | refine zah ?_ (by first | rfl | (simp [r_f, zai, zad, hmin]; done) | simp [r_f, zai, zad, hmin, *]))) ?_
       first | rfl | (simp only [r_g, Nat.reduceAdd, ↓reduceIte, Nat.reduceEqDiff, r_m, zc0, zbe, zbh]; first | done | rfl)
      refine zd5 zaj hp hc mixed rfl [(0, []), (1, []), (2, []), (3, []), (4, []), (5, []), (6, []), (7, []), (8, []), (9, [3, 4]), (10, [])] [[], [0], [0, 1], [0, 1, 2], [], [], [], [], [], [5, 6, 7, 8], [0, 1, 2, 3, 4, 5, 6, 7, 8, 9]] 0 (by kernel_rfl) fun K17 hK17 => ?_
      simp -dsimp -implicitDefEqProofs (disch := first | assumption | omega | (simp only [r_z, zai, zad] <;> omega) | decide) only [r_r, ↓reduceIte, Nat.reduceEqDiff, Nat.reduceAdd, D.fix, Int.reduceToNat, Nat.reduceMul, Nat.reduceBNe, Nat.reduceBEq, r_w, r_m, zc0, zbe, zbh, ziv, zgy]
      refine znh (S := zbe ts2 μu2 μm2) (T := [.cells [.d (iD (num ts f)), .d (iD (num ts g)), .d (iD (num ts h))]]) (jjr V ts2 μu2 μm2 hS2 v t1 t2 hvV (zcb hp2 hm1) hm2 o1 o2 (by unfold zel; omega)) rfl (Nat.le_of_ble_eq_true rfl) (by first | rfl | (simp [AV.allIs, AV.allI, za1, zat, zau, okI, ltI, zao, zbb, zbe, zbh]; done) | (intro o ho; simp at ho; done)) (fun t => zbr (by first | rfl | (simp [AV.allIs, AV.allI, za1, zat, zau, okI, ltI, zao, zbb, zbe, zbh]; done) | (intro o ho; simp at ho; done)) t) (fun t => zbr (by first | rfl | (simp [AV.allIs, AV.allI, za1, zat, zau, okI, ltI, zao, zbb, zbe, zbh]; done) | (intro o ho; simp at ho; done)) t) (by first | rfl | (simp [AV.allIs, AV.allI, za1, zat, zau, okI, ltI, zao, zbb, zbe, zbh]; done) | (intro o ho; simp at ho; done)) (by first | rfl | (simp [AV.allIs, AV.allI, za1, zat, zau, okI, ltI, zao, zbb, zbe, zbh]; done) | (intro o ho; simp at ho; done)) (by first | rfl | (simp [AV.allIs, AV.allI, za1, zat, zau, okI, ltI, zao, zbb, zbe, zbh]; done) | (intro o ho; simp at ho; done)) ?_
      rintro _ _ ⟨ts3, μu3, rfl, rfl, hS3, hp3, hl3, hm3⟩
      refine ⟨rfl, ?_⟩
      have hpp := hp1.trans (hp2.trans hp3)
      have ef := zdr hpp hf
      have eg := zdr hpp hg
      have eh := zdr hpp hh
      simp -dsimp -implicitDefEqProofs (disch := first | assumption | omega | (simp only [r_z, zai, zad] <;> omega) | decide) only [r_r, ↓reduceIte, Nat.reduceEqDiff, Nat.reduceAdd, D.fix, Int.reduceToNat, Nat.reduceMul, Nat.reduceBNe, Nat.reduceBEq, r_w, r_m, zc0, zbe, zbh, ziv, jcg mtM hk hS3.m.ok, zgy]
      have hi3 : Ite f g h (mkT v t1 t2) := Ite.mk (by omega) kf kg kh vf vg vh hi1 hi2
      have hS4 := hS3.memo (zcb hpp hf) (zcb hpp hg) (zcb hpp hh) hm3 hi3
      rw [ef, eg, eh] at hS4
      have hok4 : OkM Try.prog tM (znz (k3V (num ts f) (num ts g) (num ts h)) (.int .i64 (num ts3 (mkT v t1 t2))) μm2) := hS4.m.ok
      have hgs : zg5 (k3V (num ts f) (num ts g) (num ts h)) (znz (k3V (num ts f) (num ts g) (num ts h)) (.int .i64 (num ts3 (mkT v t1 t2))) μm2) = some (vi (num ts3 (mkT v t1 t2))) := zsx jqq
      refine hK17 _ _ ?_
      refine zbn zaj hc mixed rfl (q := 0) (by kernel_rfl) (by kernel_rfl) fun K18 hK18 => ?_
      simp -dsimp -implicitDefEqProofs (disch := first | assumption | omega | (simp only [r_z, zai, zad] <;> omega) | decide) only [r_r, ↓reduceIte, Nat.reduceEqDiff, Nat.reduceAdd, D.fix, Int.reduceToNat, Nat.reduceMul, Nat.reduceBNe, Nat.reduceBEq, r_m, zc0, zbe, zbh, ziv, zih, jk1 mtM hk hok4, hgs, Option.getD_some, zgy]
      refine hK18 _ _ ?_
      refine zb2 hp (τ' := frL [(8, .d (iD (num ts3 (mkT v t1 t2))))]) (H' := zbe ts3 μu3 (znz (k3V (num ts f) (num ts g) (num ts h)) (vi (num ts3 (mkT v t1 t2))) μm2)) ?_ ?_
      ·refine Rt.trans (Rt.gc (keep := [0,1,2,3]) (by decide) (by decide) (by simp [fzH, gcH])) ?_
       refine Rt.end (by repeat (first | exact zak _ | refine zah ?_ (by first | rfl | (simp [r_f, zai, zad, hmin]; done) | simp [r_f, zai, zad, hmin, *]))) ?_
       first | rfl | (simp only [r_g, Nat.reduceAdd, ↓reduceIte, Nat.reduceEqDiff, r_m, zc0, zbe, zbh]; first | done | rfl)
      refine za4 ?_
      refine zbp (t := 8) rfl ?_
      show ∃ _, _
      exact ⟨ts3, μu3, _, mkT v t1 t2, rfl, rfl, hS4, hpp, by omega, hm3, hi3⟩
theorem js3 (V n : Nat) : juc V n := by
 induction n using Nat.strongRecOn with
 | _ n ih => exact fun ts μu μm f g h a b c d e1 e2 e3 e4 => js2 V n ih ts μu μm f g h a b c d e1 e2 e3 e4
end Go.Proofs.Ytignimmnnccblaa
