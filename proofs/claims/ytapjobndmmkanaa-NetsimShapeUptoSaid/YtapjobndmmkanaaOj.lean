/- The law of shapes. -/
import Derived.Test.YtapjobndmmkanaaQr
import Derived.Test.YtapjobndmmkanaaOh
set_option linter.unusedVariables false
set_option linter.unusedSimpArgs false
set_option maxRecDepth 100000
set_option maxHeartbeats 4000000
namespace Go.Proofs.Ytapjobndmmkanaa
open Go Go.RowKit
theorem zb6 : (((((((type_of% @zvs) ∧ (type_of% @zvt)) ∧ ((type_of% @zvw) ∧ (type_of% @zvx))) ∧ (((type_of% @zuw) ∧ (type_of% @zux)) ∧ ((type_of% @jf1) ∧ ((type_of% @ze9) ∧ (type_of% @zfa))))) ∧ ((((type_of% @zv3) ∧ (type_of% @zv2)) ∧ ((type_of% @zjo) ∧ ((type_of% @zjp) ∧ (type_of% @zlt)))) ∧ (((type_of% @zlu) ∧ (type_of% @zjq)) ∧ ((type_of% @zjr) ∧ ((type_of% @zvu) ∧ (type_of% @zvv)))))) ∧ (((((type_of% @zjy) ∧ (type_of% @zjz)) ∧ ((type_of% @zqe) ∧ (type_of% @zqd))) ∧ (((type_of% @ztz) ∧ (type_of% @zt0)) ∧ ((type_of% @zj0) ∧ ((type_of% @zj1) ∧ (type_of% @zd3))))) ∧ ((((type_of% @zd4) ∧ (type_of% @ze5)) ∧ ((type_of% @ze6) ∧ ((type_of% @ze7) ∧ (type_of% @ze8)))) ∧ (((type_of% @zo8) ∧ (type_of% @zo9)) ∧ ((type_of% @zpa) ∧ ((type_of% @zfo) ∧ (type_of% @zfp))))))) ∧ ((((((type_of% @zhr) ∧ (type_of% @zhs)) ∧ ((type_of% @zht) ∧ (type_of% @zhu))) ∧ (((type_of% @zj2) ∧ (type_of% @zj3)) ∧ ((type_of% @zhv) ∧ ((type_of% @zhw) ∧ (type_of% @zhx))))) ∧ ((((type_of% @zhy) ∧ (type_of% @zjk)) ∧ ((type_of% @zjl) ∧ ((type_of% @zlv) ∧ (type_of% @zlw)))) ∧ (((type_of% @zlx) ∧ (type_of% @zly)) ∧ ((type_of% @zj4) ∧ ((type_of% @zj5) ∧ (type_of% @zjm)))))) ∧ (((((type_of% @zjn) ∧ (type_of% @zfq)) ∧ ((type_of% @zfr) ∧ (type_of% @zlz))) ∧ (((type_of% @zl0) ∧ (type_of% @zl1)) ∧ ((type_of% @zl2) ∧ ((type_of% @zd5) ∧ (type_of% @zd6))))) ∧ ((((type_of% @zl3) ∧ (type_of% @zl4)) ∧ ((type_of% @zfs) ∧ ((type_of% @zft) ∧ (type_of% @zj6)))) ∧ (((type_of% @zj7) ∧ (type_of% @zqh)) ∧ ((type_of% @zqi) ∧ ((type_of% @zj8) ∧ (type_of% @zj9)))))))) := ⟨⟨⟨⟨⟨⟨@zvs, @zvt⟩, ⟨@zvw, @zvx⟩⟩, ⟨⟨@zuw, @zux⟩, ⟨@jf1, ⟨@ze9, @zfa⟩⟩⟩⟩, ⟨⟨⟨@zv3, @zv2⟩, ⟨@zjo, ⟨@zjp, @zlt⟩⟩⟩, ⟨⟨@zlu, @zjq⟩, ⟨@zjr, ⟨@zvu, @zvv⟩⟩⟩⟩⟩, ⟨⟨⟨⟨@zjy, @zjz⟩, ⟨@zqe, @zqd⟩⟩, ⟨⟨@ztz, @zt0⟩, ⟨@zj0, ⟨@zj1, @zd3⟩⟩⟩⟩, ⟨⟨⟨@zd4, @ze5⟩, ⟨@ze6, ⟨@ze7, @ze8⟩⟩⟩, ⟨⟨@zo8, @zo9⟩, ⟨@zpa, ⟨@zfo, @zfp⟩⟩⟩⟩⟩⟩, ⟨⟨⟨⟨⟨@zhr, @zhs⟩, ⟨@zht, @zhu⟩⟩, ⟨⟨@zj2, @zj3⟩, ⟨@zhv, ⟨@zhw, @zhx⟩⟩⟩⟩, ⟨⟨⟨@zhy, @zjk⟩, ⟨@zjl, ⟨@zlv, @zlw⟩⟩⟩, ⟨⟨@zlx, @zly⟩, ⟨@zj4, ⟨@zj5, @zjm⟩⟩⟩⟩⟩, ⟨⟨⟨⟨@zjn, @zfq⟩, ⟨@zfr, @zlz⟩⟩, ⟨⟨@zl0, @zl1⟩, ⟨@zl2, ⟨@zd5, @zd6⟩⟩⟩⟩, ⟨⟨⟨@zl3, @zl4⟩, ⟨@zfs, ⟨@zft, @zj6⟩⟩⟩, ⟨⟨@zj7, @zqh⟩, ⟨@zqi, ⟨@zj8, @zj9⟩⟩⟩⟩⟩⟩⟩
def enK (out : List Wire) (i : Int) : Nat → Bool
 | 0 => false
 | k + 1 => enK out i k || ((nth out k).kind == 8 && (nth out k).i == i)
theorem zzq {out : List Wire} {v : List Bool} {i : Int} : ∀ {k : Nat}, zhn out v 8 i k = true → enK out i k = true
 | k + 1, h => by
  simp only [zhn, Bool.or_eq_true, Bool.and_eq_true] at h
  rw [enK, Bool.or_eq_true]
  rcases h with h | ⟨_, h⟩
  ·exact .inl (zzq h)
  ·right
   unfold jam at h
   simp only [Bool.and_eq_true, decide_eq_true_eq] at h
   simp [h.1, h.2]
def chN (a b : List Int) : Nat → Nat
 | 0 => 0
 | k + 1 => chN a b k + if nth a k ≠ nth b k then 1 else 0
theorem jej (a b : List Int) : ∀ k, chN a b k ≤ k
 | 0 => Nat.le_refl _
 | k + 1 => by have := jej a b k; rw [chN]; split <;> omega
theorem zus (a : List Int) : ∀ k, chN a a k = 0
 | 0 => rfl
 | k + 1 => by rw [chN, zus a k]; simp
theorem zzr (a : List Int) (p : Nat) (x : Int) : ∀ k, k ≤ a.length → chN (a.set p x) a k ≤ 1 ∧ (k ≤ p → chN (a.set p x) a k = 0)
 | 0, _ => ⟨by simp [chN], fun _ => rfl⟩
 | k + 1, h => by
  obtain ⟨h1, h2⟩ := zzr a p x k (by omega)
  rw [chN]
  by_cases e : p = k
  ·subst e
   rw [h2 (Nat.le_refl _)]
   exact ⟨by split <;> omega, fun h => by omega⟩
  ·rw [zqa e, if_neg (by simp)]
   exact ⟨h1, fun h => by simpa using h2 (by omega)⟩
theorem jek {out : List Wire} {v : List Bool} {i : Nat} {l : List Int} : chN (zmy out v i l) l l.length ≤ 1 ∧ (0 < chN (zmy out v i l) l l.length → enK out i out.length = true) := by
 unfold zmy
 split
 ·rename_i h
  simp only [Bool.and_eq_true] at h
  exact ⟨(zzr l _ _ l.length (Nat.le_refl _)).1, fun _ => zzq h.1⟩
 ·rw [zus]; exact ⟨by omega, fun h => by omega⟩
theorem zl8 : zbh Try.prog 9 [] (.d (oD true)) := zbg (n := 100) zcb zar (by kernel_rfl)
structure FirS (n : Net) (v : List Bool) (z : Odd) (f : Fir) : Prop where
 fi : f.fires = false
 r : f.st.regs.length = z.s.regs.length
 m : f.st.mems.length = z.s.mems.length
 p : f.pops.length = z.heads.length
 q : f.puts.length = z.rooms.length
 mm : ∀ i, i < z.s.mems.length → nth f.st.mems i = zmy n.out v i (nth z.s.mems i)
 qq : ∀ i, i < z.rooms.length → (nth f.puts i).has = false → (nth f.puts i).v = 0
theorem jel (n : Net) (z : Odd) : FirS n (zqm n (zpl z.s z.heads z.rooms n.ins) z.s.mems) z (zum n z.s z.heads z.rooms) := by
 unfold zum efF
 refine ⟨rfl, zak _ _ _, zal _ _ _ _, zam _ _ _, zan _ _ _, fun i hi => by simp only; unfold zfx; exact ze3 hi, fun i hi => ?_⟩
 have e : nth (zkk n.out (zqm n (zpl z.s z.heads z.rooms n.ins) z.s.mems) z.rooms.length) i = zzp n.out (zqm n (zpl z.s z.heads z.rooms n.ins) z.s.mems) i := by
  unfold zkk; exact ze3 hi
 simp only
 rw [e]
 unfold zzp
 split
 ·intro h; cases h
 ·intro _; rfl
theorem zut (x : RawN) (hx : RawOk x) (z : Odd) (hb : zgp z z.s.mems.length ≤ 1000000000) : zbh Try.prog 4 [.agg (zbb x), .agg (zbw z)] (.d (oD true)) := by
 refine zbv (fn := Try.f4) (by kernel_rfl) Try.func4 rfl (Nat.le_of_ble_eq_true rfl) fun c hc hp => ?_
 refine zb8 (τ' := frL [(0, .d (.agg (zbb x))), (1, .d (.agg (zbw z)))]) (by repeat (first | exact zat _ | refine zap ?_ (by first | rfl | (simp [r_f, zaa, zab, zac, hen]; done) | simp [r_f, zaa, zab, zac, hen, *]))) ?_
 refine zah hp zar hc rfl fun K1 hK1 => ?_
 simp -dsimp -implicitDefEqProofs (disch := first | assumption | omega | (simp only [r_z, zaa, zab, zac] <;> omega) | decide) only [r_r, ↓reduceIte, Nat.reduceEqDiff, Nat.reduceAdd, D.fix, Int.reduceToNat, Nat.reduceMul, Nat.reduceBNe, Nat.reduceBEq, zbb, zbw, zai, eD, za1, za3, zad, zae, za6, zbt, zao, za2, zb6]
 refine hK1 _ _ ?_
 refine zah hp zar hc rfl fun K2 hK2 => ?_
 simp -dsimp -implicitDefEqProofs (disch := first | assumption | omega | (simp only [r_z, zaa, zab, zac] <;> omega) | decide) only [r_r, ↓reduceIte, Nat.reduceEqDiff, Nat.reduceAdd, D.fix, Int.reduceToNat, Nat.reduceMul, Nat.reduceBNe, Nat.reduceBEq, zbb, zbw, zai, eD, za1, za3, zad, zae, za6, zbt, zao, za2]
 refine zdf (zl8) rfl ?_
 simp -dsimp -implicitDefEqProofs (disch := first | assumption | omega | (simp only [r_z, zaa, zab, zac] <;> omega) | decide) only [r_r, ↓reduceIte, Nat.reduceEqDiff, Nat.reduceAdd, D.fix, Int.reduceToNat, Nat.reduceMul, Nat.reduceBNe, Nat.reduceBEq, zbb, zbw, zai, eD, za1, za3, zad, zae, za6, zbt, zao, za2]
 refine hK2 _ _ ?_
 refine zav fun K3 hK3 => ?_
 refine zah hp zar hc rfl fun K4 hK4 => ?_
 simp -dsimp -implicitDefEqProofs (disch := first | assumption | omega | (simp only [r_z, zaa, zab, zac] <;> omega) | decide) only [r_r, ↓reduceIte, Nat.reduceEqDiff, Nat.reduceAdd, D.fix, Int.reduceToNat, Nat.reduceMul, Nat.reduceBNe, Nat.reduceBEq, zbb, zbw, zai, eD, za1, za3, zad, zae, za6, zbt, zao, za2, zb6]
 refine hK4 _ _ ?_
 refine zay rfl (fun ht => ?_) (fun ht => ?_)
 ·cases ht
 ·refine za4 (hK3 _ _ ?_)
  refine zav fun K5 hK5 => ?_
  refine zah hp zar hc rfl fun K6 hK6 => ?_
  simp -dsimp -implicitDefEqProofs (disch := first | assumption | omega | (simp only [r_z, zaa, zab, zac] <;> omega) | decide) only [r_r, ↓reduceIte, Nat.reduceEqDiff, Nat.reduceAdd, D.fix, Int.reduceToNat, Nat.reduceMul, Nat.reduceBNe, Nat.reduceBEq, zbb, zbw, zai, eD, za1, za3, zad, zae, za6, zbt, zao, za2, zb6]
  refine zdf (zwo z hb) rfl ?_
  simp -dsimp -implicitDefEqProofs (disch := first | assumption | omega | (simp only [r_z, zaa, zab, zac] <;> omega) | decide) only [r_r, ↓reduceIte, Nat.reduceEqDiff, Nat.reduceAdd, D.fix, Int.reduceToNat, Nat.reduceMul, Nat.reduceBNe, Nat.reduceBEq, zbb, zbw, zai, eD, za1, za3, zad, zae, za6, zbt, zao, za2, zb6]
  refine hK6 _ _ ?_
  refine zay rfl (fun ht => ?_) (fun ht => ?_)
  ·refine zah hp zar hc rfl fun K7 hK7 => ?_
   simp -dsimp -implicitDefEqProofs (disch := first | assumption | omega | (simp only [r_z, zaa, zab, zac] <;> omega) | decide) only [r_r, ↓reduceIte, Nat.reduceEqDiff, Nat.reduceAdd, D.fix, Int.reduceToNat, Nat.reduceMul, Nat.reduceBNe, Nat.reduceBEq, zbb, zbw, zai, eD, za1, za3, zad, zae, za6, zbt, zao, za2]
   refine hK7 _ _ ?_
   refine zbr ?_
   show closeA _ _ = _
   simp (disch := first | assumption | omega | (simp only [r_z, zaa, zab, zac] <;> omega) | decide) only [r_c, Nat.reduceAdd, D.fix, ↓reduceIte, Nat.reduceEqDiff, zbb, zbw, zai, eD, za1, za3, zad, zae, za6, zbt, zao, za2]
  ·have hlit : zgp z z.s.mems.length ≤ 200 := by simpa using ht
   have hl0 := zfy z (d := z.s.mems.length) (k := 0)
   rw [Nat.zero_add, zgp] at hl0
   have hsm : StSm z.s z.heads z.rooms := ⟨by omega, by omega, fun l hl => by
    obtain ⟨i, hi, rfl⟩ := List.getElem_of_mem hl
    have := zmz (z := z) hi
    rw [zc8 hi] at this
    omega, by omega, by omega⟩
   refine za4 (hK5 _ _ ?_)
   refine zah hp zar hc rfl fun K8 hK8 => ?_
   simp -dsimp -implicitDefEqProofs (disch := first | assumption | omega | (simp only [r_z, zaa, zab, zac] <;> omega) | decide) only [r_r, ↓reduceIte, Nat.reduceEqDiff, Nat.reduceAdd, D.fix, Int.reduceToNat, Nat.reduceMul, Nat.reduceBNe, Nat.reduceBEq, zbb, zbw, zai, eD, za1, za3, zad, zae, za6, zbt, zao, za2, zb6]
   refine jca (jd7 x hx) rfl fun r hr => ?_
   obtain ⟨n, hn, rfl⟩ := hr
   simp -dsimp -implicitDefEqProofs (disch := first | assumption | omega | (simp only [r_z, zaa, zab, zac] <;> omega) | decide) only [r_r, ↓reduceIte, Nat.reduceEqDiff, Nat.reduceAdd, D.fix, Int.reduceToNat, Nat.reduceMul, Nat.reduceBNe, Nat.reduceBEq, zbb, zbw, zai, eD, za1, za3, zad, zae, za6, zbt, zao, za2, zb6]
   refine hK8 _ _ ?_
   refine zah hp zar hc rfl fun K9 hK9 => ?_
   simp -dsimp -implicitDefEqProofs (disch := first | assumption | omega | (simp only [r_z, zaa, zab, zac] <;> omega) | decide) only [r_r, ↓reduceIte, Nat.reduceEqDiff, Nat.reduceAdd, D.fix, Int.reduceToNat, Nat.reduceMul, Nat.reduceBNe, Nat.reduceBEq, zbb, zbw, zai, eD, za1, za3, zad, zae, za6, zbt, zao, za2, zb6]
   refine zdf (jao n z.s z.heads z.rooms hn.w hsm) rfl ?_
   simp -dsimp -implicitDefEqProofs (disch := first | assumption | omega | (simp only [r_z, zaa, zab, zac] <;> omega) | decide) only [r_r, ↓reduceIte, Nat.reduceEqDiff, Nat.reduceAdd, D.fix, Int.reduceToNat, Nat.reduceMul, Nat.reduceBNe, Nat.reduceBEq, zbb, zbw, zai, eD, za1, za3, zad, zae, za6, zbt, zao, za2, zb6]
   refine hK9 _ _ ?_
   refine zav fun K10 hK10 => ?_
   obtain ⟨v, hv⟩ : ∃ v, v = zqm n (zpl z.s z.heads z.rooms n.ins) z.s.mems := ⟨_, rfl⟩
   have hf := jel n z
   rw [← hv] at hf
   generalize zum n z.s z.heads z.rooms = f at *
   obtain ⟨f1, f2, f3, f4, f5, f6, f7⟩ := hf
   refine zah hp zar hc rfl fun K11 hK11 => ?_
   simp -dsimp -implicitDefEqProofs (disch := first | assumption | omega | (simp only [r_z, zaa, zab, zac] <;> omega) | decide) only [r_r, ↓reduceIte, Nat.reduceEqDiff, Nat.reduceAdd, D.fix, Int.reduceToNat, Nat.reduceMul, Nat.reduceBNe, Nat.reduceBEq, zbb, zbw, zai, eD, za1, za3, zad, zae, za6, zbt, zao, za2, f1, f2, f3, f4, f5, bne_self_eq_false, zb6]
   refine hK11 _ _ ?_
   refine zay rfl (fun ht => ?_) (fun ht => ?_)
   ·cases ht
   ·refine za4 (hK10 _ _ ?_)
    refine zav fun K12 hK12 => ?_
    refine zah hp zar hc rfl fun K13 hK13 => ?_
    simp -dsimp -implicitDefEqProofs (disch := first | assumption | omega | (simp only [r_z, zaa, zab, zac] <;> omega) | decide) only [r_r, ↓reduceIte, Nat.reduceEqDiff, Nat.reduceAdd, D.fix, Int.reduceToNat, Nat.reduceMul, Nat.reduceBNe, Nat.reduceBEq, zbb, zbw, zai, eD, za1, za3, zad, zae, za6, zbt, zao, za2]
    refine hK13 _ _ ?_
    refine za5 ?_
    refine zbc hp (fun τ' H' mm => ∃ (i : Nat), (i ≤ z.s.mems.length) ∧ mm = z.s.mems.length - i ∧ H' = [.cells (avs (zbw z)), .cells (avs (za3 n)), .cells (avs (zbt f))] ∧ τ' = frL [(3, .op 0 0), (5, .d (oD true)), (6, .op 1 0), (7, .op 2 0), (8, .d (iD i))]) (z.s.mems.length) ?_ ⟨0, Nat.zero_le _, rfl, rfl, rfl⟩ ?_
    ·refine Rt.trans (Rt.gc (keep := [1,2,3]) (by decide) (by decide) (by simp [fzH, gcH])) ?_
     refine Rt.end (by repeat (first | exact zat _ | refine zap ?_ (by first | rfl | (simp [r_f, zaa, zab, zac, hen]; done) | simp [r_f, zaa, zab, zac, hen, *]))) ?_
     simp only [r_g, Nat.reduceAdd, ↓reduceIte, Nat.reduceEqDiff, zbb, zbw, zai, eD, za1, za3, zad, zae, za6, zbt, zao, za2]; rw [f1, f2, f3, f4, f5]; rfl
    rintro τ' H' mm ⟨i, hi, rfl, rfl, rfl⟩
    refine zav fun K14 hK14 => ?_
    refine zah hp zar hc rfl fun K15 hK15 => ?_
    simp -dsimp -implicitDefEqProofs (disch := first | assumption | omega | (simp only [r_z, zaa, zab, zac] <;> omega) | decide) only [r_r, ↓reduceIte, Nat.reduceEqDiff, Nat.reduceAdd, D.fix, Int.reduceToNat, Nat.reduceMul, Nat.reduceBNe, Nat.reduceBEq, zbb, zbw, zai, eD, za1, za3, zad, zae, za6, zbt, zao, za2, zb6]
    refine hK15 _ _ ?_
    refine zay rfl (fun ht => ?_) (fun ht => ?_)
    ·have hlt : i < z.s.mems.length := by simp at ht; omega
     have hltf : i < f.st.mems.length := by omega
     have hml := zwi n.out v i (nth z.s.mems i)
     have h6 := f6 i hlt
     have hle : (nth f.st.mems i).length = (nth z.s.mems i).length := by rw [h6, hml]
     have hl1 := zmz (z := z) hlt
     have hol := hn.w.ol
     refine za4 (hK14 _ _ ?_)
     refine zav fun K16 hK16 => ?_
     refine za5 ?_
     refine zav fun K17 hK17 => ?_
     refine zb3 zar hc zcb rfl (q := 0) (by kernel_rfl) (by kernel_rfl) fun K18 hK18 => ?_
     simp -dsimp -implicitDefEqProofs (disch := first | assumption | omega | (simp only [r_z, zaa, zab, zac] <;> omega) | decide) only [r_r, ↓reduceIte, Nat.reduceEqDiff, Nat.reduceAdd, D.fix, Int.reduceToNat, Nat.reduceMul, Nat.reduceBNe, Nat.reduceBEq, zbb, zbw, zai, eD, za1, za3, zad, zae, za6, zbt, zao, za2, zcr, hle, bne_self_eq_false, zb6]
     refine hK18 _ _ ?_
     refine zay rfl (fun ht => ?_) (fun ht => ?_)
     ·cases ht
     ·refine za4 (hK17 _ _ ?_)
      refine zah hp zar hc rfl fun K19 hK19 => ?_
      simp -dsimp -implicitDefEqProofs (disch := first | assumption | omega | (simp only [r_z, zaa, zab, zac] <;> omega) | decide) only [r_r, ↓reduceIte, Nat.reduceEqDiff, Nat.reduceAdd, D.fix, Int.reduceToNat, Nat.reduceMul, Nat.reduceBNe, Nat.reduceBEq, zbb, zbw, zai, eD, za1, za3, zad, zae, za6, zbt, zao, za2]
      refine hK19 _ _ ?_
      refine zav fun K20 hK20 => ?_
      refine zah hp zar hc rfl fun K21 hK21 => ?_
      simp -dsimp -implicitDefEqProofs (disch := first | assumption | omega | (simp only [r_z, zaa, zab, zac] <;> omega) | decide) only [r_r, ↓reduceIte, Nat.reduceEqDiff, Nat.reduceAdd, D.fix, Int.reduceToNat, Nat.reduceMul, Nat.reduceBNe, Nat.reduceBEq, zbb, zbw, zai, eD, za1, za3, zad, zae, za6, zbt, zao, za2]
      refine hK21 _ _ ?_
      refine za5 ?_
      refine zbc hp (fun τ' H' mm => ∃ (k : Nat), (k ≤ n.out.length) ∧ mm = n.out.length - k ∧ H' = [.cells (avs (zbw z)), .cells (avs (za3 n)), .cells (avs (zbt f))] ∧ τ' = frL [(3, .op 0 0), (5, .d (oD true)), (6, .op 1 0), (7, .op 2 0), (8, .d (iD i)), (9, .d (oD (enK n.out i k))), (10, .d (iD 0)), (11, .d (iD k))]) (n.out.length) ?_ ⟨0, Nat.zero_le _, rfl, rfl, rfl⟩ ?_
      ·refine Rt.end (by repeat (first | exact zat _ | refine zap ?_ (by first | rfl | (simp [r_f, zaa, zab, zac, hen]; done) | simp [r_f, zaa, zab, zac, hen, *]))) ?_
       first | rfl | (simp only [r_g, Nat.reduceAdd, ↓reduceIte, Nat.reduceEqDiff, zbb, zbw, zai, eD, za1, za3, zad, zae, za6, zbt, zao, za2]; first | done | rfl)
      rintro τ' H' mm ⟨k, hk, rfl, rfl, rfl⟩
      refine zav fun K22 hK22 => ?_
      refine zah hp zar hc rfl fun K23 hK23 => ?_
      simp -dsimp -implicitDefEqProofs (disch := first | assumption | omega | (simp only [r_z, zaa, zab, zac] <;> omega) | decide) only [r_r, ↓reduceIte, Nat.reduceEqDiff, Nat.reduceAdd, D.fix, Int.reduceToNat, Nat.reduceMul, Nat.reduceBNe, Nat.reduceBEq, zbb, zbw, zai, eD, za1, za3, zad, zae, za6, zbt, zao, za2, zb6]
      refine hK23 _ _ ?_
      refine zay rfl (fun ht => ?_) (fun ht => ?_)
      ·have hlk : k < n.out.length := by simp at ht; omega
       refine za4 (hK22 _ _ ?_)
       refine zav fun K24 hK24 => ?_
       refine za5 ?_
       refine zba hp zar hc rfl fun K25 hK25 => ?_
       rcases tf (enK n.out i k) with e | e
       rotate_left
       rcases tf ((nth n.out k).kind == 8) with e2 | e2
       rotate_left 2
       ·have e2 := e
        have hen : enK n.out i (k + 1) = true := by rw [enK, e]; rfl
        simp -dsimp -implicitDefEqProofs (disch := first | assumption | omega | (simp only [r_z, zaa, zab, zac] <;> omega) | decide) only [r_r, ↓reduceIte, Nat.reduceEqDiff, Nat.reduceAdd, D.fix, Int.reduceToNat, Nat.reduceMul, Nat.reduceBNe, Nat.reduceBEq, zbb, zbw, zai, eD, za1, za3, zad, zae, za6, zbt, zao, za2, e, e2, zue, zuf, zb6]
        refine hK25 _ _ (hK24 _ _ ?_)
        refine zba hp zar hc rfl fun K26 hK26 => ?_
        simp -dsimp -implicitDefEqProofs (disch := first | assumption | omega | (simp only [r_z, zaa, zab, zac] <;> omega) | decide) only [r_r, ↓reduceIte, Nat.reduceEqDiff, Nat.reduceAdd, D.fix, Int.reduceToNat, Nat.reduceMul, Nat.reduceBNe, Nat.reduceBEq, zbb, zbw, zai, eD, za1, za3, zad, zae, za6, zbt, zao, za2, zb6]
        refine hK26 _ _ ⟨_, _, _, ?_, ⟨k + 1, by omega, rfl, rfl, rfl⟩, ?_⟩
        ·first | omega | (simp only [List.length_cons]; omega) | (dsimp only; omega)
        ·refine Rt.end (by repeat (first | exact zat _ | refine zap ?_ (by first | rfl | (simp [r_f, zaa, zab, zac, hen]; done) | simp [r_f, zaa, zab, zac, hen, *]))) ?_
         first | rfl | (simp only [r_g, Nat.reduceAdd, ↓reduceIte, Nat.reduceEqDiff, zbb, zbw, zai, eD, za1, za3, zad, zae, za6, zbt, zao, za2]; first | done | rfl)
       ·have hen : enK n.out i (k + 1) = ((nth n.out k).i == (i : Int)) := by rw [enK, e, e2]; rfl
        simp -dsimp -implicitDefEqProofs (disch := first | assumption | omega | (simp only [r_z, zaa, zab, zac] <;> omega) | decide) only [r_r, ↓reduceIte, Nat.reduceEqDiff, Nat.reduceAdd, D.fix, Int.reduceToNat, Nat.reduceMul, Nat.reduceBNe, Nat.reduceBEq, zbb, zbw, zai, eD, za1, za3, zad, zae, za6, zbt, zao, za2, e, e2, zue, zuf, zb6]
        refine hK25 _ _ (hK24 _ _ ?_)
        refine zba hp zar hc rfl fun K27 hK27 => ?_
        simp -dsimp -implicitDefEqProofs (disch := first | assumption | omega | (simp only [r_z, zaa, zab, zac] <;> omega) | decide) only [r_r, ↓reduceIte, Nat.reduceEqDiff, Nat.reduceAdd, D.fix, Int.reduceToNat, Nat.reduceMul, Nat.reduceBNe, Nat.reduceBEq, zbb, zbw, zai, eD, za1, za3, zad, zae, za6, zbt, zao, za2, zb6]
        refine hK27 _ _ ⟨_, _, _, ?_, ⟨k + 1, by omega, rfl, rfl, rfl⟩, ?_⟩
        ·first | omega | (simp only [List.length_cons]; omega) | (dsimp only; omega)
        ·refine Rt.end (by repeat (first | exact zat _ | refine zap ?_ (by first | rfl | (simp [r_f, zaa, zab, zac, hen]; done) | simp [r_f, zaa, zab, zac, hen, *]))) ?_
         first | rfl | (simp only [r_g, Nat.reduceAdd, ↓reduceIte, Nat.reduceEqDiff, zbb, zbw, zai, eD, za1, za3, zad, zae, za6, zbt, zao, za2]; first | done | rfl)
       ·have hen : enK n.out i (k + 1) = false := by rw [enK, e, e2]; rfl
        simp -dsimp -implicitDefEqProofs (disch := first | assumption | omega | (simp only [r_z, zaa, zab, zac] <;> omega) | decide) only [r_r, ↓reduceIte, Nat.reduceEqDiff, Nat.reduceAdd, D.fix, Int.reduceToNat, Nat.reduceMul, Nat.reduceBNe, Nat.reduceBEq, zbb, zbw, zai, eD, za1, za3, zad, zae, za6, zbt, zao, za2, e, e2, zue, zuf, zb6]
        refine hK25 _ _ (hK24 _ _ ?_)
        refine zba hp zar hc rfl fun K28 hK28 => ?_
        simp -dsimp -implicitDefEqProofs (disch := first | assumption | omega | (simp only [r_z, zaa, zab, zac] <;> omega) | decide) only [r_r, ↓reduceIte, Nat.reduceEqDiff, Nat.reduceAdd, D.fix, Int.reduceToNat, Nat.reduceMul, Nat.reduceBNe, Nat.reduceBEq, zbb, zbw, zai, eD, za1, za3, zad, zae, za6, zbt, zao, za2, zb6]
        refine hK28 _ _ ⟨_, _, _, ?_, ⟨k + 1, by omega, rfl, rfl, rfl⟩, ?_⟩
        ·first | omega | (simp only [List.length_cons]; omega) | (dsimp only; omega)
        ·refine Rt.end (by repeat (first | exact zat _ | refine zap ?_ (by first | rfl | (simp [r_f, zaa, zab, zac, hen]; done) | simp [r_f, zaa, zab, zac, hen, *]))) ?_
         first | rfl | (simp only [r_g, Nat.reduceAdd, ↓reduceIte, Nat.reduceEqDiff, zbb, zbw, zai, eD, za1, za3, zad, zae, za6, zbt, zao, za2]; first | done | rfl)
      ·have hkk : k = n.out.length := by simp at ht; omega
       subst hkk
       refine zbi (hK20 _ _ ?_)
       refine zav fun K29 hK29 => ?_
       refine zah hp zar hc rfl fun K30 hK30 => ?_
       simp -dsimp -implicitDefEqProofs (disch := first | assumption | omega | (simp only [r_z, zaa, zab, zac] <;> omega) | decide) only [r_r, ↓reduceIte, Nat.reduceEqDiff, Nat.reduceAdd, D.fix, Int.reduceToNat, Nat.reduceMul, Nat.reduceBNe, Nat.reduceBEq, zbb, zbw, zai, eD, za1, za3, zad, zae, za6, zbt, zao, za2]
       refine hK30 _ _ ?_
       refine za5 ?_
       refine zbc hp (fun τ' H' mm => ∃ (k : Nat), (k ≤ (nth z.s.mems i).length) ∧ mm = (nth z.s.mems i).length - k ∧ H' = [.cells (avs (zbw z)), .cells (avs (za3 n)), .cells (avs (zbt f))] ∧ τ' = frL [(3, .op 0 0), (5, .d (oD true)), (6, .op 1 0), (7, .op 2 0), (8, .d (iD i)), (9, .d (oD (enK n.out i n.out.length))), (10, .d (iD (chN (nth f.st.mems i) (nth z.s.mems i) k))), (12, .d (iD k))]) ((nth z.s.mems i).length) ?_ ⟨0, Nat.zero_le _, rfl, rfl, rfl⟩ ?_
       ·refine Rt.end (by repeat (first | exact zat _ | refine zap ?_ (by first | rfl | (simp [r_f, zaa, zab, zac, hen]; done) | simp [r_f, zaa, zab, zac, hen, *]))) ?_
        first | rfl | (simp only [r_g, Nat.reduceAdd, ↓reduceIte, Nat.reduceEqDiff, zbb, zbw, zai, eD, za1, za3, zad, zae, za6, zbt, zao, za2]; first | done | rfl)
       rintro τ' H' mm ⟨k, hk2, rfl, rfl, rfl⟩
       refine zav fun K31 hK31 => ?_
       refine zah hp zar hc rfl fun K32 hK32 => ?_
       simp -dsimp -implicitDefEqProofs (disch := first | assumption | omega | (simp only [r_z, zaa, zab, zac] <;> omega) | decide) only [r_r, ↓reduceIte, Nat.reduceEqDiff, Nat.reduceAdd, D.fix, Int.reduceToNat, Nat.reduceMul, Nat.reduceBNe, Nat.reduceBEq, zbb, zbw, zai, eD, za1, za3, zad, zae, za6, zbt, zao, za2, zcr, zb6]
       refine hK32 _ _ ?_
       refine zay rfl (fun ht => ?_) (fun ht => ?_)
       ·have hlk : k < (nth z.s.mems i).length := by simpa using ht
        have hlk2 : k < (nth f.st.mems i).length := by omega
        have hce := jej (nth f.st.mems i) (nth z.s.mems i) k
        refine za4 (hK31 _ _ ?_)
        refine zav fun K33 hK33 => ?_
        refine za5 ?_
        refine zb3 zar hc zcb rfl (q := 0) (by kernel_rfl) (by kernel_rfl) fun K34 hK34 => ?_
        simp -dsimp -implicitDefEqProofs (disch := first | assumption | omega | (simp only [r_z, zaa, zab, zac] <;> omega) | decide) only [r_r, ↓reduceIte, Nat.reduceEqDiff, Nat.reduceAdd, D.fix, Int.reduceToNat, Nat.reduceMul, Nat.reduceBNe, Nat.reduceBEq, zbb, zbw, zai, eD, za1, za3, zad, zae, za6, zbt, zao, za2, zcr, zb6]
        refine hK34 _ _ ?_
        refine zay rfl (fun ht => ?_) (fun ht => ?_)
        ·clear h6 f6
         have hne : nth (nth f.st.mems i) k ≠ nth (nth z.s.mems i) k := by simpa using ht
         have hen : chN (nth f.st.mems i) (nth z.s.mems i) (k + 1) = chN (nth f.st.mems i) (nth z.s.mems i) k + 1 := by rw [chN, if_pos hne]
         refine zba hp zar hc rfl fun K35 hK35 => ?_
         simp -dsimp -implicitDefEqProofs (disch := first | assumption | omega | (simp only [r_z, zaa, zab, zac] <;> omega) | decide) only [r_r, ↓reduceIte, Nat.reduceEqDiff, Nat.reduceAdd, D.fix, Int.reduceToNat, Nat.reduceMul, Nat.reduceBNe, Nat.reduceBEq, zbb, zbw, zai, eD, za1, za3, zad, zae, za6, zbt, zao, za2, zb6]
         refine hK35 _ _ (hK33 _ _ ?_)
         refine zba hp zar hc rfl fun K36 hK36 => ?_
         simp -dsimp -implicitDefEqProofs (disch := first | assumption | omega | (simp only [r_z, zaa, zab, zac] <;> omega) | decide) only [r_r, ↓reduceIte, Nat.reduceEqDiff, Nat.reduceAdd, D.fix, Int.reduceToNat, Nat.reduceMul, Nat.reduceBNe, Nat.reduceBEq, zbb, zbw, zai, eD, za1, za3, zad, zae, za6, zbt, zao, za2, zb6]
         refine hK36 _ _ ⟨_, _, _, ?_, ⟨k + 1, by omega, rfl, rfl, rfl⟩, ?_⟩
         ·first | omega | (simp only [List.length_cons]; omega) | (dsimp only; omega)
         ·refine Rt.end (by repeat (first | exact zat _ | refine zap ?_ (by first | rfl | (simp [r_f, zaa, zab, zac, hen]; done) | simp [r_f, zaa, zab, zac, hen, *]))) ?_
          first | rfl | (simp only [r_g, Nat.reduceAdd, ↓reduceIte, Nat.reduceEqDiff, zbb, zbw, zai, eD, za1, za3, zad, zae, za6, zbt, zao, za2]; first | done | rfl)
        ·clear h6 f6
         have hne : nth (nth f.st.mems i) k = nth (nth z.s.mems i) k := by simpa using ht
         have hen : chN (nth f.st.mems i) (nth z.s.mems i) (k + 1) = chN (nth f.st.mems i) (nth z.s.mems i) k := by rw [chN, if_neg (by simp [hne])]; rfl
         refine za4 (hK33 _ _ ?_)
         refine zba hp zar hc rfl fun K37 hK37 => ?_
         simp -dsimp -implicitDefEqProofs (disch := first | assumption | omega | (simp only [r_z, zaa, zab, zac] <;> omega) | decide) only [r_r, ↓reduceIte, Nat.reduceEqDiff, Nat.reduceAdd, D.fix, Int.reduceToNat, Nat.reduceMul, Nat.reduceBNe, Nat.reduceBEq, zbb, zbw, zai, eD, za1, za3, zad, zae, za6, zbt, zao, za2, zb6]
         refine hK37 _ _ ⟨_, _, _, ?_, ⟨k + 1, by omega, rfl, rfl, rfl⟩, ?_⟩
         ·first | omega | (simp only [List.length_cons]; omega) | (dsimp only; omega)
         ·refine Rt.end (by repeat (first | exact zat _ | refine zap ?_ (by first | rfl | (simp [r_f, zaa, zab, zac, hen]; done) | simp [r_f, zaa, zab, zac, hen, *]))) ?_
          first | rfl | (simp only [r_g, Nat.reduceAdd, ↓reduceIte, Nat.reduceEqDiff, zbb, zbw, zai, eD, za1, za3, zad, zae, za6, zbt, zao, za2]; first | done | rfl)
       ·have hkk : k = (nth z.s.mems i).length := by simp at ht; omega
        subst hkk
        obtain ⟨c1, c2⟩ := jek (out := n.out) (v := v) (i := i) (l := nth z.s.mems i)
        rw [← h6] at c1 c2
        obtain ⟨cc, hcc⟩ : ∃ cc, cc = chN (nth f.st.mems i) (nth z.s.mems i) (nth z.s.mems i).length := ⟨_, rfl⟩
        rw [← hcc] at c1 c2
        rw [← hcc]
        refine zbi (hK29 _ _ ?_)
        refine zah hp zar hc rfl fun K38 hK38 => ?_
        by_cases q : 0 < cc
        ·have q1 : decide (1 < (cc : Int)) = false := decide_eq_false (by omega)
         have q2 : decide (0 < (cc : Int)) = true := decide_eq_true (by omega)
         have q3 := c2 q
         simp -dsimp -implicitDefEqProofs (disch := first | assumption | omega | (simp only [r_z, zaa, zab, zac] <;> omega) | decide) only [r_r, ↓reduceIte, Nat.reduceEqDiff, Nat.reduceAdd, D.fix, Int.reduceToNat, Nat.reduceMul, Nat.reduceBNe, Nat.reduceBEq, zbb, zbw, zai, eD, za1, za3, zad, zae, za6, zbt, zao, za2, q1, q2, q3, Bool.not_true, zb6]
         refine hK38 _ _ ?_
         refine zay rfl (fun ht => ?_) (fun ht => ?_)
         ·cases ht
         ·refine za4 (hK16 _ _ ?_)
          refine zba hp zar hc rfl fun K39 hK39 => ?_
          simp -dsimp -implicitDefEqProofs (disch := first | assumption | omega | (simp only [r_z, zaa, zab, zac] <;> omega) | decide) only [r_r, ↓reduceIte, Nat.reduceEqDiff, Nat.reduceAdd, D.fix, Int.reduceToNat, Nat.reduceMul, Nat.reduceBNe, Nat.reduceBEq, zbb, zbw, zai, eD, za1, za3, zad, zae, za6, zbt, zao, za2, zb6]
          refine hK39 _ _ ⟨_, _, _, ?_, ⟨i + 1, by omega, rfl, rfl, rfl⟩, ?_⟩
          ·first | omega | (simp only [List.length_cons]; omega) | (dsimp only; omega)
          ·refine Rt.end (by repeat (first | exact zat _ | refine zap ?_ (by first | rfl | (simp [r_f, zaa, zab, zac, hen]; done) | simp [r_f, zaa, zab, zac, hen, *]))) ?_
           first | rfl | (simp only [r_g, Nat.reduceAdd, ↓reduceIte, Nat.reduceEqDiff, zbb, zbw, zai, eD, za1, za3, zad, zae, za6, zbt, zao, za2]; first | done | rfl)
        ·have q1 : decide (1 < (cc : Int)) = false := decide_eq_false (by omega)
         have q2 : decide (0 < (cc : Int)) = false := decide_eq_false (by omega)
         have q3 := q2
         simp -dsimp -implicitDefEqProofs (disch := first | assumption | omega | (simp only [r_z, zaa, zab, zac] <;> omega) | decide) only [r_r, ↓reduceIte, Nat.reduceEqDiff, Nat.reduceAdd, D.fix, Int.reduceToNat, Nat.reduceMul, Nat.reduceBNe, Nat.reduceBEq, zbb, zbw, zai, eD, za1, za3, zad, zae, za6, zbt, zao, za2, q1, q2, q3, Bool.not_true, zb6]
         refine hK38 _ _ ?_
         refine zay rfl (fun ht => ?_) (fun ht => ?_)
         ·cases ht
         ·refine za4 (hK16 _ _ ?_)
          refine zba hp zar hc rfl fun K40 hK40 => ?_
          simp -dsimp -implicitDefEqProofs (disch := first | assumption | omega | (simp only [r_z, zaa, zab, zac] <;> omega) | decide) only [r_r, ↓reduceIte, Nat.reduceEqDiff, Nat.reduceAdd, D.fix, Int.reduceToNat, Nat.reduceMul, Nat.reduceBNe, Nat.reduceBEq, zbb, zbw, zai, eD, za1, za3, zad, zae, za6, zbt, zao, za2, zb6]
          refine hK40 _ _ ⟨_, _, _, ?_, ⟨i + 1, by omega, rfl, rfl, rfl⟩, ?_⟩
          ·first | omega | (simp only [List.length_cons]; omega) | (dsimp only; omega)
          ·refine Rt.end (by repeat (first | exact zat _ | refine zap ?_ (by first | rfl | (simp [r_f, zaa, zab, zac, hen]; done) | simp [r_f, zaa, zab, zac, hen, *]))) ?_
           first | rfl | (simp only [r_g, Nat.reduceAdd, ↓reduceIte, Nat.reduceEqDiff, zbb, zbw, zai, eD, za1, za3, zad, zae, za6, zbt, zao, za2]; first | done | rfl)
    ·have hii : i = z.s.mems.length := by simp at ht; omega
     subst hii
     refine zbi (hK12 _ _ ?_)
     refine zav fun K41 hK41 => ?_
     refine zah hp zar hc rfl fun K42 hK42 => ?_
     simp -dsimp -implicitDefEqProofs (disch := first | assumption | omega | (simp only [r_z, zaa, zab, zac] <;> omega) | decide) only [r_r, ↓reduceIte, Nat.reduceEqDiff, Nat.reduceAdd, D.fix, Int.reduceToNat, Nat.reduceMul, Nat.reduceBNe, Nat.reduceBEq, zbb, zbw, zai, eD, za1, za3, zad, zae, za6, zbt, zao, za2]
     refine hK42 _ _ ?_
     refine za5 ?_
     refine zbc hp (fun τ' H' mm => ∃ (k : Nat), (k ≤ z.rooms.length) ∧ mm = z.rooms.length - k ∧ H' = [.cells (avs (zbw z)), .cells (avs (za3 n)), .cells (avs (zbt f))] ∧ τ' = frL [(3, .op 0 0), (5, .d (oD true)), (6, .op 1 0), (7, .op 2 0), (13, .d (iD k))]) (z.rooms.length) ?_ ⟨0, Nat.zero_le _, rfl, rfl, rfl⟩ ?_
     ·refine Rt.end (by repeat (first | exact zat _ | refine zap ?_ (by first | rfl | (simp [r_f, zaa, zab, zac, hen]; done) | simp [r_f, zaa, zab, zac, hen, *]))) ?_
      first | rfl | (simp only [r_g, Nat.reduceAdd, ↓reduceIte, Nat.reduceEqDiff, zbb, zbw, zai, eD, za1, za3, zad, zae, za6, zbt, zao, za2]; first | done | rfl)
     rintro τ' H' mm ⟨k, hk3, rfl, rfl, rfl⟩
     refine zav fun K43 hK43 => ?_
     refine zah hp zar hc rfl fun K44 hK44 => ?_
     simp -dsimp -implicitDefEqProofs (disch := first | assumption | omega | (simp only [r_z, zaa, zab, zac] <;> omega) | decide) only [r_r, ↓reduceIte, Nat.reduceEqDiff, Nat.reduceAdd, D.fix, Int.reduceToNat, Nat.reduceMul, Nat.reduceBNe, Nat.reduceBEq, zbb, zbw, zai, eD, za1, za3, zad, zae, za6, zbt, zao, za2, f5, zb6]
     refine hK44 _ _ ?_
     refine zay rfl (fun ht => ?_) (fun ht => ?_)
     ·have hlk : k < z.rooms.length := by simp at ht; omega
      have hlk2 : k < f.puts.length := by omega
      refine za4 (hK43 _ _ ?_)
      refine zav fun K45 hK45 => ?_
      refine za5 ?_
      refine zah hp zar hc rfl fun K46 hK46 => ?_
      rcases tf (nth f.puts k).has with e | e
      ·have q4 := e
       simp -dsimp -implicitDefEqProofs (disch := first | assumption | omega | (simp only [r_z, zaa, zab, zac] <;> omega) | decide) only [r_r, ↓reduceIte, Nat.reduceEqDiff, Nat.reduceAdd, D.fix, Int.reduceToNat, Nat.reduceMul, Nat.reduceBNe, Nat.reduceBEq, zbb, zbw, zai, eD, za1, za3, zad, zae, za6, zbt, zao, za2, e, q4, zio, ziq, Bool.not_true, Bool.not_false, zb6]
       refine hK46 _ _ ?_
       refine zay rfl (fun ht => ?_) (fun ht => ?_)
       ·cases ht
       ·refine za4 (hK45 _ _ ?_)
        refine zba hp zar hc rfl fun K47 hK47 => ?_
        simp -dsimp -implicitDefEqProofs (disch := first | assumption | omega | (simp only [r_z, zaa, zab, zac] <;> omega) | decide) only [r_r, ↓reduceIte, Nat.reduceEqDiff, Nat.reduceAdd, D.fix, Int.reduceToNat, Nat.reduceMul, Nat.reduceBNe, Nat.reduceBEq, zbb, zbw, zai, eD, za1, za3, zad, zae, za6, zbt, zao, za2, zb6]
        refine hK47 _ _ ⟨_, _, _, ?_, ⟨k + 1, by omega, rfl, rfl, rfl⟩, ?_⟩
        ·first | omega | (simp only [List.length_cons]; omega) | (dsimp only; omega)
        ·refine Rt.end (by repeat (first | exact zat _ | refine zap ?_ (by first | rfl | (simp [r_f, zaa, zab, zac, hen]; done) | simp [r_f, zaa, zab, zac, hen, *]))) ?_
         simp only [r_g, Nat.reduceAdd, ↓reduceIte, Nat.reduceEqDiff, zbb, zbw, zai, eD, za1, za3, zad, zae, za6, zbt, zao, za2]; rw [f5]; rfl
      ·have q4 : ((nth f.puts k).v != 0) = false := by rw [f7 k hlk e]; rfl
       simp -dsimp -implicitDefEqProofs (disch := first | assumption | omega | (simp only [r_z, zaa, zab, zac] <;> omega) | decide) only [r_r, ↓reduceIte, Nat.reduceEqDiff, Nat.reduceAdd, D.fix, Int.reduceToNat, Nat.reduceMul, Nat.reduceBNe, Nat.reduceBEq, zbb, zbw, zai, eD, za1, za3, zad, zae, za6, zbt, zao, za2, e, q4, zio, ziq, Bool.not_true, Bool.not_false, zb6]
       refine hK46 _ _ ?_
       refine zay rfl (fun ht => ?_) (fun ht => ?_)
       ·cases ht
       ·refine za4 (hK45 _ _ ?_)
        refine zba hp zar hc rfl fun K48 hK48 => ?_
        simp -dsimp -implicitDefEqProofs (disch := first | assumption | omega | (simp only [r_z, zaa, zab, zac] <;> omega) | decide) only [r_r, ↓reduceIte, Nat.reduceEqDiff, Nat.reduceAdd, D.fix, Int.reduceToNat, Nat.reduceMul, Nat.reduceBNe, Nat.reduceBEq, zbb, zbw, zai, eD, za1, za3, zad, zae, za6, zbt, zao, za2, zb6]
        refine hK48 _ _ ⟨_, _, _, ?_, ⟨k + 1, by omega, rfl, rfl, rfl⟩, ?_⟩
        ·first | omega | (simp only [List.length_cons]; omega) | (dsimp only; omega)
        ·refine Rt.end (by repeat (first | exact zat _ | refine zap ?_ (by first | rfl | (simp [r_f, zaa, zab, zac, hen]; done) | simp [r_f, zaa, zab, zac, hen, *]))) ?_
         simp only [r_g, Nat.reduceAdd, ↓reduceIte, Nat.reduceEqDiff, zbb, zbw, zai, eD, za1, za3, zad, zae, za6, zbt, zao, za2]; rw [f5]; rfl
     ·refine zbi (hK41 _ _ ?_)
      refine zah hp zar hc rfl fun K49 hK49 => ?_
      simp -dsimp -implicitDefEqProofs (disch := first | assumption | omega | (simp only [r_z, zaa, zab, zac] <;> omega) | decide) only [r_r, ↓reduceIte, Nat.reduceEqDiff, Nat.reduceAdd, D.fix, Int.reduceToNat, Nat.reduceMul, Nat.reduceBNe, Nat.reduceBEq, zbb, zbw, zai, eD, za1, za3, zad, zae, za6, zbt, zao, za2]
      refine hK49 _ _ ?_
      refine zbr ?_
      show closeA _ _ = _
      simp (disch := first | assumption | omega | (simp only [r_z, zaa, zab, zac] <;> omega) | decide) only [r_c, Nat.reduceAdd, D.fix, ↓reduceIte, Nat.reduceEqDiff, zbb, zbw, zai, eD, za1, za3, zad, zae, za6, zbt, zao, za2]
end Go.Proofs.Ytapjobndmmkanaa
