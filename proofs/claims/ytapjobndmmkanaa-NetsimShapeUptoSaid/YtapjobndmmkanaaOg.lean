/- netsim: Effect. -/
import Derived.Test.YtapjobndmmkanaaQr
import Derived.Test.YtapjobndmmkanaaOf
set_option linter.unusedVariables false
set_option linter.unusedSimpArgs false
set_option maxRecDepth 100000
set_option maxHeartbeats 4000000
namespace Go.Proofs.Ytapjobndmmkanaa
open Go Go.RowKit
theorem zbn : (((((((type_of% @ze9) ∧ (type_of% @zfa)) ∧ ((type_of% @zlt) ∧ ((type_of% @zlu) ∧ (type_of% @zv4)))) ∧ (((type_of% @zv5) ∧ (type_of% @zv6)) ∧ ((type_of% @zjy) ∧ ((type_of% @zjz) ∧ (type_of% @zqe))))) ∧ ((((type_of% @zqd) ∧ (type_of% @zy9)) ∧ ((type_of% @zza) ∧ ((type_of% @zzb) ∧ (type_of% @zzc)))) ∧ (((type_of% @zzd) ∧ (type_of% @zze)) ∧ ((type_of% @zzf) ∧ ((type_of% @zzg) ∧ (type_of% @zfq)))))) ∧ (((((type_of% @zfr) ∧ (type_of% @zlz)) ∧ ((type_of% @zl0) ∧ ((type_of% @zl1) ∧ (type_of% @zl2)))) ∧ (((type_of% @zo8) ∧ (type_of% @zo9)) ∧ ((type_of% @zpa) ∧ ((type_of% @zl3) ∧ (type_of% @zl4))))) ∧ ((((type_of% @zqg) ∧ (type_of% @zqf)) ∧ ((type_of% @zhv) ∧ ((type_of% @zhw) ∧ (type_of% @zhx)))) ∧ (((type_of% @zuw) ∧ ((type_of% @zux) ∧ (type_of% @zd5))) ∧ ((type_of% @zd6) ∧ ((type_of% @zfs) ∧ (type_of% @zft))))))) ∧ ((((((type_of% @zzl) ∧ (type_of% @zpf)) ∧ ((type_of% @zpg) ∧ ((type_of% @zzh) ∧ (type_of% @zzi)))) ∧ (((type_of% @zzk) ∧ (type_of% @zzj)) ∧ ((type_of% @zfu) ∧ ((type_of% @zfv) ∧ (type_of% @jav))))) ∧ ((((type_of% @jaw) ∧ (type_of% @zd3)) ∧ ((type_of% @zd4) ∧ ((type_of% @ze5) ∧ (type_of% @ze6)))) ∧ (((type_of% @ze7) ∧ (type_of% @ze8)) ∧ ((type_of% @zj0) ∧ ((type_of% @zj1) ∧ (type_of% @zfo)))))) ∧ (((((type_of% @zfp) ∧ (type_of% @zhr)) ∧ ((type_of% @zhs) ∧ ((type_of% @zht) ∧ (type_of% @zhu)))) ∧ (((type_of% @zj2) ∧ (type_of% @zj3)) ∧ ((type_of% @zhy) ∧ ((type_of% @zqh) ∧ (type_of% @zqi))))) ∧ ((((type_of% @jdm) ∧ (type_of% @jdl)) ∧ ((type_of% @jdn) ∧ ((type_of% @zt4) ∧ (type_of% @zt5)))) ∧ (((type_of% @zj4) ∧ ((type_of% @zj5) ∧ (type_of% @zlv))) ∧ ((type_of% @zlw) ∧ ((type_of% @zlx) ∧ (type_of% @zly)))))))) := ⟨⟨⟨⟨⟨⟨@ze9, @zfa⟩, ⟨@zlt, ⟨@zlu, @zv4⟩⟩⟩, ⟨⟨@zv5, @zv6⟩, ⟨@zjy, ⟨@zjz, @zqe⟩⟩⟩⟩, ⟨⟨⟨@zqd, @zy9⟩, ⟨@zza, ⟨@zzb, @zzc⟩⟩⟩, ⟨⟨@zzd, @zze⟩, ⟨@zzf, ⟨@zzg, @zfq⟩⟩⟩⟩⟩, ⟨⟨⟨⟨@zfr, @zlz⟩, ⟨@zl0, ⟨@zl1, @zl2⟩⟩⟩, ⟨⟨@zo8, @zo9⟩, ⟨@zpa, ⟨@zl3, @zl4⟩⟩⟩⟩, ⟨⟨⟨@zqg, @zqf⟩, ⟨@zhv, ⟨@zhw, @zhx⟩⟩⟩, ⟨⟨@zuw, ⟨@zux, @zd5⟩⟩, ⟨@zd6, ⟨@zfs, @zft⟩⟩⟩⟩⟩⟩, ⟨⟨⟨⟨⟨@zzl, @zpf⟩, ⟨@zpg, ⟨@zzh, @zzi⟩⟩⟩, ⟨⟨@zzk, @zzj⟩, ⟨@zfu, ⟨@zfv, @jav⟩⟩⟩⟩, ⟨⟨⟨@jaw, @zd3⟩, ⟨@zd4, ⟨@ze5, @ze6⟩⟩⟩, ⟨⟨@ze7, @ze8⟩, ⟨@zj0, ⟨@zj1, @zfo⟩⟩⟩⟩⟩, ⟨⟨⟨⟨@zfp, @zhr⟩, ⟨@zhs, ⟨@zht, @zhu⟩⟩⟩, ⟨⟨@zj2, @zj3⟩, ⟨@zhy, ⟨@zqh, @zqi⟩⟩⟩⟩, ⟨⟨⟨@jdm, @jdl⟩, ⟨@jdn, ⟨@zt4, @zt5⟩⟩⟩, ⟨⟨@zj4, ⟨@zj5, @zlv⟩⟩, ⟨@zlw, ⟨@zlx, @zly⟩⟩⟩⟩⟩⟩⟩
theorem Rt.fr1 {m : List Nat} {τ : Fr} {H : zag} : Rt m τ H τ (H ++ [.free]) := fun c a w _ h => R.reserve 1 H h
def zbs : AObj := .cells [.d (oD false), .d (.val (.slice none 0 0)), .d (.val (.slice none 0 0)), .d (.val (.slice none 0 0)), .d (.val (.slice none 0 0))]
theorem zwn (n : Net) (s : PSt) (v : List Bool) (e0 e1 : Int) (ho : n.out.length ≤ 1000000) (hv : n.out.length ≤ v.length) (hw : ∀ w ∈ n.out, WireOut w) (h1 : s.regs.length ≤ 1000000) (h2 : s.mems.length ≤ 1000000) (h3 : ∀ l ∈ s.mems, l.length ≤ 1000000) (h4 : e0 ≤ 1000000) (h5 : e1 ≤ 1000000) (h6 : -1000000 ≤ e0) (h7 : -1000000 ≤ e1) : zbh Try.prog 20 [za1 n, .agg (za6 s), boolsD v, .agg [iD e0, iD e1]] (.d (.agg (zbt (efF n.out s v e0.toNat e1.toNat)))) := by
 refine zbv (fn := Try.f20) (by kernel_rfl) Try.func20 rfl (Nat.le_of_ble_eq_true rfl) fun c hc hp => ?_
 refine zb8 (τ' := frL [(0, .d (za1 n)), (1, .d (.agg (za6 s))), (2, .d (boolsD v)), (3, .d (.agg [iD e0, iD e1]))]) (by repeat (first | exact zat _ | refine zap ?_ (by first | rfl | (simp [r_f, zab, zaa, zac, zak, zal, zam, zan, zdn]; done) | simp [r_f, zab, zaa, zac, zak, zal, zam, zan, zdn, *]))) ?_
 refine zah hp zar hc rfl fun K1 hK1 => ?_
 simp -dsimp -implicitDefEqProofs (disch := first | assumption | omega | (simp only [r_z, zab, zaa, zac, zak, zal, zam, zan] <;> omega) | decide) only [r_r, ↓reduceIte, Nat.reduceEqDiff, Nat.reduceAdd, D.fix, Int.reduceToNat, Nat.reduceMul, Nat.reduceBNe, Nat.reduceBEq, r_m, za1, za3, zad, zae, za6, zai, zao, zaj, zaf, za2, iD, oD, zbs, zbn]
 refine hK1 _ _ ?_
 refine zah hp zar hc rfl fun K2 hK2 => ?_
 simp -dsimp -implicitDefEqProofs (disch := first | assumption | omega | (simp only [r_z, zab, zaa, zac, zak, zal, zam, zan] <;> omega) | decide) only [r_r, ↓reduceIte, Nat.reduceEqDiff, Nat.reduceAdd, D.fix, Int.reduceToNat, Nat.reduceMul, Nat.reduceBNe, Nat.reduceBEq, r_m, za1, za3, zad, zae, za6, zai, zao, zaj, zaf, za2, iD, oD, zbs, zbn]
 refine hK2 _ _ ?_
 refine zav fun K3 hK3 => ?_
 refine zah hp zar hc rfl fun K4 hK4 => ?_
 simp -dsimp -implicitDefEqProofs (disch := first | assumption | omega | (simp only [r_z, zab, zaa, zac, zak, zal, zam, zan] <;> omega) | decide) only [r_r, ↓reduceIte, Nat.reduceEqDiff, Nat.reduceAdd, D.fix, Int.reduceToNat, Nat.reduceMul, Nat.reduceBNe, Nat.reduceBEq, r_m, za1, za3, zad, zae, za6, zai, zao, zaj, zaf, za2, iD, oD, zbs, zbn]
 refine hK4 _ _ ?_
 refine za5 ?_
 refine zbc hp (fun τ' H' mm => ∃ (k : Nat) (μs μw : Mp), (k ≤ n.out.length ∧ EfP n.out v k μs μw) ∧ mm = n.out.length - k ∧ H' = [.cells (avs (za3 n)), .cells (avs (za6 s)), .cells [.d (iD e0), .d (iD e1)], zbs, mO μs, mO μw] ∧ τ' = frL [(2, .d (boolsD v)), (4, .op 0 0), (5, .op 1 0), (7, .op 2 0), (8, .op 3 0), (9, .om 4), (10, .om 5), (24, .d (zad n.out)), (25, .d (iD n.out.length)), (26, .d (iD k))]) (n.out.length) ?_ ⟨0, ([], 0), ([], 0), ⟨Nat.zero_le _, EfP.nil _ _⟩, rfl, rfl, rfl⟩ ?_
 ·refine Rt.trans (Rt.gc (keep := [0,1,2,3,4,5]) (by decide) (by decide) (by simp [fzH, gcH])) ?_
  refine Rt.end (by repeat (first | exact zat _ | refine zap ?_ (by first | rfl | (simp [r_f, zab, zaa, zac, zak, zal, zam, zan, zdn]; done) | simp [r_f, zab, zaa, zac, zak, zal, zam, zan, zdn, *]))) ?_
  first | rfl | (simp only [r_g, Nat.reduceAdd, ↓reduceIte, Nat.reduceEqDiff, r_m, za1, za3, zad, zae, za6, zai, zao, zaj, zaf, za2, iD, oD, zbs]; first | done | rfl)
 rintro τ' H' mm ⟨k, μs, μw, ⟨hk, hE⟩, rfl, rfl, rfl⟩
 refine zah hp zar hc rfl fun K5 hK5 => ?_
 simp -dsimp -implicitDefEqProofs (disch := first | assumption | omega | (simp only [r_z, zab, zaa, zac, zak, zal, zam, zan] <;> omega) | decide) only [r_r, ↓reduceIte, Nat.reduceEqDiff, Nat.reduceAdd, D.fix, Int.reduceToNat, Nat.reduceMul, Nat.reduceBNe, Nat.reduceBEq, r_m, za1, za3, zad, zae, za6, zai, zao, zaj, zaf, za2, iD, oD, zbs, zbn]
 refine hK5 _ _ ?_
 refine zav fun K6 hK6 => ?_
 refine zay rfl (fun ht => ?_) (fun ht => ?_)
 ·have hlt : k < n.out.length := by simp at ht; omega
  obtain ⟨ko, i0, b0, b7, i2⟩ := hw _ (zdc hlt)
  have I1 : I64 (nth n.out k).kind := zim (by omega) (by omega)
  have I2 : I64 (nth n.out k).i := zim (by omega) (by omega)
  refine za4 (hK6 _ _ ?_)
  refine zav fun K7 hK7 => ?_
  refine za5 ?_
  refine zah hp zar hc rfl fun K8 hK8 => ?_
  simp -dsimp -implicitDefEqProofs (disch := first | assumption | omega | (simp only [r_z, zab, zaa, zac, zak, zal, zam, zan] <;> omega) | decide) only [r_r, ↓reduceIte, Nat.reduceEqDiff, Nat.reduceAdd, D.fix, Int.reduceToNat, Nat.reduceMul, Nat.reduceBNe, Nat.reduceBEq, r_m, za1, za3, zad, zae, za6, zai, zao, zaj, zaf, za2, iD, oD, zbs, zbn]
  refine hK8 _ _ ?_
  refine zah hp zar hc rfl fun K9 hK9 => ?_
  rcases tf (nth v k) with e | e
  ·simp -dsimp -implicitDefEqProofs (disch := first | assumption | omega | (simp only [r_z, zab, zaa, zac, zak, zal, zam, zan] <;> omega) | decide) only [r_r, ↓reduceIte, Nat.reduceEqDiff, Nat.reduceAdd, D.fix, Int.reduceToNat, Nat.reduceMul, Nat.reduceBNe, Nat.reduceBEq, r_m, za1, za3, zad, zae, za6, zai, zao, zaj, zaf, za2, iD, oD, zbs, zcr, e, zbn]
   refine hK9 _ _ ?_
   refine zay rfl (fun ht => ?_) (fun ht => ?_)
   ·skip
    have hks : zjh Try.prog tEb (eV (nth n.out k).kind (nth n.out k).i) := zl5 I1 I2
    have hkw : zjh Try.prog tEi (eV (nth n.out k).kind (nth n.out k).i) := zin I1 I2
    refine zah hp zar hc rfl fun K10 hK10 => ?_
    simp -dsimp -implicitDefEqProofs (disch := first | assumption | omega | (simp only [r_z, zab, zaa, zac, zak, zal, zam, zan] <;> omega) | decide) only [r_r, ↓reduceIte, Nat.reduceEqDiff, Nat.reduceAdd, D.fix, Int.reduceToNat, Nat.reduceMul, Nat.reduceBNe, Nat.reduceBEq, r_m, za1, za3, zad, zae, za6, zai, zao, zaj, zaf, za2, iD, oD, zbs, zcs, je8 jax hks hE.s.ok, zbn]
    refine hK10 _ _ ?_
    refine jcu zar hp hc zcb rfl [(0, []), (1, []), (2, []), (3, []), (4, []), (5, []), (6, []), (7, []), (8, []), (9, []), (10, []), (11, [6]), (12, []), (13, [])] [[], [], [1], [], [3], [1, 2, 3, 4], [0, 1, 2, 3, 4, 5], [], [7], [7, 8], [0, 1, 2, 3, 4, 5, 6, 7, 8, 9], [0, 1, 2, 3, 4, 5, 7, 8, 9], [0, 1, 2, 3, 4, 5, 7, 8, 9, 11], [0, 1, 2, 3, 4, 5, 6, 7, 8, 9, 10, 11, 12]] 0 (by kernel_rfl) fun K11 hK11 => ?_
    rcases tf (zhn n.out v (nth n.out k).kind (nth n.out k).i k) with e2 | e2
    ·have hgm : zhm (eV (nth n.out k).kind (nth n.out k).i) μw = some (.int .i64 (zc3 n.out v (nth n.out k).kind (nth n.out k).i k)) := by rw [hE.gw _ _ I1 I2, if_pos e2]
     have hA := fun (H : zag) (id : Nat) => jfh (H := H) (id := id) zwk hkw hE.w hgm
     have hB := fun (H : zag) (id : Nat) (w : Value) => jfi (H := H) (id := id) (w := w) hE.w hgm
     have hC := hgm
     simp -dsimp -implicitDefEqProofs (disch := first | assumption | omega | (simp only [r_z, zab, zaa, zac, zak, zal, zam, zan] <;> omega) | decide) only [r_r, ↓reduceIte, Nat.reduceEqDiff, Nat.reduceAdd, D.fix, Int.reduceToNat, Nat.reduceMul, Nat.reduceBNe, Nat.reduceBEq, r_w, r_m, za1, za3, zad, zae, za6, zai, zao, zaj, zaf, za2, iD, oD, zbs, zcs, zd1, zga zwk hkw hE.w.ok, hgm, Option.getD_some, Option.getD_none, hA, hB, hC, zbn]
     refine hK11 _ _ (hK7 _ _ ?_)
     refine zba hp zar hc rfl fun K12 hK12 => ?_
     simp -dsimp -implicitDefEqProofs (disch := first | assumption | omega | (simp only [r_z, zab, zaa, zac, zak, zal, zam, zan] <;> omega) | decide) only [r_r, ↓reduceIte, Nat.reduceEqDiff, Nat.reduceAdd, D.fix, Int.reduceToNat, Nat.reduceMul, Nat.reduceBNe, Nat.reduceBEq, r_m, za1, za3, zad, zae, za6, zai, zao, zaj, zaf, za2, iD, oD, zbs, zbn]
     refine hK12 _ _ ⟨_, _, _, ?_, ⟨k + 1, _, _, ⟨by omega, hE.add e I1 I2⟩, rfl, rfl, rfl⟩, ?_⟩
     ·first | omega | (simp only [List.length_cons]; omega) | (dsimp only; omega)
     ·refine Rt.trans (Rt.gc (keep := [0,1,2,3,4,5]) (by decide) (by decide) (by simp [fzH, gcH])) ?_
      refine Rt.end (by repeat (first | exact zat _ | refine zap ?_ (by first | rfl | (simp [r_f, zab, zaa, zac, zak, zal, zam, zan, zdn]; done) | simp [r_f, zab, zaa, zac, zak, zal, zam, zan, zdn, *]))) ?_
      first | rfl | (simp only [r_g, Nat.reduceAdd, ↓reduceIte, Nat.reduceEqDiff, r_m, za1, za3, zad, zae, za6, zai, zao, zaj, zaf, za2, iD, oD, zbs]; first | done | rfl)
    ·have hgm : zhm (eV (nth n.out k).kind (nth n.out k).i) μw = none := by rw [hE.gw _ _ I1 I2, if_neg (by rw [e2]; simp)]
     have hw0 := zuk e2
     have hA := fun (H : zag) (id : Nat) => je9 (H := H) (id := id) zwk hkw hE.w.ok hgm
     have hB := fun (H : zag) (id : Nat) (w : Value) => jfa (H := H) (id := id) (u := w) (z := .int .i64 0) hE.w.ok hkw.1 hgm
     have hC := jfj zwk hkw hE.w.ok hgm
     simp -dsimp -implicitDefEqProofs (disch := first | assumption | omega | (simp only [r_z, zab, zaa, zac, zak, zal, zam, zan] <;> omega) | decide) only [r_r, ↓reduceIte, Nat.reduceEqDiff, Nat.reduceAdd, D.fix, Int.reduceToNat, Nat.reduceMul, Nat.reduceBNe, Nat.reduceBEq, r_w, r_m, za1, za3, zad, zae, za6, zai, zao, zaj, zaf, za2, iD, oD, zbs, zcs, zd1, zga zwk hkw hE.w.ok, hgm, Option.getD_some, Option.getD_none, hA, hB, hC, zbn]
     refine hK11 _ _ (hK7 _ _ ?_)
     refine zba hp zar hc rfl fun K13 hK13 => ?_
     simp -dsimp -implicitDefEqProofs (disch := first | assumption | omega | (simp only [r_z, zab, zaa, zac, zak, zal, zam, zan] <;> omega) | decide) only [r_r, ↓reduceIte, Nat.reduceEqDiff, Nat.reduceAdd, D.fix, Int.reduceToNat, Nat.reduceMul, Nat.reduceBNe, Nat.reduceBEq, r_m, za1, za3, zad, zae, za6, zai, zao, zaj, zaf, za2, iD, oD, zbs, zbn]
     refine hK13 _ _ ⟨_, _, _, ?_, ⟨k + 1, _, _, ⟨by omega, hE.add e I1 I2⟩, rfl, rfl, rfl⟩, ?_⟩
     ·first | omega | (simp only [List.length_cons]; omega) | (dsimp only; omega)
     ·refine Rt.trans (Rt.gc (keep := [0,1,2,3,4,5]) (by decide) (by decide) (by simp [fzH, gcH])) ?_
      refine Rt.end (by repeat (first | exact zat _ | refine zap ?_ (by first | rfl | (simp [r_f, zab, zaa, zac, zak, zal, zam, zan, zdn]; done) | simp [r_f, zab, zaa, zac, zak, zal, zam, zan, zdn, *]))) ?_
      simp only [r_g, Nat.reduceAdd, ↓reduceIte, Nat.reduceEqDiff, r_m, za1, za3, zad, zae, za6, zai, zao, zaj, zaf, za2, iD, oD, zbs]; rw [hw0]; rfl
   ·cases ht
  ·simp -dsimp -implicitDefEqProofs (disch := first | assumption | omega | (simp only [r_z, zab, zaa, zac, zak, zal, zam, zan] <;> omega) | decide) only [r_r, ↓reduceIte, Nat.reduceEqDiff, Nat.reduceAdd, D.fix, Int.reduceToNat, Nat.reduceMul, Nat.reduceBNe, Nat.reduceBEq, r_m, za1, za3, zad, zae, za6, zai, zao, zaj, zaf, za2, iD, oD, zbs, zcr, e, zbn]
   refine hK9 _ _ ?_
   refine zay rfl (fun ht => ?_) (fun ht => ?_)
   ·cases ht
   ·refine za4 (hK7 _ _ ?_)
    refine zba hp zar hc rfl fun K14 hK14 => ?_
    simp -dsimp -implicitDefEqProofs (disch := first | assumption | omega | (simp only [r_z, zab, zaa, zac, zak, zal, zam, zan] <;> omega) | decide) only [r_r, ↓reduceIte, Nat.reduceEqDiff, Nat.reduceAdd, D.fix, Int.reduceToNat, Nat.reduceMul, Nat.reduceBNe, Nat.reduceBEq, r_m, za1, za3, zad, zae, za6, zai, zao, zaj, zaf, za2, iD, oD, zbs, zbn]
    refine hK14 _ _ ⟨_, _, _, ?_, ⟨k + 1, _, _, ⟨by omega, hE.same e⟩, rfl, rfl, rfl⟩, ?_⟩
    ·first | omega | (simp only [List.length_cons]; omega) | (dsimp only; omega)
    ·refine Rt.trans (Rt.gc (keep := [0,1,2,3,4,5]) (by decide) (by decide) (by simp [fzH, gcH])) ?_
     refine Rt.end (by repeat (first | exact zat _ | refine zap ?_ (by first | rfl | (simp [r_f, zab, zaa, zac, zak, zal, zam, zan, zdn]; done) | simp [r_f, zab, zaa, zac, zak, zal, zam, zan, zdn, *]))) ?_
     first | rfl | (simp only [r_g, Nat.reduceAdd, ↓reduceIte, Nat.reduceEqDiff, r_m, za1, za3, zad, zae, za6, zai, zao, zaj, zaf, za2, iD, oD, zbs]; first | done | rfl)
 ·have hkk : k = n.out.length := by simp at ht; omega
  subst hkk
  refine zbi (hK3 _ _ ?_)
  refine zah hp zar hc rfl fun K15 hK15 => ?_
  simp -dsimp -implicitDefEqProofs (disch := first | assumption | omega | (simp only [r_z, zab, zaa, zac, zak, zal, zam, zan] <;> omega) | decide) only [r_r, ↓reduceIte, Nat.reduceEqDiff, Nat.reduceAdd, D.fix, Int.reduceToNat, Nat.reduceMul, Nat.reduceBNe, Nat.reduceBEq, r_m, za1, za3, zad, zae, za6, zai, zao, zaj, zaf, za2, iD, oD, zbs, zbn]
  refine hK15 _ _ ?_
  refine zav fun K16 hK16 => ?_
  refine zah hp zar hc rfl fun K17 hK17 => ?_
  simp -dsimp -implicitDefEqProofs (disch := first | assumption | omega | (simp only [r_z, zab, zaa, zac, zak, zal, zam, zan] <;> omega) | decide) only [r_r, ↓reduceIte, Nat.reduceEqDiff, Nat.reduceAdd, D.fix, Int.reduceToNat, Nat.reduceMul, Nat.reduceBNe, Nat.reduceBEq, r_m, za1, za3, zad, zae, za6, zai, zao, zaj, zaf, za2, iD, oD, zbs, zbn]
  refine hK17 _ _ ?_
  refine za5 ?_
  refine zbc hp (fun τ' H' mm => ∃ (i : Nat), (i ≤ s.regs.length) ∧ mm = s.regs.length - i ∧ H' = [.cells (avs (za6 s)), .cells [.d (iD e0), .d (iD e1)], zbs, mO μs, mO μw, .cells [.d (oD false), .os 1 6 0 i, .d (.val (.slice none 0 0)), .d (.val (.slice none 0 0)), .d (.val (.slice none 0 0))], .cells (avs ((zfw n.out v i).map iD))] ∧ τ' = frL [(5, .op 0 0), (7, .op 1 0), (8, .op 2 0), (9, .om 3), (10, .om 4), (13, .op 5 0), (57, .d (iD s.regs.length)), (58, .d (iD i))]) (s.regs.length) ?_ ⟨0, Nat.zero_le _, rfl, rfl, rfl⟩ ?_
  ·refine Rt.trans (Rt.nilc 6 1 1 rfl rfl) ?_
   refine Rt.trans (Rt.gc (keep := [1,2,3,4,5,6,7]) (by decide) (by decide) (by simp [fzH, gcH])) ?_
   refine Rt.end (by repeat (first | exact zat _ | refine zap ?_ (by first | rfl | (simp [r_f, zab, zaa, zac, zak, zal, zam, zan, zdn]; done) | simp [r_f, zab, zaa, zac, zak, zal, zam, zan, zdn, *]))) ?_
   first | rfl | (simp only [r_g, Nat.reduceAdd, ↓reduceIte, Nat.reduceEqDiff, r_m, za1, za3, zad, zae, za6, zai, zao, zaj, zaf, za2, iD, oD, zbs]; first | done | rfl)
  rintro τ' H' mm ⟨i, hi, rfl, rfl, rfl⟩
  refine zah hp zar hc rfl fun K18 hK18 => ?_
  simp -dsimp -implicitDefEqProofs (disch := first | assumption | omega | (simp only [r_z, zab, zaa, zac, zak, zal, zam, zan] <;> omega) | decide) only [r_r, ↓reduceIte, Nat.reduceEqDiff, Nat.reduceAdd, D.fix, Int.reduceToNat, Nat.reduceMul, Nat.reduceBNe, Nat.reduceBEq, r_m, za1, za3, zad, zae, za6, zai, zao, zaj, zaf, za2, iD, oD, zbs, zbn]
  refine hK18 _ _ ?_
  refine zav fun K19 hK19 => ?_
  refine zay rfl (fun ht => ?_) (fun ht => ?_)
  ·have hlt : i < s.regs.length := by simp at ht; omega
   have I3 : I64 (i : Int) := zim (by omega) (by omega)
   have hkw : zjh Try.prog tEi (eV 1 i) := zin (zim (by omega) (by omega)) I3
   have hgm := hE.gw 1 i (zim (by omega) (by omega)) I3
   refine za4 (hK19 _ _ ?_)
   refine zav fun K20 hK20 => ?_
   refine za5 ?_
   refine zah hp zar hc rfl fun K21 hK21 => ?_
   simp -dsimp -implicitDefEqProofs (disch := first | assumption | omega | (simp only [r_z, zab, zaa, zac, zak, zal, zam, zan] <;> omega) | decide) only [r_r, ↓reduceIte, Nat.reduceEqDiff, Nat.reduceAdd, D.fix, Int.reduceToNat, Nat.reduceMul, Nat.reduceBNe, Nat.reduceBEq, r_m, za1, za3, zad, zae, za6, zai, zao, zaj, zaf, za2, iD, oD, zbs]
   refine hK21 _ _ ?_
   refine zla zar hc zcb rfl (q := 2) (by kernel_rfl) (by kernel_rfl) fun K22 hK22 => ?_
   simp -dsimp -implicitDefEqProofs (disch := first | assumption | omega | (simp only [r_z, zab, zaa, zac, zak, zal, zam, zan] <;> omega) | decide) only [r_r, ↓reduceIte, Nat.reduceEqDiff, Nat.reduceAdd, D.fix, Int.reduceToNat, Nat.reduceMul, Nat.reduceBNe, Nat.reduceBEq, r_m, za1, za3, zad, zae, za6, zai, zao, zaj, zaf, za2, iD, oD, zbs, zcs, zd1, zga zwk hkw hE.w.ok, hgm, zfb, zbn]
   refine hK22 _ _ (hK20 _ _ ?_)
   refine zba hp zar hc rfl fun K23 hK23 => ?_
   simp -dsimp -implicitDefEqProofs (disch := first | assumption | omega | (simp only [r_z, zab, zaa, zac, zak, zal, zam, zan] <;> omega) | decide) only [r_r, ↓reduceIte, Nat.reduceEqDiff, Nat.reduceAdd, D.fix, Int.reduceToNat, Nat.reduceMul, Nat.reduceBNe, Nat.reduceBEq, r_m, za1, za3, zad, zae, za6, zai, zao, zaj, zaf, za2, iD, oD, zbs, zbn]
   refine hK23 _ _ ⟨_, _, _, ?_, ⟨i + 1, by omega, rfl, rfl, rfl⟩, ?_⟩
   ·first | omega | (simp only [List.length_cons]; omega) | (dsimp only; omega)
   ·refine Rt.trans (Rt.gc (keep := [0,1,2,3,4,5,8]) (by decide) (by decide) (by simp [fzH, gcH])) ?_
    refine Rt.end (by repeat (first | exact zat _ | refine zap ?_ (by first | rfl | (simp [r_f, zab, zaa, zac, zak, zal, zam, zan, zdn]; done) | simp [r_f, zab, zaa, zac, zak, zal, zam, zan, zdn, *]))) ?_
    simp only [r_g, Nat.reduceAdd, ↓reduceIte, Nat.reduceEqDiff, r_m, za1, za3, zad, zae, za6, zai, zao, zaj, zaf, za2, iD, oD, zbs]; rw [zqj]; simp [iD]
  ·have hii : i = s.regs.length := by simp at ht; omega
   subst hii
   refine zbi (hK16 _ _ ?_)
   refine zav fun K24 hK24 => ?_
   refine zah hp zar hc rfl fun K25 hK25 => ?_
   simp -dsimp -implicitDefEqProofs (disch := first | assumption | omega | (simp only [r_z, zab, zaa, zac, zak, zal, zam, zan] <;> omega) | decide) only [r_r, ↓reduceIte, Nat.reduceEqDiff, Nat.reduceAdd, D.fix, Int.reduceToNat, Nat.reduceMul, Nat.reduceBNe, Nat.reduceBEq, r_m, za1, za3, zad, zae, za6, zai, zao, zaj, zaf, za2, iD, oD, zbs, zbn]
   refine hK25 _ _ ?_
   refine za5 ?_
   refine zbc hp (fun τ' H' mm => ∃ (i : Nat), (i ≤ s.mems.length) ∧ mm = s.mems.length - i ∧ H' = [.cells (avs (za6 s)), .cells [.d (iD e0), .d (iD e1)], zbs, mO μs, mO μw, .cells [.d (oD false), .os 1 6 0 s.regs.length, .os 1 7 0 i, .d (.val (.slice none 0 0)), .d (.val (.slice none 0 0))], .cells (avs ((zfw n.out v s.regs.length).map iD)), .cells (avs ((zfx n.out v s.mems i).map intsD))] ∧ τ' = frL [(5, .op 0 0), (7, .op 1 0), (8, .op 2 0), (9, .om 3), (10, .om 4), (13, .op 5 0), (74, .d (intssD s.mems)), (75, .d (iD s.mems.length)), (76, .d (iD i))]) (s.mems.length) ?_ ⟨0, Nat.zero_le _, rfl, rfl, rfl⟩ ?_
   ·refine Rt.trans (Rt.nilc 5 2 1 rfl rfl) ?_
    refine Rt.trans (Rt.gc (keep := [0,1,2,3,4,5,6,7]) (by decide) (by decide) (by simp [fzH, gcH])) ?_
    refine Rt.end (by repeat (first | exact zat _ | refine zap ?_ (by first | rfl | (simp [r_f, zab, zaa, zac, zak, zal, zam, zan, zdn]; done) | simp [r_f, zab, zaa, zac, zak, zal, zam, zan, zdn, *]))) ?_
    first | rfl | (simp only [r_g, Nat.reduceAdd, ↓reduceIte, Nat.reduceEqDiff, r_m, za1, za3, zad, zae, za6, zai, zao, zaj, zaf, za2, iD, oD, zbs]; first | done | rfl)
   rintro τ' H' mm ⟨i, hi, rfl, rfl, rfl⟩
   refine zah hp zar hc rfl fun K26 hK26 => ?_
   simp -dsimp -implicitDefEqProofs (disch := first | assumption | omega | (simp only [r_z, zab, zaa, zac, zak, zal, zam, zan] <;> omega) | decide) only [r_r, ↓reduceIte, Nat.reduceEqDiff, Nat.reduceAdd, D.fix, Int.reduceToNat, Nat.reduceMul, Nat.reduceBNe, Nat.reduceBEq, r_m, za1, za3, zad, zae, za6, zai, zao, zaj, zaf, za2, iD, oD, zbs, zbn]
   refine hK26 _ _ ?_
   refine zav fun K27 hK27 => ?_
   refine zay rfl (fun ht => ?_) (fun ht => ?_)
   ·have hlt : i < s.mems.length := by simp at ht; omega
    have I3 : I64 (i : Int) := zim (by omega) (by omega)
    have hml : (nth s.mems i).length ≤ 1000000 := h3 _ (zdc hlt)
    refine za4 (hK27 _ _ ?_)
    refine zav fun K28 hK28 => ?_
    refine za5 ?_
    refine zah hp zar hc rfl fun K29 hK29 => ?_
    simp -dsimp -implicitDefEqProofs (disch := first | assumption | omega | (simp only [r_z, zab, zaa, zac, zak, zal, zam, zan] <;> omega) | decide) only [r_r, ↓reduceIte, Nat.reduceEqDiff, Nat.reduceAdd, D.fix, Int.reduceToNat, Nat.reduceMul, Nat.reduceBNe, Nat.reduceBEq, r_m, za1, za3, zad, zae, za6, zai, zao, zaj, zaf, za2, iD, oD, zbs, zcr, zbn]
    refine hK29 _ _ ?_
    refine zef hp (τ' := frL [(5, .op 1 0), (7, .op 2 0), (8, .op 3 0), (9, .om 4), (10, .om 5), (13, .op 6 0), (15, .d (iD i)), (16, .d (intsD (nth s.mems i))), (74, .d (intssD s.mems)), (75, .d (iD s.mems.length)), (76, .d (iD i))]) (H' := .free :: [.cells (avs (za6 s)), .cells [.d (iD e0), .d (iD e1)], zbs, mO μs, mO μw, .cells [.d (oD false), .os 1 7 0 s.regs.length, .os 1 8 0 i, .d (.val (.slice none 0 0)), .d (.val (.slice none 0 0))], .cells (avs ((zfw n.out v s.regs.length).map iD)), .cells (avs ((zfx n.out v s.mems i).map intsD))]) ?_ ?_
    ·refine Rt.trans (Rt.fr1) ?_
     refine Rt.trans (Rt.gc (keep := [8,0,1,2,3,4,5,6,7]) (by decide) (by decide) (by simp [fzH, gcH])) ?_
     refine Rt.end (by repeat (first | exact zat _ | refine zap ?_ (by first | rfl | (simp [r_f, zab, zaa, zac, zak, zal, zam, zan, zdn]; done) | simp [r_f, zab, zaa, zac, zak, zal, zam, zan, zdn, *]))) ?_
     first | rfl | (simp only [r_g, Nat.reduceAdd, ↓reduceIte, Nat.reduceEqDiff, r_m, za1, za3, zad, zae, za6, zai, zao, zaj, zaf, za2, iD, oD, zbs]; first | done | rfl)
    refine zah hp zar hc rfl fun K30 hK30 => ?_
    simp -dsimp -implicitDefEqProofs (disch := first | assumption | omega | (simp only [r_z, zab, zaa, zac, zak, zal, zam, zan] <;> omega) | decide) only [r_r, ↓reduceIte, Nat.reduceEqDiff, Nat.reduceAdd, D.fix, Int.reduceToNat, Nat.reduceMul, Nat.reduceBNe, Nat.reduceBEq, r_m, za1, za3, zad, zae, za6, zai, zao, zaj, zaf, za2, iD, oD, zbs, zbn]
    refine je5 (S := [.free]) (T := [.cells (avs (za6 s)), .cells [.d (iD e0), .d (iD e1)], zbs, mO μs, mO μw, .cells [.d (oD false), .os 1 7 0 s.regs.length, .os 1 8 0 i, .d (.val (.slice none 0 0)), .d (.val (.slice none 0 0))], .cells (avs ((zfw n.out v s.regs.length).map iD)), .cells (avs ((zfx n.out v s.mems i).map intsD))]) (jan (nth s.mems i) hml) rfl (by first | rfl | (simp [AV.allIs, AV.allI, zls, zhj, zhk, okI, ltI, zd2, zta, zbs]; done) | (intro o ho; simp at ho; done)) (fun t => jaa (by first | rfl | (simp [AV.allIs, AV.allI, zls, zhj, zhk, okI, ltI, zd2, zta, zbs]; done) | (intro o ho; simp at ho; done)) t) (by first | rfl | (simp [AV.allIs, AV.allI, zls, zhj, zhk, okI, ltI, zd2, zta, zbs]; done) | (intro o ho; simp at ho; done)) (by first | rfl | (simp [AV.allIs, AV.allI, zls, zhj, zhk, okI, ltI, zd2, zta, zbs]; done) | (intro o ho; simp at ho; done)) (by first | rfl | (simp [AV.allIs, AV.allI, zls, zhj, zhk, okI, ltI, zd2, zta, zbs]; done) | (intro o ho; simp at ho; done)) ?_
    rintro _ _ ⟨_, rfl, rfl, rfl⟩
    refine ⟨rfl, ?_⟩
    simp -dsimp -implicitDefEqProofs (disch := first | assumption | omega | (simp only [r_z, zab, zaa, zac, zak, zal, zam, zan] <;> omega) | decide) only [r_r, ↓reduceIte, Nat.reduceEqDiff, Nat.reduceAdd, D.fix, Int.reduceToNat, Nat.reduceMul, Nat.reduceBNe, Nat.reduceBEq, r_m, za1, za3, zad, zae, za6, zai, zao, zaj, zaf, za2, iD, oD, zbs, zbn]
    refine hK30 _ _ ?_
    refine zav fun K31 hK31 => ?_
    have hJ31 : ∀ τ' H', (∃ τ1 H1, ∃ (ml : List Int), (ml = zmy n.out v i (nth s.mems i)) ∧ H1 = [.cells (avs (za6 s)), .cells [.d (iD e0), .d (iD e1)], zbs, mO μs, mO μw, .cells [.d (oD false), .os 1 6 0 s.regs.length, .os 1 7 0 i, .d (.val (.slice none 0 0)), .d (.val (.slice none 0 0))], .cells (avs ((zfw n.out v s.regs.length).map iD)), .cells (avs ((zfx n.out v s.mems i).map intsD))] ∧ τ1 = frL [(5, .op 0 0), (7, .op 1 0), (8, .op 2 0), (9, .om 3), (10, .om 4), (13, .op 5 0), (16, .d (intsD ml)), (74, .d (intssD s.mems)), (75, .d (iD s.mems.length)), (76, .d (iD i))] ∧ Rt [] τ' H' τ1 H1) → K31 τ' H' := by
     rintro τ' H' ⟨_, _, ml, hml2, rfl, rfl, hrt⟩
     refine hK31 _ _ (zef hp hrt ?_)
     clear hrt
     refine zba hp zar hc rfl fun K32 hK32 => ?_
     simp -dsimp -implicitDefEqProofs (disch := first | assumption | omega | (simp only [r_z, zab, zaa, zac, zak, zal, zam, zan] <;> omega) | decide) only [r_r, ↓reduceIte, Nat.reduceEqDiff, Nat.reduceAdd, D.fix, Int.reduceToNat, Nat.reduceMul, Nat.reduceBNe, Nat.reduceBEq, r_m, za1, za3, zad, zae, za6, zai, zao, zaj, zaf, za2, iD, oD, zbs, zbn]
     refine hK32 _ _ (hK28 _ _ ?_)
     refine zba hp zar hc rfl fun K33 hK33 => ?_
     simp -dsimp -implicitDefEqProofs (disch := first | assumption | omega | (simp only [r_z, zab, zaa, zac, zak, zal, zam, zan] <;> omega) | decide) only [r_r, ↓reduceIte, Nat.reduceEqDiff, Nat.reduceAdd, D.fix, Int.reduceToNat, Nat.reduceMul, Nat.reduceBNe, Nat.reduceBEq, r_m, za1, za3, zad, zae, za6, zai, zao, zaj, zaf, za2, iD, oD, zbs, zbn]
     refine hK33 _ _ ⟨_, _, _, ?_, ⟨i + 1, by omega, rfl, rfl, rfl⟩, ?_⟩
     ·first | omega | (simp only [List.length_cons]; omega) | (dsimp only; omega)
     ·refine Rt.trans (Rt.gc (keep := [0,1,2,3,4,5,6,9]) (by decide) (by decide) (by simp [fzH, gcH])) ?_
      refine Rt.end (by repeat (first | exact zat _ | refine zap ?_ (by first | rfl | (simp [r_f, zab, zaa, zac, zak, zal, zam, zan, zdn]; done) | simp [r_f, zab, zaa, zac, zak, zal, zam, zan, zdn, *]))) ?_
      simp only [r_g, Nat.reduceAdd, ↓reduceIte, Nat.reduceEqDiff, r_m, za1, za3, zad, zae, za6, zai, zao, zaj, zaf, za2, iD, oD, zbs]; rw [zqk, ← hml2]; simp [intsD, iD]
    have hk9 : zjh Try.prog tEi (eV 9 i) := zin (zim (by omega) (by omega)) I3
    have hg9 := hE.gw 9 i (zim (by omega) (by omega)) I3
    have hk8 : zjh Try.prog tEb (eV 8 i) := zl5 (zim (by omega) (by omega)) I3
    have hg8 := hE.gs 8 i (zim (by omega) (by omega)) I3
    have hk10 : zjh Try.prog tEi (eV 10 i) := zin (zim (by omega) (by omega)) I3
    have hg10 := hE.gw 10 i (zim (by omega) (by omega)) I3
    obtain ⟨at9, ha9, hb9⟩ := zzo (out := n.out) (v := v) (kind := 9) (i := i) (fun k hk => ⟨(hw _ (zdc hk)).b0, (hw _ (zdc hk)).b7⟩) (Nat.le_refl _)
    have hd9 := zfb (out := n.out) (v := v) (kind := 9) (i := i) (k := n.out.length)
    rw [ha9] at hd9 hg9
    refine zah hp zar hc rfl fun K34 hK34 => ?_
    simp -dsimp -implicitDefEqProofs (disch := first | assumption | omega | (simp only [r_z, zab, zaa, zac, zak, zal, zam, zan] <;> omega) | decide) only [r_r, ↓reduceIte, Nat.reduceEqDiff, Nat.reduceAdd, D.fix, Int.reduceToNat, Nat.reduceMul, Nat.reduceBNe, Nat.reduceBEq, r_m, za1, za3, zad, zae, za6, zai, zao, zaj, zaf, za2, iD, oD, zbs, zcs, zd1, zga zwk hk9 hE.w.ok, hg9, hd9, ha9, zbn]
    refine hK34 _ _ ?_
    refine zah hp zar hc rfl fun K35 hK35 => ?_
    rcases tf (zhn n.out v 8 i n.out.length) with e8 | e8
    ·simp -dsimp -implicitDefEqProofs (disch := first | assumption | omega | (simp only [r_z, zab, zaa, zac, zak, zal, zam, zan] <;> omega) | decide) only [r_r, ↓reduceIte, Nat.reduceEqDiff, Nat.reduceAdd, D.fix, Int.reduceToNat, Nat.reduceMul, Nat.reduceBNe, Nat.reduceBEq, r_m, za1, za3, zad, zae, za6, zai, zao, zaj, zaf, za2, iD, oD, zbs, zcs, zd1, zga jax hk8 hE.s.ok, hg8, e8, Option.getD_some, Option.getD_none, zbn]
     refine hK35 _ _ ?_
     refine zay rfl (fun ht => ?_) (fun ht => ?_)
     ·have hlt9 : at9 < (nth s.mems i).length := by simpa using ht
      have hmf : zmy n.out v i (nth s.mems i) = (nth s.mems i).set at9 (zc3 n.out v 10 i n.out.length) := by unfold zmy; rw [ha9, e8, if_pos (by simp; omega)]; simp
      refine zba hp zar hc rfl fun K36 hK36 => ?_
      simp -dsimp -implicitDefEqProofs (disch := first | assumption | omega | (simp only [r_z, zab, zaa, zac, zak, zal, zam, zan] <;> omega) | decide) only [r_r, ↓reduceIte, Nat.reduceEqDiff, Nat.reduceAdd, D.fix, Int.reduceToNat, Nat.reduceMul, Nat.reduceBNe, Nat.reduceBEq, r_m, za1, za3, zad, zae, za6, zai, zao, zaj, zaf, za2, iD, oD, zbs, zcs, zd1, zga zwk hk10 hE.w.ok, hg10, zfb, zbn]
      refine hK36 _ _ (hJ31 _ _ ⟨_, _, _, hmf.symm, rfl, rfl, ?_⟩)
      refine Rt.trans (Rt.fz (id := 0) rfl) ?_
      refine Rt.trans (Rt.slot 16 (zsy (zcf (by simp [r_z, zab, zaa, zac, zak, zal, zam, zan])))) ?_
      refine Rt.trans (Rt.gc (keep := [1,2,3,4,5,6,7,8]) (by decide) (by decide) (by simp [fzH, gcH])) ?_
      refine Rt.end (by repeat (first | exact zat _ | refine zap ?_ (by first | rfl | (simp [r_f, zab, zaa, zac, zak, zal, zam, zan, zdn]; done) | simp [r_f, zab, zaa, zac, zak, zal, zam, zan, zdn, *]))) ?_
      first | rfl | (simp only [r_g, Nat.reduceAdd, ↓reduceIte, Nat.reduceEqDiff, r_m, za1, za3, zad, zae, za6, zai, zao, zaj, zaf, za2, iD, oD, zbs]; first | done | rfl)
     ·have hmf : zmy n.out v i (nth s.mems i) = nth s.mems i := by unfold zmy; rw [ha9, e8, if_neg (by simpa using ht)]
      refine za4 (hJ31 _ _ ⟨_, _, _, hmf.symm, rfl, rfl, ?_⟩)
      refine Rt.trans (Rt.fz (id := 0) rfl) ?_
      refine Rt.trans (Rt.slot 16 (zsy (zcf (by simp [r_z, zab, zaa, zac, zak, zal, zam, zan])))) ?_
      refine Rt.trans (Rt.gc (keep := [1,2,3,4,5,6,7,8]) (by decide) (by decide) (by simp [fzH, gcH])) ?_
      refine Rt.end (by repeat (first | exact zat _ | refine zap ?_ (by first | rfl | (simp [r_f, zab, zaa, zac, zak, zal, zam, zan, zdn]; done) | simp [r_f, zab, zaa, zac, zak, zal, zam, zan, zdn, *]))) ?_
      first | rfl | (simp only [r_g, Nat.reduceAdd, ↓reduceIte, Nat.reduceEqDiff, r_m, za1, za3, zad, zae, za6, zai, zao, zaj, zaf, za2, iD, oD, zbs]; first | done | rfl)
    ·simp -dsimp -implicitDefEqProofs (disch := first | assumption | omega | (simp only [r_z, zab, zaa, zac, zak, zal, zam, zan] <;> omega) | decide) only [r_r, ↓reduceIte, Nat.reduceEqDiff, Nat.reduceAdd, D.fix, Int.reduceToNat, Nat.reduceMul, Nat.reduceBNe, Nat.reduceBEq, r_m, za1, za3, zad, zae, za6, zai, zao, zaj, zaf, za2, iD, oD, zbs, zcs, zd1, zga jax hk8 hE.s.ok, hg8, e8, Option.getD_some, Option.getD_none, zbn]
     refine hK35 _ _ ?_
     refine zay rfl (fun ht => ?_) (fun ht => ?_)
     ·cases ht
     ·have hmf : zmy n.out v i (nth s.mems i) = nth s.mems i := by unfold zmy; rw [e8, if_neg (by simp)]
      refine za4 (hJ31 _ _ ⟨_, _, _, hmf.symm, rfl, rfl, ?_⟩)
      refine Rt.trans (Rt.fz (id := 0) rfl) ?_
      refine Rt.trans (Rt.slot 16 (zsy (zcf (by simp [r_z, zab, zaa, zac, zak, zal, zam, zan])))) ?_
      refine Rt.trans (Rt.gc (keep := [1,2,3,4,5,6,7,8]) (by decide) (by decide) (by simp [fzH, gcH])) ?_
      refine Rt.end (by repeat (first | exact zat _ | refine zap ?_ (by first | rfl | (simp [r_f, zab, zaa, zac, zak, zal, zam, zan, zdn]; done) | simp [r_f, zab, zaa, zac, zak, zal, zam, zan, zdn, *]))) ?_
      first | rfl | (simp only [r_g, Nat.reduceAdd, ↓reduceIte, Nat.reduceEqDiff, r_m, za1, za3, zad, zae, za6, zai, zao, zaj, zaf, za2, iD, oD, zbs]; first | done | rfl)
   ·have hii : i = s.mems.length := by simp at ht; omega
    subst hii
    have hE1 : ((max e0 0 : Int)) = (e0.toNat : Int) := by omega
    refine zbi (hK24 _ _ ?_)
    refine zav fun K37 hK37 => ?_
    refine zah hp zar hc rfl fun K38 hK38 => ?_
    simp -dsimp -implicitDefEqProofs (disch := first | assumption | omega | (simp only [r_z, zab, zaa, zac, zak, zal, zam, zan] <;> omega) | decide) only [r_r, ↓reduceIte, Nat.reduceEqDiff, Nat.reduceAdd, D.fix, Int.reduceToNat, Nat.reduceMul, Nat.reduceBNe, Nat.reduceBEq, r_m, za1, za3, zad, zae, za6, zai, zao, zaj, zaf, za2, iD, oD, zbs, hE1, zbn]
    refine hK38 _ _ ?_
    refine za5 ?_
    refine zbc hp (fun τ' H' mm => ∃ (i : Nat), (i ≤ e0.toNat) ∧ mm = e0.toNat - i ∧ H' = [.cells (avs (za6 s)), .cells [.d (iD e0), .d (iD e1)], zbs, mO μs, mO μw, .cells [.d (oD false), .os 1 6 0 s.regs.length, .os 1 7 0 s.mems.length, .os 1 8 0 i, .d (.val (.slice none 0 0))], .cells (avs ((zfw n.out v s.regs.length).map iD)), .cells (avs ((zfx n.out v s.mems s.mems.length).map intsD)), .cells (avs ((zl7 n.out v i).map oD))] ∧ τ' = frL [(5, .op 0 0), (7, .op 1 0), (8, .op 2 0), (9, .om 3), (10, .om 4), (13, .op 5 0), (115, .d (iD e0.toNat)), (116, .d (iD i))]) (e0.toNat) ?_ ⟨0, Nat.zero_le _, rfl, rfl, rfl⟩ ?_
    ·refine Rt.trans (Rt.nilc 5 3 1 rfl rfl) ?_
     refine Rt.trans (Rt.gc (keep := [0,1,2,3,4,5,6,7,8]) (by decide) (by decide) (by simp [fzH, gcH])) ?_
     refine Rt.end (by repeat (first | exact zat _ | refine zap ?_ (by first | rfl | (simp [r_f, zab, zaa, zac, zak, zal, zam, zan, zdn]; done) | simp [r_f, zab, zaa, zac, zak, zal, zam, zan, zdn, *]))) ?_
     first | rfl | (simp only [r_g, Nat.reduceAdd, ↓reduceIte, Nat.reduceEqDiff, r_m, za1, za3, zad, zae, za6, zai, zao, zaj, zaf, za2, iD, oD, zbs]; first | done | rfl)
    rintro τ' H' mm ⟨i, hi, rfl, rfl, rfl⟩
    refine zah hp zar hc rfl fun K39 hK39 => ?_
    simp -dsimp -implicitDefEqProofs (disch := first | assumption | omega | (simp only [r_z, zab, zaa, zac, zak, zal, zam, zan] <;> omega) | decide) only [r_r, ↓reduceIte, Nat.reduceEqDiff, Nat.reduceAdd, D.fix, Int.reduceToNat, Nat.reduceMul, Nat.reduceBNe, Nat.reduceBEq, r_m, za1, za3, zad, zae, za6, zai, zao, zaj, zaf, za2, iD, oD, zbs, zbn]
    refine hK39 _ _ ?_
    refine zav fun K40 hK40 => ?_
    refine zay rfl (fun ht => ?_) (fun ht => ?_)
    ·have hlt : i < e0.toNat := by simp at ht; omega
     have I3 : I64 (i : Int) := zim (by omega) (by omega)
     have hk5 : zjh Try.prog tEb (eV 5 i) := zl5 (zim (by omega) (by omega)) I3
     have hg5 := hE.gs 5 i (zim (by omega) (by omega)) I3
     refine za4 (hK40 _ _ ?_)
     refine zav fun K41 hK41 => ?_
     refine za5 ?_
     refine zah hp zar hc rfl fun K42 hK42 => ?_
     simp -dsimp -implicitDefEqProofs (disch := first | assumption | omega | (simp only [r_z, zab, zaa, zac, zak, zal, zam, zan] <;> omega) | decide) only [r_r, ↓reduceIte, Nat.reduceEqDiff, Nat.reduceAdd, D.fix, Int.reduceToNat, Nat.reduceMul, Nat.reduceBNe, Nat.reduceBEq, r_m, za1, za3, zad, zae, za6, zai, zao, zaj, zaf, za2, iD, oD, zbs]
     refine hK42 _ _ ?_
     refine zla zar hc zcb rfl (q := 2) (by kernel_rfl) (by kernel_rfl) fun K43 hK43 => ?_
     simp -dsimp -implicitDefEqProofs (disch := first | assumption | omega | (simp only [r_z, zab, zaa, zac, zak, zal, zam, zan] <;> omega) | decide) only [r_r, ↓reduceIte, Nat.reduceEqDiff, Nat.reduceAdd, D.fix, Int.reduceToNat, Nat.reduceMul, Nat.reduceBNe, Nat.reduceBEq, r_m, za1, za3, zad, zae, za6, zai, zao, zaj, zaf, za2, iD, oD, zbs, zcs, zd1, zga jax hk5 hE.s.ok, hg5, zwj, zbn]
     refine hK43 _ _ (hK41 _ _ ?_)
     refine zba hp zar hc rfl fun K44 hK44 => ?_
     simp -dsimp -implicitDefEqProofs (disch := first | assumption | omega | (simp only [r_z, zab, zaa, zac, zak, zal, zam, zan] <;> omega) | decide) only [r_r, ↓reduceIte, Nat.reduceEqDiff, Nat.reduceAdd, D.fix, Int.reduceToNat, Nat.reduceMul, Nat.reduceBNe, Nat.reduceBEq, r_m, za1, za3, zad, zae, za6, zai, zao, zaj, zaf, za2, iD, oD, zbs, zbn]
     refine hK44 _ _ ⟨_, _, _, ?_, ⟨i + 1, by omega, rfl, rfl, rfl⟩, ?_⟩
     ·first | omega | (simp only [List.length_cons]; omega) | (dsimp only; omega)
     ·refine Rt.trans (Rt.gc (keep := [0,1,2,3,4,5,6,7,10]) (by decide) (by decide) (by simp [fzH, gcH])) ?_
      refine Rt.end (by repeat (first | exact zat _ | refine zap ?_ (by first | rfl | (simp [r_f, zab, zaa, zac, zak, zal, zam, zan, zdn]; done) | simp [r_f, zab, zaa, zac, zak, zal, zam, zan, zdn, *]))) ?_
      simp only [r_g, Nat.reduceAdd, ↓reduceIte, Nat.reduceEqDiff, r_m, za1, za3, zad, zae, za6, zai, zao, zaj, zaf, za2, iD, oD, zbs]; rw [zql]; simp [oD]
    ·have hii : i = e0.toNat := by simp at ht; omega
     subst hii
     have hE2 : ((max e1 0 : Int)) = (e1.toNat : Int) := by omega
     refine zbi (hK37 _ _ ?_)
     refine zav fun K45 hK45 => ?_
     refine zah hp zar hc rfl fun K46 hK46 => ?_
     simp -dsimp -implicitDefEqProofs (disch := first | assumption | omega | (simp only [r_z, zab, zaa, zac, zak, zal, zam, zan] <;> omega) | decide) only [r_r, ↓reduceIte, Nat.reduceEqDiff, Nat.reduceAdd, D.fix, Int.reduceToNat, Nat.reduceMul, Nat.reduceBNe, Nat.reduceBEq, r_m, za1, za3, zad, zae, za6, zai, zao, zaj, zaf, za2, iD, oD, zbs, hE2, zbn]
     refine hK46 _ _ ?_
     refine za5 ?_
     refine zbc hp (fun τ' H' mm => ∃ (i : Nat), (i ≤ e1.toNat) ∧ mm = e1.toNat - i ∧ H' = [.cells (avs (za6 s)), .cells [.d (iD e0), .d (iD e1)], zbs, mO μs, mO μw, .cells [.d (oD false), .os 1 6 0 s.regs.length, .os 1 7 0 s.mems.length, .os 1 8 0 e0.toNat, .os 2 9 0 i], .cells (avs ((zfw n.out v s.regs.length).map iD)), .cells (avs ((zfx n.out v s.mems s.mems.length).map intsD)), .cells (avs ((zl7 n.out v e0.toNat).map oD)), .cells (avs ((zkk n.out v i).flatMap za2))] ∧ τ' = frL [(5, .op 0 0), (7, .op 1 0), (8, .op 2 0), (9, .om 3), (10, .om 4), (13, .op 5 0), (131, .d (iD e1.toNat)), (132, .d (iD i))]) (e1.toNat) ?_ ⟨0, Nat.zero_le _, rfl, rfl, rfl⟩ ?_
     ·refine Rt.trans (Rt.nilc 5 4 2 rfl rfl) ?_
      refine Rt.trans (Rt.gc (keep := [0,1,2,3,4,5,6,7,8,9]) (by decide) (by decide) (by simp [fzH, gcH])) ?_
      refine Rt.end (by repeat (first | exact zat _ | refine zap ?_ (by first | rfl | (simp [r_f, zab, zaa, zac, zak, zal, zam, zan, zdn]; done) | simp [r_f, zab, zaa, zac, zak, zal, zam, zan, zdn, *]))) ?_
      first | rfl | (simp only [r_g, Nat.reduceAdd, ↓reduceIte, Nat.reduceEqDiff, r_m, za1, za3, zad, zae, za6, zai, zao, zaj, zaf, za2, iD, oD, zbs]; first | done | rfl)
     rintro τ' H' mm ⟨i, hi, rfl, rfl, rfl⟩
     refine zah hp zar hc rfl fun K47 hK47 => ?_
     simp -dsimp -implicitDefEqProofs (disch := first | assumption | omega | (simp only [r_z, zab, zaa, zac, zak, zal, zam, zan] <;> omega) | decide) only [r_r, ↓reduceIte, Nat.reduceEqDiff, Nat.reduceAdd, D.fix, Int.reduceToNat, Nat.reduceMul, Nat.reduceBNe, Nat.reduceBEq, r_m, za1, za3, zad, zae, za6, zai, zao, zaj, zaf, za2, iD, oD, zbs, zbn]
     refine hK47 _ _ ?_
     refine zav fun K48 hK48 => ?_
     refine zay rfl (fun ht => ?_) (fun ht => ?_)
     ·have hlt : i < e1.toNat := by simp at ht; omega
      have I3 : I64 (i : Int) := zim (by omega) (by omega)
      have hk6 : zjh Try.prog tEb (eV 6 i) := zl5 (zim (by omega) (by omega)) I3
      have hg6 := hE.gs 6 i (zim (by omega) (by omega)) I3
      have hk7 : zjh Try.prog tEi (eV 7 i) := zin (zim (by omega) (by omega)) I3
      have hg7 := hE.gw 7 i (zim (by omega) (by omega)) I3
      refine za4 (hK48 _ _ ?_)
      refine zav fun K49 hK49 => ?_
      refine za5 ?_
      refine zah hp zar hc rfl fun K50 hK50 => ?_
      simp -dsimp -implicitDefEqProofs (disch := first | assumption | omega | (simp only [r_z, zab, zaa, zac, zak, zal, zam, zan] <;> omega) | decide) only [r_r, ↓reduceIte, Nat.reduceEqDiff, Nat.reduceAdd, D.fix, Int.reduceToNat, Nat.reduceMul, Nat.reduceBNe, Nat.reduceBEq, r_m, za1, za3, zad, zae, za6, zai, zao, zaj, zaf, za2, iD, oD, zbs]
      refine hK50 _ _ ?_
      refine zah hp zar hc rfl fun K51 hK51 => ?_
      simp -dsimp -implicitDefEqProofs (disch := first | assumption | omega | (simp only [r_z, zab, zaa, zac, zak, zal, zam, zan] <;> omega) | decide) only [r_r, ↓reduceIte, Nat.reduceEqDiff, Nat.reduceAdd, D.fix, Int.reduceToNat, Nat.reduceMul, Nat.reduceBNe, Nat.reduceBEq, r_m, za1, za3, zad, zae, za6, zai, zao, zaj, zaf, za2, iD, oD, zbs, zbn]
      refine hK51 _ _ ?_
      refine zav fun K52 hK52 => ?_
      refine zah hp zar hc rfl fun K53 hK53 => ?_
      rcases tf (zhn n.out v 6 i n.out.length) with e6 | e6
      ·have hpf : zzp n.out v i = ⟨true, zc3 n.out v 7 i n.out.length⟩ := by unfold zzp; rw [if_pos e6]
       simp -dsimp -implicitDefEqProofs (disch := first | assumption | omega | (simp only [r_z, zab, zaa, zac, zak, zal, zam, zan] <;> omega) | decide) only [r_r, ↓reduceIte, Nat.reduceEqDiff, Nat.reduceAdd, D.fix, Int.reduceToNat, Nat.reduceMul, Nat.reduceBNe, Nat.reduceBEq, r_m, za1, za3, zad, zae, za6, zai, zao, zaj, zaf, za2, iD, oD, zbs, zcs, zd1, zga jax hk6 hE.s.ok, hg6, e6, Option.getD_some, Option.getD_none, zbn]
       refine hK53 _ _ ?_
       refine zay rfl (fun ht => ?_) (fun ht => ?_)
       ·refine zba hp zar hc rfl fun K54 hK54 => ?_
        simp -dsimp -implicitDefEqProofs (disch := first | assumption | omega | (simp only [r_z, zab, zaa, zac, zak, zal, zam, zan] <;> omega) | decide) only [r_r, ↓reduceIte, Nat.reduceEqDiff, Nat.reduceAdd, D.fix, Int.reduceToNat, Nat.reduceMul, Nat.reduceBNe, Nat.reduceBEq, r_m, za1, za3, zad, zae, za6, zai, zao, zaj, zaf, za2, iD, oD, zbs, zcs, zd1, zga zwk hk7 hE.w.ok, hg7, zfb, zbn]
        refine hK54 _ _ (hK52 _ _ ?_)
        refine zba hp zar hc rfl fun K55 hK55 => ?_
        simp -dsimp -implicitDefEqProofs (disch := first | assumption | omega | (simp only [r_z, zab, zaa, zac, zak, zal, zam, zan] <;> omega) | decide) only [r_r, ↓reduceIte, Nat.reduceEqDiff, Nat.reduceAdd, D.fix, Int.reduceToNat, Nat.reduceMul, Nat.reduceBNe, Nat.reduceBEq, r_m, za1, za3, zad, zae, za6, zai, zao, zaj, zaf, za2, iD, oD, zbs, zbn]
        refine hK55 _ _ (hK49 _ _ ?_)
        refine zba hp zar hc rfl fun K56 hK56 => ?_
        simp -dsimp -implicitDefEqProofs (disch := first | assumption | omega | (simp only [r_z, zab, zaa, zac, zak, zal, zam, zan] <;> omega) | decide) only [r_r, ↓reduceIte, Nat.reduceEqDiff, Nat.reduceAdd, D.fix, Int.reduceToNat, Nat.reduceMul, Nat.reduceBNe, Nat.reduceBEq, r_m, za1, za3, zad, zae, za6, zai, zao, zaj, zaf, za2, iD, oD, zbs, zbn]
        refine hK56 _ _ ⟨_, _, _, ?_, ⟨i + 1, by omega, rfl, rfl, rfl⟩, ?_⟩
        ·first | omega | (simp only [List.length_cons]; omega) | (dsimp only; omega)
        ·refine Rt.trans (Rt.gc (keep := [0,1,2,3,4,5,6,7,8,12]) (by decide) (by decide) (by simp [fzH, gcH])) ?_
         refine Rt.end (by repeat (first | exact zat _ | refine zap ?_ (by first | rfl | (simp [r_f, zab, zaa, zac, zak, zal, zam, zan, zdn]; done) | simp [r_f, zab, zaa, zac, zak, zal, zam, zan, zdn, *]))) ?_
         simp only [r_g, Nat.reduceAdd, ↓reduceIte, Nat.reduceEqDiff, r_m, za1, za3, zad, zae, za6, zai, zao, zaj, zaf, za2, iD, oD, zbs]; rw [zir, hpf]; simp [za2, oD, iD]
       ·cases ht
      ·have hpf : zzp n.out v i = ⟨false, 0⟩ := by unfold zzp; rw [if_neg (by rw [e6]; simp)]
       simp -dsimp -implicitDefEqProofs (disch := first | assumption | omega | (simp only [r_z, zab, zaa, zac, zak, zal, zam, zan] <;> omega) | decide) only [r_r, ↓reduceIte, Nat.reduceEqDiff, Nat.reduceAdd, D.fix, Int.reduceToNat, Nat.reduceMul, Nat.reduceBNe, Nat.reduceBEq, r_m, za1, za3, zad, zae, za6, zai, zao, zaj, zaf, za2, iD, oD, zbs, zcs, zd1, zga jax hk6 hE.s.ok, hg6, e6, Option.getD_some, Option.getD_none, zbn]
       refine hK53 _ _ ?_
       refine zay rfl (fun ht => ?_) (fun ht => ?_)
       ·cases ht
       ·refine za4 (hK52 _ _ ?_)
        refine zba hp zar hc rfl fun K57 hK57 => ?_
        simp -dsimp -implicitDefEqProofs (disch := first | assumption | omega | (simp only [r_z, zab, zaa, zac, zak, zal, zam, zan] <;> omega) | decide) only [r_r, ↓reduceIte, Nat.reduceEqDiff, Nat.reduceAdd, D.fix, Int.reduceToNat, Nat.reduceMul, Nat.reduceBNe, Nat.reduceBEq, r_m, za1, za3, zad, zae, za6, zai, zao, zaj, zaf, za2, iD, oD, zbs, zbn]
        refine hK57 _ _ (hK49 _ _ ?_)
        refine zba hp zar hc rfl fun K58 hK58 => ?_
        simp -dsimp -implicitDefEqProofs (disch := first | assumption | omega | (simp only [r_z, zab, zaa, zac, zak, zal, zam, zan] <;> omega) | decide) only [r_r, ↓reduceIte, Nat.reduceEqDiff, Nat.reduceAdd, D.fix, Int.reduceToNat, Nat.reduceMul, Nat.reduceBNe, Nat.reduceBEq, r_m, za1, za3, zad, zae, za6, zai, zao, zaj, zaf, za2, iD, oD, zbs, zbn]
        refine hK58 _ _ ⟨_, _, _, ?_, ⟨i + 1, by omega, rfl, rfl, rfl⟩, ?_⟩
        ·first | omega | (simp only [List.length_cons]; omega) | (dsimp only; omega)
        ·refine Rt.trans (Rt.gc (keep := [0,1,2,3,4,5,6,7,8,12]) (by decide) (by decide) (by simp [fzH, gcH])) ?_
         refine Rt.end (by repeat (first | exact zat _ | refine zap ?_ (by first | rfl | (simp [r_f, zab, zaa, zac, zak, zal, zam, zan, zdn]; done) | simp [r_f, zab, zaa, zac, zak, zal, zam, zan, zdn, *]))) ?_
         simp only [r_g, Nat.reduceAdd, ↓reduceIte, Nat.reduceEqDiff, r_m, za1, za3, zad, zae, za6, zai, zao, zaj, zaf, za2, iD, oD, zbs]; rw [zir, hpf]; simp [za2, oD, iD]
     ·have hii : i = e1.toNat := by simp at ht; omega
      subst hii
      refine zbi (hK45 _ _ ?_)
      refine zah hp zar hc rfl fun K59 hK59 => ?_
      simp -dsimp -implicitDefEqProofs (disch := first | assumption | omega | (simp only [r_z, zab, zaa, zac, zak, zal, zam, zan] <;> omega) | decide) only [r_r, ↓reduceIte, Nat.reduceEqDiff, Nat.reduceAdd, D.fix, Int.reduceToNat, Nat.reduceMul, Nat.reduceBNe, Nat.reduceBEq, r_m, za1, za3, zad, zae, za6, zai, zao, zaj, zaf, za2, iD, oD, zbs, zbn]
      refine hK59 _ _ ?_
      refine zbr ?_
      try dsimp only [ziy, zcw]
      refine zdh rfl ?_
      simp -dsimp -implicitDefEqProofs (disch := first | assumption | omega | (simp only [r_z, zab, zaa, zac, zak, zal, zam, zan] <;> omega) | decide) only [r_r, ↓reduceIte, Nat.reduceEqDiff, Nat.reduceAdd, D.fix, Int.reduceToNat, Nat.reduceMul, Nat.reduceBNe, Nat.reduceBEq, r_m, za1, za3, zad, zae, za6, zai, zao, zaj, zaf, za2, iD, oD, zbs, zjy, zjz]
      show closeA _ _ = _
      simp (disch := first | assumption | omega | (simp only [r_z, zab, zaa, zac, zak, zal, zam, zan] <;> omega) | decide) only [r_c, Nat.reduceAdd, D.fix, ↓reduceIte, Nat.reduceEqDiff, r_m, za1, za3, zad, zae, za6, zai, zao, zaj, zaf, za2, iD, oD, zbs, zwd, zmu, zbt, efF]
      simp [zbt, efF, intsD, intssD, boolsD, zai, zak, zal, zam, zan, oD]
end Go.Proofs.Ytapjobndmmkanaa
