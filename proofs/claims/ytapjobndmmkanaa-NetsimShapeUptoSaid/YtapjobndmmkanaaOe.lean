/- netsim: input values, effects, steps. -/
import Derived.Test.YtapjobndmmkanaaQr
import Derived.Test.YtapjobndmmkanaaOk
import Derived.Test.YtapjobndmmkanaaOn
import Derived.Test.YtapjobndmmkanaaEa
set_option linter.unusedVariables false
set_option linter.unusedSimpArgs false
set_option maxRecDepth 100000
set_option maxHeartbeats 4000000
namespace Go.Proofs.Ytapjobndmmkanaa
open Go Go.RowKit
theorem zb4 : ((((((type_of% @ze9) ∧ (type_of% @zfa)) ∧ ((type_of% @zlt) ∧ ((type_of% @zlu) ∧ (type_of% @zjs)))) ∧ (((type_of% @zjt) ∧ ((type_of% @zlz) ∧ (type_of% @zl0))) ∧ ((type_of% @zl1) ∧ ((type_of% @zl2) ∧ (type_of% @zhv))))) ∧ ((((type_of% @zhw) ∧ (type_of% @zhx)) ∧ ((type_of% @zhy) ∧ ((type_of% @zo8) ∧ (type_of% @zo9)))) ∧ (((type_of% @zpa) ∧ ((type_of% @zl3) ∧ (type_of% @zl4))) ∧ ((type_of% @zqg) ∧ ((type_of% @zqf) ∧ (type_of% @zd5)))))) ∧ (((((type_of% @zd6) ∧ (type_of% @zfs)) ∧ ((type_of% @zft) ∧ ((type_of% @zd3) ∧ (type_of% @zd4)))) ∧ (((type_of% @ze5) ∧ ((type_of% @ze6) ∧ (type_of% @ze7))) ∧ ((type_of% @ze8) ∧ ((type_of% @zfu) ∧ (type_of% @zfv))))) ∧ ((((type_of% @zuw) ∧ ((type_of% @zux) ∧ (type_of% @zlv))) ∧ ((type_of% @zlw) ∧ ((type_of% @zlx) ∧ (type_of% @zly)))) ∧ (((type_of% @zj6) ∧ ((type_of% @zj7) ∧ (type_of% @zqh))) ∧ ((type_of% @zqi) ∧ ((type_of% @zj8) ∧ (type_of% @zj9))))))) := ⟨⟨⟨⟨⟨@ze9, @zfa⟩, ⟨@zlt, ⟨@zlu, @zjs⟩⟩⟩, ⟨⟨@zjt, ⟨@zlz, @zl0⟩⟩, ⟨@zl1, ⟨@zl2, @zhv⟩⟩⟩⟩, ⟨⟨⟨@zhw, @zhx⟩, ⟨@zhy, ⟨@zo8, @zo9⟩⟩⟩, ⟨⟨@zpa, ⟨@zl3, @zl4⟩⟩, ⟨@zqg, ⟨@zqf, @zd5⟩⟩⟩⟩⟩, ⟨⟨⟨⟨@zd6, @zfs⟩, ⟨@zft, ⟨@zd3, @zd4⟩⟩⟩, ⟨⟨@ze5, ⟨@ze6, @ze7⟩⟩, ⟨@ze8, ⟨@zfu, @zfv⟩⟩⟩⟩, ⟨⟨⟨@zuw, ⟨@zux, @zlv⟩⟩, ⟨@zlw, ⟨@zlx, @zly⟩⟩⟩, ⟨⟨@zj6, ⟨@zj7, @zqh⟩⟩, ⟨@zqi, ⟨@zj8, @zj9⟩⟩⟩⟩⟩⟩
structure Head where
 has : Bool
 v : Int
instance : Inhabited Head := ⟨⟨false, 0⟩⟩
def za2 (h : Head) : List D := [oD h.has, iD h.v]
def zai (l : List Head) : D := .fs (l.flatMap za2) l.length
theorem zpk (h : Head) : (za2 h).length = 2 := rfl
theorem zio {l : List Head} {k : Nat} (h : k < l.length) : (l.flatMap za2)[k * 2]? = some (oD (nth l k).has) := (zdm (j := 0) zpk h (by omega)).trans rfl
theorem ziq {l : List Head} {k : Nat} (h : k < l.length) : (l.flatMap za2)[k * 2 + 1]? = some (iD (nth l k).v) := (zdm (j := 1) zpk h (by omega)).trans rfl
theorem zac {l : List Head} : (l.flatMap za2).length = l.length * 2 := zdl zpk l
theorem zwd (l : List Head) : (l.flatMap za2).map D.fix = l.flatMap za2 := zjc (fun _ => rfl) l
structure PSt where
 regs : List Int
 mems : List (List Int)
 deriving Inhabited
def za6 (s : PSt) : List D := [intsD s.regs, intssD s.mems]
def inV (s : PSt) (heads : List Head) (rooms : List Bool) (w : Wire) : Bool :=
 if w.kind = 1 then decide (w.i < s.regs.length) && jdv (nth s.regs w.i.toNat) w.bit
 else if w.kind = 2 then decide (w.i < heads.length) && ((nth heads w.i.toNat).has && jdv (nth heads w.i.toNat).v w.bit)
 else if w.kind = 3 then decide (w.i < heads.length) && (nth heads w.i.toNat).has
 else decide (w.kind = 4) && (decide (w.i < rooms.length) && nth rooms w.i.toNat)
def zpl (s : PSt) (heads : List Head) (rooms : List Bool) (l : List Wire) : List Bool := l.map (inV s heads rooms)
theorem zaw (s : PSt) (heads : List Head) (rooms : List Bool) (l : List Wire) : (zpl s heads rooms l).length = l.length := by simp [zpl]
theorem jfg {l : List Bool} {n k : Nat} (hl : l.length = n) (hk : k < n) : (l.take k ++ List.replicate (n - k) false).set k (nth l k) = l.take (k + 1) ++ List.replicate (n - (k + 1)) false := by
 subst hl
 rw [zgj hk, List.set_append_right _ _ (by simp; omega), List.length_take, Nat.min_eq_left (by omega), Nat.sub_self, show l.length - k = (l.length - (k + 1)) + 1 by omega, List.replicate_succ, List.set_cons_zero, List.append_assoc]; rfl
theorem zwe {l : List Bool} {n k : Nat} (hl : l.length = n) (hk : k < n) : (l.take k ++ List.replicate (n - k) false).set k false = l.take k ++ List.replicate (n - k) false := by
 rw [List.set_append_right _ _ (by simp; omega), List.length_take, Nat.min_eq_left (by omega), Nat.sub_self, show n - k = (n - (k + 1)) + 1 by omega, List.replicate_succ, List.set_cons_zero]
theorem zwf (n : Net) (s : PSt) (heads : List Head) (rooms : List Bool) (hi : n.ins.length ≤ 1000000) (hw : ∀ w ∈ n.ins, WireIn w) (h1 : s.regs.length ≤ maxLen) (h2 : heads.length ≤ maxLen) (h3 : rooms.length ≤ maxLen) : zbh Try.prog 17 [za1 n, .agg (za6 s), zai heads, boolsD rooms] (.d (boolsD (zpl s heads rooms n.ins))) := by
 unfold maxLen at h1 h2 h3
 refine zbv (fn := Try.f17) (by kernel_rfl) Try.func17 rfl (Nat.le_of_ble_eq_true rfl) fun c hc hp => ?_
 refine zb8 (τ' := frL [(0, .d (za1 n)), (1, .d (.agg (za6 s))), (2, .d (zai heads)), (3, .d (boolsD rooms))]) (by repeat (first | exact zat _ | refine zap ?_ (by first | rfl | (simp [r_f, zab, zaa, zaw, zac]; done) | simp [r_f, zab, zaa, zaw, zac, *]))) ?_
 refine zah hp zar hc rfl fun K1 hK1 => ?_
 simp -dsimp -implicitDefEqProofs (disch := first | assumption | omega | (simp only [r_z, zab, zaa, zaw, zac] <;> omega) | decide) only [r_r, ↓reduceIte, Nat.reduceEqDiff, Nat.reduceAdd, D.fix, Int.reduceToNat, Nat.reduceMul, Nat.reduceBNe, Nat.reduceBEq, za1, za3, zad, zae, za6, zai, zao, zaj, zaf, iD, oD, zb4]
 refine hK1 _ _ ?_
 refine zah hp zar hc rfl fun K2 hK2 => ?_
 simp -dsimp -implicitDefEqProofs (disch := first | assumption | omega | (simp only [r_z, zab, zaa, zaw, zac] <;> omega) | decide) only [r_r, ↓reduceIte, Nat.reduceEqDiff, Nat.reduceAdd, D.fix, Int.reduceToNat, Nat.reduceMul, Nat.reduceBNe, Nat.reduceBEq, za1, za3, zad, zae, za6, zai, zao, zaj, zaf, iD, oD, zb4]
 refine hK2 _ _ ?_
 refine zav fun K3 hK3 => ?_
 refine zah hp zar hc rfl fun K4 hK4 => ?_
 simp -dsimp -implicitDefEqProofs (disch := first | assumption | omega | (simp only [r_z, zab, zaa, zaw, zac] <;> omega) | decide) only [r_r, ↓reduceIte, Nat.reduceEqDiff, Nat.reduceAdd, D.fix, Int.reduceToNat, Nat.reduceMul, Nat.reduceBNe, Nat.reduceBEq, za1, za3, zad, zae, za6, zai, zao, zaj, zaf, iD, oD, zb4]
 refine hK4 _ _ ?_
 refine za5 ?_
 refine zbc hp (fun τ' H' mm => ∃ k, (k ≤ n.ins.length) ∧ mm = n.ins.length - k ∧ H' = [.cells (avs (za3 n)), .cells (avs (za6 s)), .cells (avs (((zpl s heads rooms n.ins).take k ++ List.replicate (n.ins.length - k) false).map oD))] ∧ τ' = frL [(2, .d (zai heads)), (3, .d (boolsD rooms)), (4, .op 0 0), (5, .op 1 0), (9, .os 1 2 0 n.ins.length), (17, .d (zad n.ins)), (18, .d (iD n.ins.length)), (19, .d (iD k))]) (n.ins.length) ?_ ⟨0, Nat.zero_le _, rfl, rfl, rfl⟩ ?_
 ·refine Rt.trans (Rt.gc (keep := [0,1,2]) (by decide) (by decide) (by simp [fzH, gcH])) ?_
  refine Rt.end (by repeat (first | exact zat _ | refine zap ?_ (by first | rfl | (simp [r_f, zab, zaa, zaw, zac]; done) | simp [r_f, zab, zaa, zaw, zac, *]))) ?_
  simp only [r_g, Nat.reduceAdd, ↓reduceIte, Nat.reduceEqDiff, za1, za3, zad, zae, za6, zai, zao, zaj, zaf, iD, oD]; simp [oD]
 rintro τ' H' mm ⟨k, hk, rfl, rfl, rfl⟩
 refine zah hp zar hc rfl fun K5 hK5 => ?_
 simp -dsimp -implicitDefEqProofs (disch := first | assumption | omega | (simp only [r_z, zab, zaa, zaw, zac] <;> omega) | decide) only [r_r, ↓reduceIte, Nat.reduceEqDiff, Nat.reduceAdd, D.fix, Int.reduceToNat, Nat.reduceMul, Nat.reduceBNe, Nat.reduceBEq, za1, za3, zad, zae, za6, zai, zao, zaj, zaf, iD, oD, zb4]
 refine hK5 _ _ ?_
 refine zav fun K6 hK6 => ?_
 refine zay rfl (fun ht => ?_) (fun ht => ?_)
 ·have hlt : k < n.ins.length := by simp at ht; omega
  obtain ⟨k1, k4, i0, b0, b7, i2⟩ := hw _ (zdc hlt)
  have hst := jfg (zaw s heads rooms n.ins) hlt
  have hnv : nth (zpl s heads rooms n.ins) k = inV s heads rooms (nth n.ins k) := zmv hlt
  rw [hnv] at hst
  have z0 : 0 ≤ (nth n.ins k).bit := b0
  refine za4 (hK6 _ _ ?_)
  refine zav fun K7 hK7 => ?_
  refine za5 ?_
  refine zah hp zar hc rfl fun K8 hK8 => ?_
  simp -dsimp -implicitDefEqProofs (disch := first | assumption | omega | (simp only [r_z, zab, zaa, zaw, zac] <;> omega) | decide) only [r_r, ↓reduceIte, Nat.reduceEqDiff, Nat.reduceAdd, D.fix, Int.reduceToNat, Nat.reduceMul, Nat.reduceBNe, Nat.reduceBEq, za1, za3, zad, zae, za6, zai, zao, zaj, zaf, iD, oD, zb4]
  refine hK8 _ _ ?_
  refine za5 ?_
  refine zah hp zar hc rfl fun K9 hK9 => ?_
  by_cases e1 : (nth n.ins k).kind = 1
  ·have q1 : ((nth n.ins k).kind == 1) = true := by simp [e1]
   simp -dsimp -implicitDefEqProofs (disch := first | assumption | omega | (simp only [r_z, zab, zaa, zaw, zac] <;> omega) | decide) only [r_r, ↓reduceIte, Nat.reduceEqDiff, Nat.reduceAdd, D.fix, Int.reduceToNat, Nat.reduceMul, Nat.reduceBNe, Nat.reduceBEq, za1, za3, zad, zae, za6, zai, zao, zaj, zaf, iD, oD, q1, zb4]
   refine hK9 _ _ ?_
   refine zay rfl (fun ht => ?_) (fun ht => ?_)
   ·have hin : (nth n.ins k).i < s.regs.length := by simpa using ht
    have hin2 : (nth n.ins k).i.toNat < s.regs.length := by omega
    refine zla zar hc zcb rfl (q := 0) (by kernel_rfl) (by kernel_rfl) fun K10 hK10 => ?_
    simp -dsimp -implicitDefEqProofs (disch := first | assumption | omega | (simp only [r_z, zab, zaa, zaw, zac] <;> omega) | decide) only [r_r, ↓reduceIte, Nat.reduceEqDiff, Nat.reduceAdd, D.fix, Int.reduceToNat, Nat.reduceMul, Nat.reduceBNe, Nat.reduceBEq, za1, za3, zad, zae, za6, zai, zao, zaj, zaf, iD, oD, zcr, zb4]
    refine zdf (jak (nth s.regs (nth n.ins k).i.toNat) (nth n.ins k).bit b0) rfl ?_
    simp -dsimp -implicitDefEqProofs (disch := first | assumption | omega | (simp only [r_z, zab, zaa, zaw, zac] <;> omega) | decide) only [r_r, ↓reduceIte, Nat.reduceEqDiff, Nat.reduceAdd, D.fix, Int.reduceToNat, Nat.reduceMul, Nat.reduceBNe, Nat.reduceBEq, za1, za3, zad, zae, za6, zai, zao, zaj, zaf, iD, oD, zcr, zb4]
    refine hK10 _ _ (hK7 _ _ ?_)
    refine zba hp zar hc rfl fun K11 hK11 => ?_
    simp -dsimp -implicitDefEqProofs (disch := first | assumption | omega | (simp only [r_z, zab, zaa, zaw, zac] <;> omega) | decide) only [r_r, ↓reduceIte, Nat.reduceEqDiff, Nat.reduceAdd, D.fix, Int.reduceToNat, Nat.reduceMul, Nat.reduceBNe, Nat.reduceBEq, za1, za3, zad, zae, za6, zai, zao, zaj, zaf, iD, oD, zb4]
    refine hK11 _ _ ⟨_, _, _, ?_, ⟨k + 1, by omega, rfl, rfl, rfl⟩, ?_⟩
    ·first | omega | (simp only [List.length_cons]; omega) | (dsimp only; omega)
    ·refine Rt.trans (Rt.gc (keep := [0,1,2]) (by decide) (by decide) (by simp [fzH, gcH])) ?_
     refine Rt.end (by repeat (first | exact zat _ | refine zap ?_ (by first | rfl | (simp [r_f, zab, zaa, zaw, zac]; done) | simp [r_f, zab, zaa, zaw, zac, *]))) ?_
     simp only [r_g, Nat.reduceAdd, ↓reduceIte, Nat.reduceEqDiff, za1, za3, zad, zae, za6, zai, zao, zaj, zaf, iD, oD]; rw [← hst]; simp [inV, e1, hin, oD]
   ·have hin : ¬ (nth n.ins k).i < s.regs.length := by simpa using ht
    have q2 : ((nth n.ins k).kind == 2) = false := by simp [e1]
    refine zah hp zar hc rfl fun K12 hK12 => ?_
    simp -dsimp -implicitDefEqProofs (disch := first | assumption | omega | (simp only [r_z, zab, zaa, zaw, zac] <;> omega) | decide) only [r_r, ↓reduceIte, Nat.reduceEqDiff, Nat.reduceAdd, D.fix, Int.reduceToNat, Nat.reduceMul, Nat.reduceBNe, Nat.reduceBEq, za1, za3, zad, zae, za6, zai, zao, zaj, zaf, iD, oD, q2, zb4]
    refine hK12 _ _ ?_
    refine zay rfl (fun ht => ?_) (fun ht => ?_)
    ·cases ht
    ·have q3 : ((nth n.ins k).kind == 3) = false := by simp [e1]
     refine zah hp zar hc rfl fun K13 hK13 => ?_
     simp -dsimp -implicitDefEqProofs (disch := first | assumption | omega | (simp only [r_z, zab, zaa, zaw, zac] <;> omega) | decide) only [r_r, ↓reduceIte, Nat.reduceEqDiff, Nat.reduceAdd, D.fix, Int.reduceToNat, Nat.reduceMul, Nat.reduceBNe, Nat.reduceBEq, za1, za3, zad, zae, za6, zai, zao, zaj, zaf, iD, oD, q3, zb4]
     refine hK13 _ _ ?_
     refine zay rfl (fun ht => ?_) (fun ht => ?_)
     ·cases ht
     ·have q4 : ((nth n.ins k).kind == 4) = false := by simp [e1]
      refine zah hp zar hc rfl fun K14 hK14 => ?_
      simp -dsimp -implicitDefEqProofs (disch := first | assumption | omega | (simp only [r_z, zab, zaa, zaw, zac] <;> omega) | decide) only [r_r, ↓reduceIte, Nat.reduceEqDiff, Nat.reduceAdd, D.fix, Int.reduceToNat, Nat.reduceMul, Nat.reduceBNe, Nat.reduceBEq, za1, za3, zad, zae, za6, zai, zao, zaj, zaf, iD, oD, q4, zb4]
      refine hK14 _ _ ?_
      refine zay rfl (fun ht => ?_) (fun ht => ?_)
      ·cases ht
      ·refine za4 (hK7 _ _ ?_)
       refine zba hp zar hc rfl fun K15 hK15 => ?_
       simp -dsimp -implicitDefEqProofs (disch := first | assumption | omega | (simp only [r_z, zab, zaa, zaw, zac] <;> omega) | decide) only [r_r, ↓reduceIte, Nat.reduceEqDiff, Nat.reduceAdd, D.fix, Int.reduceToNat, Nat.reduceMul, Nat.reduceBNe, Nat.reduceBEq, za1, za3, zad, zae, za6, zai, zao, zaj, zaf, iD, oD, zb4]
       refine hK15 _ _ ⟨_, _, _, ?_, ⟨k + 1, by omega, rfl, rfl, rfl⟩, ?_⟩
       ·first | omega | (simp only [List.length_cons]; omega) | (dsimp only; omega)
       ·refine Rt.trans (Rt.gc (keep := [0,1,2]) (by decide) (by decide) (by simp [fzH, gcH])) ?_
        refine Rt.end (by repeat (first | exact zat _ | refine zap ?_ (by first | rfl | (simp [r_f, zab, zaa, zaw, zac]; done) | simp [r_f, zab, zaa, zaw, zac, *]))) ?_
        simp only [r_g, Nat.reduceAdd, ↓reduceIte, Nat.reduceEqDiff, za1, za3, zad, zae, za6, zai, zao, zaj, zaf, iD, oD]; rw [← hst, show inV s heads rooms (nth n.ins k) = false by simp [inV, e1, hin], zwe (zaw s heads rooms n.ins) hlt]
  ·have q1 : ((nth n.ins k).kind == 1) = false := by simp [e1]
   simp -dsimp -implicitDefEqProofs (disch := first | assumption | omega | (simp only [r_z, zab, zaa, zaw, zac] <;> omega) | decide) only [r_r, ↓reduceIte, Nat.reduceEqDiff, Nat.reduceAdd, D.fix, Int.reduceToNat, Nat.reduceMul, Nat.reduceBNe, Nat.reduceBEq, za1, za3, zad, zae, za6, zai, zao, zaj, zaf, iD, oD, q1, zb4]
   refine hK9 _ _ ?_
   refine zay rfl (fun ht => ?_) (fun ht => ?_)
   ·cases ht
   ·refine zah hp zar hc rfl fun K16 hK16 => ?_
    by_cases e2 : (nth n.ins k).kind = 2
    ·have q2 : ((nth n.ins k).kind == 2) = true := by simp [e2]
     simp -dsimp -implicitDefEqProofs (disch := first | assumption | omega | (simp only [r_z, zab, zaa, zaw, zac] <;> omega) | decide) only [r_r, ↓reduceIte, Nat.reduceEqDiff, Nat.reduceAdd, D.fix, Int.reduceToNat, Nat.reduceMul, Nat.reduceBNe, Nat.reduceBEq, za1, za3, zad, zae, za6, zai, zao, zaj, zaf, iD, oD, q2, zb4]
     refine hK16 _ _ ?_
     refine zay rfl (fun ht => ?_) (fun ht => ?_)
     ·have hin : (nth n.ins k).i < heads.length := by simpa using ht
      have hin2 : (nth n.ins k).i.toNat < heads.length := by omega
      refine zla zar hc zcb rfl (q := 0) (by kernel_rfl) (by kernel_rfl) fun K17 hK17 => ?_
      rcases tf (nth heads (nth n.ins k).i.toNat).has with e3 | e3
      ·simp -dsimp -implicitDefEqProofs (disch := first | assumption | omega | (simp only [r_z, zab, zaa, zaw, zac] <;> omega) | decide) only [r_r, ↓reduceIte, Nat.reduceEqDiff, Nat.reduceAdd, D.fix, Int.reduceToNat, Nat.reduceMul, Nat.reduceBNe, Nat.reduceBEq, za1, za3, zad, zae, za6, zai, zao, zaj, zaf, iD, oD, zio, ziq, e3, zb4]
       refine zdf (jak (nth heads (nth n.ins k).i.toNat).v (nth n.ins k).bit b0) rfl ?_
       simp -dsimp -implicitDefEqProofs (disch := first | assumption | omega | (simp only [r_z, zab, zaa, zaw, zac] <;> omega) | decide) only [r_r, ↓reduceIte, Nat.reduceEqDiff, Nat.reduceAdd, D.fix, Int.reduceToNat, Nat.reduceMul, Nat.reduceBNe, Nat.reduceBEq, za1, za3, zad, zae, za6, zai, zao, zaj, zaf, iD, oD, zio, ziq, e3, zb4]
       refine hK17 _ _ (hK7 _ _ ?_)
       refine zba hp zar hc rfl fun K18 hK18 => ?_
       simp -dsimp -implicitDefEqProofs (disch := first | assumption | omega | (simp only [r_z, zab, zaa, zaw, zac] <;> omega) | decide) only [r_r, ↓reduceIte, Nat.reduceEqDiff, Nat.reduceAdd, D.fix, Int.reduceToNat, Nat.reduceMul, Nat.reduceBNe, Nat.reduceBEq, za1, za3, zad, zae, za6, zai, zao, zaj, zaf, iD, oD, zb4]
       refine hK18 _ _ ⟨_, _, _, ?_, ⟨k + 1, by omega, rfl, rfl, rfl⟩, ?_⟩
       ·first | omega | (simp only [List.length_cons]; omega) | (dsimp only; omega)
       ·refine Rt.trans (Rt.gc (keep := [0,1,2]) (by decide) (by decide) (by simp [fzH, gcH])) ?_
        refine Rt.end (by repeat (first | exact zat _ | refine zap ?_ (by first | rfl | (simp [r_f, zab, zaa, zaw, zac]; done) | simp [r_f, zab, zaa, zaw, zac, *]))) ?_
        simp only [r_g, Nat.reduceAdd, ↓reduceIte, Nat.reduceEqDiff, za1, za3, zad, zae, za6, zai, zao, zaj, zaf, iD, oD]; rw [← hst]; simp [inV, e2, hin, oD, e3]
      ·simp -dsimp -implicitDefEqProofs (disch := first | assumption | omega | (simp only [r_z, zab, zaa, zaw, zac] <;> omega) | decide) only [r_r, ↓reduceIte, Nat.reduceEqDiff, Nat.reduceAdd, D.fix, Int.reduceToNat, Nat.reduceMul, Nat.reduceBNe, Nat.reduceBEq, za1, za3, zad, zae, za6, zai, zao, zaj, zaf, iD, oD, zio, ziq, e3, zb4]
       refine hK17 _ _ (hK7 _ _ ?_)
       refine zba hp zar hc rfl fun K19 hK19 => ?_
       simp -dsimp -implicitDefEqProofs (disch := first | assumption | omega | (simp only [r_z, zab, zaa, zaw, zac] <;> omega) | decide) only [r_r, ↓reduceIte, Nat.reduceEqDiff, Nat.reduceAdd, D.fix, Int.reduceToNat, Nat.reduceMul, Nat.reduceBNe, Nat.reduceBEq, za1, za3, zad, zae, za6, zai, zao, zaj, zaf, iD, oD, zb4]
       refine hK19 _ _ ⟨_, _, _, ?_, ⟨k + 1, by omega, rfl, rfl, rfl⟩, ?_⟩
       ·first | omega | (simp only [List.length_cons]; omega) | (dsimp only; omega)
       ·refine Rt.trans (Rt.gc (keep := [0,1,2]) (by decide) (by decide) (by simp [fzH, gcH])) ?_
        refine Rt.end (by repeat (first | exact zat _ | refine zap ?_ (by first | rfl | (simp [r_f, zab, zaa, zaw, zac]; done) | simp [r_f, zab, zaa, zaw, zac, *]))) ?_
        simp only [r_g, Nat.reduceAdd, ↓reduceIte, Nat.reduceEqDiff, za1, za3, zad, zae, za6, zai, zao, zaj, zaf, iD, oD]; rw [← hst]; simp [inV, e2, hin, oD, e3]
     ·have hin : ¬ (nth n.ins k).i < heads.length := by simpa using ht
      have q3 : ((nth n.ins k).kind == 3) = false := by simp [e2]
      refine zah hp zar hc rfl fun K20 hK20 => ?_
      simp -dsimp -implicitDefEqProofs (disch := first | assumption | omega | (simp only [r_z, zab, zaa, zaw, zac] <;> omega) | decide) only [r_r, ↓reduceIte, Nat.reduceEqDiff, Nat.reduceAdd, D.fix, Int.reduceToNat, Nat.reduceMul, Nat.reduceBNe, Nat.reduceBEq, za1, za3, zad, zae, za6, zai, zao, zaj, zaf, iD, oD, q3, zb4]
      refine hK20 _ _ ?_
      refine zay rfl (fun ht => ?_) (fun ht => ?_)
      ·cases ht
      ·have q4 : ((nth n.ins k).kind == 4) = false := by simp [e2]
       refine zah hp zar hc rfl fun K21 hK21 => ?_
       simp -dsimp -implicitDefEqProofs (disch := first | assumption | omega | (simp only [r_z, zab, zaa, zaw, zac] <;> omega) | decide) only [r_r, ↓reduceIte, Nat.reduceEqDiff, Nat.reduceAdd, D.fix, Int.reduceToNat, Nat.reduceMul, Nat.reduceBNe, Nat.reduceBEq, za1, za3, zad, zae, za6, zai, zao, zaj, zaf, iD, oD, q4, zb4]
       refine hK21 _ _ ?_
       refine zay rfl (fun ht => ?_) (fun ht => ?_)
       ·cases ht
       ·refine za4 (hK7 _ _ ?_)
        refine zba hp zar hc rfl fun K22 hK22 => ?_
        simp -dsimp -implicitDefEqProofs (disch := first | assumption | omega | (simp only [r_z, zab, zaa, zaw, zac] <;> omega) | decide) only [r_r, ↓reduceIte, Nat.reduceEqDiff, Nat.reduceAdd, D.fix, Int.reduceToNat, Nat.reduceMul, Nat.reduceBNe, Nat.reduceBEq, za1, za3, zad, zae, za6, zai, zao, zaj, zaf, iD, oD, zb4]
        refine hK22 _ _ ⟨_, _, _, ?_, ⟨k + 1, by omega, rfl, rfl, rfl⟩, ?_⟩
        ·first | omega | (simp only [List.length_cons]; omega) | (dsimp only; omega)
        ·refine Rt.trans (Rt.gc (keep := [0,1,2]) (by decide) (by decide) (by simp [fzH, gcH])) ?_
         refine Rt.end (by repeat (first | exact zat _ | refine zap ?_ (by first | rfl | (simp [r_f, zab, zaa, zaw, zac]; done) | simp [r_f, zab, zaa, zaw, zac, *]))) ?_
         simp only [r_g, Nat.reduceAdd, ↓reduceIte, Nat.reduceEqDiff, za1, za3, zad, zae, za6, zai, zao, zaj, zaf, iD, oD]; rw [← hst, show inV s heads rooms (nth n.ins k) = false by simp [inV, e2, hin], zwe (zaw s heads rooms n.ins) hlt]
    ·have q2 : ((nth n.ins k).kind == 2) = false := by simp [e2]
     simp -dsimp -implicitDefEqProofs (disch := first | assumption | omega | (simp only [r_z, zab, zaa, zaw, zac] <;> omega) | decide) only [r_r, ↓reduceIte, Nat.reduceEqDiff, Nat.reduceAdd, D.fix, Int.reduceToNat, Nat.reduceMul, Nat.reduceBNe, Nat.reduceBEq, za1, za3, zad, zae, za6, zai, zao, zaj, zaf, iD, oD, q2, zb4]
     refine hK16 _ _ ?_
     refine zay rfl (fun ht => ?_) (fun ht => ?_)
     ·cases ht
     ·refine zah hp zar hc rfl fun K23 hK23 => ?_
      by_cases e3 : (nth n.ins k).kind = 3
      ·have q3 : ((nth n.ins k).kind == 3) = true := by simp [e3]
       simp -dsimp -implicitDefEqProofs (disch := first | assumption | omega | (simp only [r_z, zab, zaa, zaw, zac] <;> omega) | decide) only [r_r, ↓reduceIte, Nat.reduceEqDiff, Nat.reduceAdd, D.fix, Int.reduceToNat, Nat.reduceMul, Nat.reduceBNe, Nat.reduceBEq, za1, za3, zad, zae, za6, zai, zao, zaj, zaf, iD, oD, q3, zb4]
       refine hK23 _ _ ?_
       refine zay rfl (fun ht => ?_) (fun ht => ?_)
       ·have hin : (nth n.ins k).i < heads.length := by simpa using ht
        have hin2 : (nth n.ins k).i.toNat < heads.length := by omega
        refine zba hp zar hc rfl fun K24 hK24 => ?_
        simp -dsimp -implicitDefEqProofs (disch := first | assumption | omega | (simp only [r_z, zab, zaa, zaw, zac] <;> omega) | decide) only [r_r, ↓reduceIte, Nat.reduceEqDiff, Nat.reduceAdd, D.fix, Int.reduceToNat, Nat.reduceMul, Nat.reduceBNe, Nat.reduceBEq, za1, za3, zad, zae, za6, zai, zao, zaj, zaf, iD, oD, zio, ziq, zb4]
        refine hK24 _ _ (hK7 _ _ ?_)
        refine zba hp zar hc rfl fun K25 hK25 => ?_
        simp -dsimp -implicitDefEqProofs (disch := first | assumption | omega | (simp only [r_z, zab, zaa, zaw, zac] <;> omega) | decide) only [r_r, ↓reduceIte, Nat.reduceEqDiff, Nat.reduceAdd, D.fix, Int.reduceToNat, Nat.reduceMul, Nat.reduceBNe, Nat.reduceBEq, za1, za3, zad, zae, za6, zai, zao, zaj, zaf, iD, oD, zb4]
        refine hK25 _ _ ⟨_, _, _, ?_, ⟨k + 1, by omega, rfl, rfl, rfl⟩, ?_⟩
        ·first | omega | (simp only [List.length_cons]; omega) | (dsimp only; omega)
        ·refine Rt.trans (Rt.gc (keep := [0,1,2]) (by decide) (by decide) (by simp [fzH, gcH])) ?_
         refine Rt.end (by repeat (first | exact zat _ | refine zap ?_ (by first | rfl | (simp [r_f, zab, zaa, zaw, zac]; done) | simp [r_f, zab, zaa, zaw, zac, *]))) ?_
         simp only [r_g, Nat.reduceAdd, ↓reduceIte, Nat.reduceEqDiff, za1, za3, zad, zae, za6, zai, zao, zaj, zaf, iD, oD]; rw [← hst]; simp [inV, e3, hin, oD]
       ·have hin : ¬ (nth n.ins k).i < heads.length := by simpa using ht
        have q4 : ((nth n.ins k).kind == 4) = false := by simp [e3]
        refine zah hp zar hc rfl fun K26 hK26 => ?_
        simp -dsimp -implicitDefEqProofs (disch := first | assumption | omega | (simp only [r_z, zab, zaa, zaw, zac] <;> omega) | decide) only [r_r, ↓reduceIte, Nat.reduceEqDiff, Nat.reduceAdd, D.fix, Int.reduceToNat, Nat.reduceMul, Nat.reduceBNe, Nat.reduceBEq, za1, za3, zad, zae, za6, zai, zao, zaj, zaf, iD, oD, q4, zb4]
        refine hK26 _ _ ?_
        refine zay rfl (fun ht => ?_) (fun ht => ?_)
        ·cases ht
        ·refine za4 (hK7 _ _ ?_)
         refine zba hp zar hc rfl fun K27 hK27 => ?_
         simp -dsimp -implicitDefEqProofs (disch := first | assumption | omega | (simp only [r_z, zab, zaa, zaw, zac] <;> omega) | decide) only [r_r, ↓reduceIte, Nat.reduceEqDiff, Nat.reduceAdd, D.fix, Int.reduceToNat, Nat.reduceMul, Nat.reduceBNe, Nat.reduceBEq, za1, za3, zad, zae, za6, zai, zao, zaj, zaf, iD, oD, zb4]
         refine hK27 _ _ ⟨_, _, _, ?_, ⟨k + 1, by omega, rfl, rfl, rfl⟩, ?_⟩
         ·first | omega | (simp only [List.length_cons]; omega) | (dsimp only; omega)
         ·refine Rt.trans (Rt.gc (keep := [0,1,2]) (by decide) (by decide) (by simp [fzH, gcH])) ?_
          refine Rt.end (by repeat (first | exact zat _ | refine zap ?_ (by first | rfl | (simp [r_f, zab, zaa, zaw, zac]; done) | simp [r_f, zab, zaa, zaw, zac, *]))) ?_
          simp only [r_g, Nat.reduceAdd, ↓reduceIte, Nat.reduceEqDiff, za1, za3, zad, zae, za6, zai, zao, zaj, zaf, iD, oD]; rw [← hst, show inV s heads rooms (nth n.ins k) = false by simp [inV, e3, hin], zwe (zaw s heads rooms n.ins) hlt]
      ·have q3 : ((nth n.ins k).kind == 3) = false := by simp [e3]
       simp -dsimp -implicitDefEqProofs (disch := first | assumption | omega | (simp only [r_z, zab, zaa, zaw, zac] <;> omega) | decide) only [r_r, ↓reduceIte, Nat.reduceEqDiff, Nat.reduceAdd, D.fix, Int.reduceToNat, Nat.reduceMul, Nat.reduceBNe, Nat.reduceBEq, za1, za3, zad, zae, za6, zai, zao, zaj, zaf, iD, oD, q3, zb4]
       refine hK23 _ _ ?_
       refine zay rfl (fun ht => ?_) (fun ht => ?_)
       ·cases ht
       ·have e4 : (nth n.ins k).kind = 4 := by omega
        have q4 : ((nth n.ins k).kind == 4) = true := by simp [e4]
        refine zah hp zar hc rfl fun K28 hK28 => ?_
        simp -dsimp -implicitDefEqProofs (disch := first | assumption | omega | (simp only [r_z, zab, zaa, zaw, zac] <;> omega) | decide) only [r_r, ↓reduceIte, Nat.reduceEqDiff, Nat.reduceAdd, D.fix, Int.reduceToNat, Nat.reduceMul, Nat.reduceBNe, Nat.reduceBEq, za1, za3, zad, zae, za6, zai, zao, zaj, zaf, iD, oD, q4, zb4]
        refine hK28 _ _ ?_
        refine zay rfl (fun ht => ?_) (fun ht => ?_)
        ·have hin : (nth n.ins k).i < rooms.length := by simpa using ht
         have hin2 : (nth n.ins k).i.toNat < rooms.length := by omega
         refine zba hp zar hc rfl fun K29 hK29 => ?_
         simp -dsimp -implicitDefEqProofs (disch := first | assumption | omega | (simp only [r_z, zab, zaa, zaw, zac] <;> omega) | decide) only [r_r, ↓reduceIte, Nat.reduceEqDiff, Nat.reduceAdd, D.fix, Int.reduceToNat, Nat.reduceMul, Nat.reduceBNe, Nat.reduceBEq, za1, za3, zad, zae, za6, zai, zao, zaj, zaf, iD, oD, zcr, zb4]
         refine hK29 _ _ (hK7 _ _ ?_)
         refine zba hp zar hc rfl fun K30 hK30 => ?_
         simp -dsimp -implicitDefEqProofs (disch := first | assumption | omega | (simp only [r_z, zab, zaa, zaw, zac] <;> omega) | decide) only [r_r, ↓reduceIte, Nat.reduceEqDiff, Nat.reduceAdd, D.fix, Int.reduceToNat, Nat.reduceMul, Nat.reduceBNe, Nat.reduceBEq, za1, za3, zad, zae, za6, zai, zao, zaj, zaf, iD, oD, zb4]
         refine hK30 _ _ ⟨_, _, _, ?_, ⟨k + 1, by omega, rfl, rfl, rfl⟩, ?_⟩
         ·first | omega | (simp only [List.length_cons]; omega) | (dsimp only; omega)
         ·refine Rt.trans (Rt.gc (keep := [0,1,2]) (by decide) (by decide) (by simp [fzH, gcH])) ?_
          refine Rt.end (by repeat (first | exact zat _ | refine zap ?_ (by first | rfl | (simp [r_f, zab, zaa, zaw, zac]; done) | simp [r_f, zab, zaa, zaw, zac, *]))) ?_
          simp only [r_g, Nat.reduceAdd, ↓reduceIte, Nat.reduceEqDiff, za1, za3, zad, zae, za6, zai, zao, zaj, zaf, iD, oD]; rw [← hst]; simp [inV, e4, hin, oD]
        ·have hin : ¬ (nth n.ins k).i < rooms.length := by simpa using ht
         refine za4 (hK7 _ _ ?_)
         refine zba hp zar hc rfl fun K31 hK31 => ?_
         simp -dsimp -implicitDefEqProofs (disch := first | assumption | omega | (simp only [r_z, zab, zaa, zaw, zac] <;> omega) | decide) only [r_r, ↓reduceIte, Nat.reduceEqDiff, Nat.reduceAdd, D.fix, Int.reduceToNat, Nat.reduceMul, Nat.reduceBNe, Nat.reduceBEq, za1, za3, zad, zae, za6, zai, zao, zaj, zaf, iD, oD, zb4]
         refine hK31 _ _ ⟨_, _, _, ?_, ⟨k + 1, by omega, rfl, rfl, rfl⟩, ?_⟩
         ·first | omega | (simp only [List.length_cons]; omega) | (dsimp only; omega)
         ·refine Rt.trans (Rt.gc (keep := [0,1,2]) (by decide) (by decide) (by simp [fzH, gcH])) ?_
          refine Rt.end (by repeat (first | exact zat _ | refine zap ?_ (by first | rfl | (simp [r_f, zab, zaa, zaw, zac]; done) | simp [r_f, zab, zaa, zaw, zac, *]))) ?_
          simp only [r_g, Nat.reduceAdd, ↓reduceIte, Nat.reduceEqDiff, za1, za3, zad, zae, za6, zai, zao, zaj, zaf, iD, oD]; rw [← hst, show inV s heads rooms (nth n.ins k) = false by simp [inV, e4, hin], zwe (zaw s heads rooms n.ins) hlt]
 ·have hge : k = n.ins.length := by simp at ht; omega
  refine zbi (hK3 _ _ ?_)
  refine zah hp zar hc rfl fun K32 hK32 => ?_
  simp -dsimp -implicitDefEqProofs (disch := first | assumption | omega | (simp only [r_z, zab, zaa, zaw, zac] <;> omega) | decide) only [r_r, ↓reduceIte, Nat.reduceEqDiff, Nat.reduceAdd, D.fix, Int.reduceToNat, Nat.reduceMul, Nat.reduceBNe, Nat.reduceBEq, za1, za3, zad, zae, za6, zai, zao, zaj, zaf, iD, oD]
  refine hK32 _ _ ?_
  refine zbr ?_
  show closeA _ _ = _
  simp (disch := first | assumption | omega | (simp only [r_z, zab, zaa, zaw, zac] <;> omega) | decide) only [r_c, Nat.reduceAdd, D.fix, ↓reduceIte, Nat.reduceEqDiff, za1, za3, zad, zae, za6, zai, zao, zaj, zaf, iD, oD]
  rw [hge, Nat.sub_self, List.take_of_length_le (by rw [zaw]; exact Nat.le_refl _)]; simp [zaw]
end Go.Proofs.Ytapjobndmmkanaa
