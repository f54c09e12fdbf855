/- The program's sensitive outputs, and the reference's. -/
import Derived.Test.YtapjobndmmkanaaQr
import Derived.Test.YtapjobndmmkanaaXc
set_option linter.unusedVariables false
set_option linter.unusedSimpArgs false
set_option maxRecDepth 100000
set_option maxHeartbeats 4000000
namespace Go.Proofs.Ytapjobndmmkanaa
open Go Go.RowKit
theorem jf8 : (((((type_of% @zhw) ∧ (type_of% @zjb)) ∧ ((type_of% @zfo) ∧ (type_of% @zfb))) ∧ (((type_of% @zfp) ∧ (type_of% @zfq)) ∧ ((type_of% @zgz) ∧ ((type_of% @je4) ∧ (type_of% @zkr))))) ∧ ((((type_of% @zks) ∧ (type_of% @zgy)) ∧ ((type_of% @je6) ∧ (type_of% @zht))) ∧ (((type_of% @zhu) ∧ (type_of% @zhv)) ∧ ((type_of% @zq0) ∧ ((type_of% @zq1) ∧ (type_of% @jq3)))))) := ⟨⟨⟨⟨@zhw, @zjb⟩, ⟨@zfo, @zfb⟩⟩, ⟨⟨@zfp, @zfq⟩, ⟨@zgz, ⟨@je4, @zkr⟩⟩⟩⟩, ⟨⟨⟨@zks, @zgy⟩, ⟨@je6, @zht⟩⟩, ⟨⟨@zhu, @zhv⟩, ⟨@zq0, ⟨@zq1, @jq3⟩⟩⟩⟩⟩
def zo5 (n : Net) (inp : List Bool) (mems : List (List Int)) (k m : Nat) : List Int := ((List.range m).filter fun i => nth (zpf n inp mems) i != nth (zpf n (zp3 inp k) mems) i).map fun (i : Nat) => (i : Int)
theorem zsv (n : Net) (inp : List Bool) (mems : List (List Int)) (k m : Nat) : (zo5 n inp mems k m).length ≤ m := by
 unfold zo5; rw [List.length_map]; exact Nat.le_trans (List.length_filter_le _ _) (by simp)
theorem zi8 (n : Net) (inp : List Bool) (mems : List (List Int)) (k m : Nat) : zo5 n inp mems k (m + 1) = zo5 n inp mems k m ++ (if nth (zpf n inp mems) m != nth (zpf n (zp3 inp k) mems) m then [(m : Int)] else []) := by
 unfold zo5
 rw [List.range_succ, List.filter_append, List.map_append]
 congr 1
 by_cases h : (nth (zpf n inp mems) m != nth (zpf n (zp3 inp k) mems) m) = true <;> simp [h]
def zkx (n : Net) (inp : List Bool) (mems : List (List Int)) (k : Int) : List Int := if 0 ≤ k ∧ k < n.ins.length then zo5 n inp mems k.toNat n.drive.length else []
theorem jf9 (n : Net) (inp : List Bool) (mems : List (List Int)) : jq9 n (zhd n.gates inp mems) = zpf n inp mems := rfl
theorem zfh {p q : Prop} (hq : q) (h : p = q := by
 conv => lhs; simp -dsimp -implicitDefEqProofs (disch := first | assumption | omega | (simp only [r_z, zae, zab, zbo, zbk, zc2] <;> omega) | decide) only [r_r, ↓reduceIte, Nat.reduceEqDiff, Nat.reduceAdd, D.fix, Int.reduceToNat, Nat.reduceMul, Nat.reduceBNe, Nat.reduceBEq, zby, zb1, zao, zaj, jf8]) : p := h.mpr hq
theorem jbu {p q r : Prop} (e : r) (hq : q) (h : r → p = q := by
 intro hY
 conv => lhs; simp -dsimp -implicitDefEqProofs (disch := first | assumption | omega | (simp only [r_z, zae, zab, zbo, zbk, zc2] <;> omega) | decide) only [r_r, ↓reduceIte, Nat.reduceEqDiff, Nat.reduceAdd, D.fix, Int.reduceToNat, Nat.reduceMul, Nat.reduceBNe, Nat.reduceBEq, zby, zb1, zao, zaj, jf8, hY]) : p := (h e).mpr hq
theorem zsw {p q : Prop} (hq : q) (h : p = q := by
 conv => lhs; simp -dsimp -implicitDefEqProofs (disch := first | assumption | omega | (simp only [r_z, zae, zab, zbo, zbk, zc2] <;> omega) | decide) only [r_r, ↓reduceIte, Nat.reduceEqDiff, Nat.reduceAdd, D.fix, Int.reduceToNat, Nat.reduceMul, Nat.reduceBNe, Nat.reduceBEq, zby, zb1, zao, zaj]) : p := h.mpr hq
theorem jjy (k : List Nat) {m : List Nat} {τ τ1 : Fr} {H H1 : zad} (h : Rt m (fun t => gcV k (τ t)) (gcH k H) τ1 H1) (a : ∀ i ∈ m, k[i]? = some i := by decide) (b : k.Nodup := by decide) (c : ∀ i ∈ k, i < H.length := by
 simp [fzH, gcH]) : Rt m τ H τ1 H1 := Rt.trans (Rt.gc a b c) h
theorem jhw {m : List Nat} {τ τ' : Fr} {H H' : zad} (h2 : H = H') (h : zgu τ τ' := by
 repeat (first | exact zar _ | refine zam ?_ (by first | rfl | (simp [r_f, zae, zab, zbo, zbk, zc2, zp3]; done) | simp [r_f, zae, zab, zbo, zbk, zc2, zp3, *]))) : Rt m τ H τ' H' := Rt.end h h2
theorem jra {p q : Prop} (hq : q) (h : p = q := by
 conv => lhs; simp (disch := first | assumption | omega | (simp only [r_z, zae, zab, zbo, zbk, zc2] <;> omega) | decide) only [r_c, Nat.reduceAdd, D.fix, ↓reduceIte, Nat.reduceEqDiff, zby, zb1, zao, zaj]) : p := h.mpr hq
theorem jvv {p q : Prop} (hq : q) (h : p = q := by
 conv => lhs; simp only [r_g, Nat.reduceAdd, ↓reduceIte, Nat.reduceEqDiff, zby, zb1, zao, zaj]) : p := h.mpr hq
theorem jpo (n : Net) (inp : List Bool) (mems : List (List Int)) (k : Int) (hi : n.ins.length = inp.length) (hg : GatesOk (2 + inp.length) n.gates) (h1 : inp.length ≤ 1000) (h2 : n.gates.length ≤ 1000) (hd : DriveOk (2 + inp.length + n.gates.length) n.drive) (h3 : n.drive.length ≤ 1000) : zaz Try.prog 26 [zby n, .agg [boolsD inp, intssD mems], iD k] (.d (intsD (zkx n inp mems k))) := by
 refine zaw (fn := Try.f26) (by kernel_rfl) Try.func26 rfl (Nat.le_of_ble_eq_true rfl) fun c hc hp => ?_
 refine za0 (τ' := frL [(0, .d (zby n)), (1, .d (.agg [boolsD inp, intssD mems])), (2, .d (iD k))]) (by repeat (first | exact zar _ | refine zam ?_ (by first | rfl | (simp [r_f, zae, zab, zbo, zbk, zc2, zp3]; done) | simp [r_f, zae, zab, zbo, zbk, zc2, zp3, *]))) ?_
 refine szq hp (fun _ hZ => zfh hZ) ?_
 refine szq hp (fun _ hZ => zfh hZ) ?_
 refine zaa fun K3 hK3 => ?_
 refine zag hp zai hc rfl fun K4 hK4 => ?_
 rcases (show k < 0 ∨ (¬ k < 0 ∧ (n.ins.length : Int) ≤ k) ∨ (¬ k < 0 ∧ ¬ (n.ins.length : Int) ≤ k) by omega) with q | ⟨q, q'⟩ | ⟨q, q'⟩
 ·have q1 : decide (k < 0) = true := decide_eq_true q
  have q2 := q1
  refine jbu (sza q1 q2) ?_
  refine hK4 _ _ ?_
  refine szt ?_
  refine szq hp (fun _ hZ => zsw hZ) ?_
  refine zal ?_
  show closeA _ _ = _
  refine jra ?_
  unfold zkx; rw [if_neg (by omega)]; rfl
 ·have q1 : decide (k < 0) = false := decide_eq_false q
  have q2 : decide ((n.ins.length : Int) ≤ k) = true := decide_eq_true q'
  refine jbu (sza q1 q2) ?_
  refine hK4 _ _ ?_
  refine szt ?_
  refine szq hp (fun _ hZ => zsw hZ) ?_
  refine zal ?_
  show closeA _ _ = _
  refine jra ?_
  unfold zkx; rw [if_neg (by omega)]; rfl
 ·have q1 : decide (k < 0) = false := decide_eq_false q
  have q2 : decide ((n.ins.length : Int) ≤ k) = false := decide_eq_false q'
  refine jbu (sza q1 q2) ?_
  refine hK4 _ _ ?_
  refine szf ?_
  refine zaf (hK3 _ _ ?_)
  have hk' : k.toNat < inp.length := by omega
  have hil := zc2 inp k.toNat
  have hrl := zsu n inp mems hg (by omega) (by omega)
  have hri := zsu n (zp3 inp k.toNat) mems (by rw [hil]; exact hg) (by omega) (by omega)
  have hol := zlw n (zhd n.gates inp mems) (by omega) (by rw [zbo]; exact hd)
  have hoi := zlw n (zhd n.gates (zp3 inp k.toNat) mems) (by omega) (by rw [zbo, hil]; exact hd)
  rw [jf9] at hol hoi
  refine zas zai hc za8 rfl (q := 0) (by kernel_rfl) (by kernel_rfl) fun K7 hK7 => ?_
  refine zfh ?_
  refine za1 (hrl) rfl ?_
  refine zfh ?_
  refine za1 (hol) rfl ?_
  refine zfh ?_
  refine za1 (jbq inp k (by omega) (by omega) (by omega)) rfl ?_
  refine zfh ?_
  refine za1 (hri) rfl ?_
  refine zfh ?_
  refine za1 (hoi) rfl ?_
  refine zfh ?_
  refine hK7 _ _ ?_
  refine zaa fun K8 hK8 => ?_
  refine szq hp (fun _ hZ => zsw hZ) ?_
  refine zac ?_
  refine zan hp (fun τ' H' mm => ∃ (j : Nat), (j ≤ n.drive.length) ∧ mm = n.drive.length - j ∧ H' = [.cells (avs ((zo5 n inp mems k.toNat j).map iD))] ∧ τ' = frL [(7, .os 1 0 0 (zo5 n inp mems k.toNat j).length), (8, .d (boolsD (zpf n inp mems))), (9, .d (boolsD (zpf n (zp3 inp k.toNat) mems))), (10, .d (iD j))]) (n.drive.length) ?_ ⟨0, Nat.zero_le _, rfl, rfl, rfl⟩ ?_
  ·refine jjy [2] ?_
   refine jhw ?_
   refine jvv ?_; simp [zo5, avs]
  rintro τ' H' mm ⟨j, hj, rfl, rfl, rfl⟩
  refine zaa fun K10 hK10 => ?_
  refine szq hp (fun _ hZ => zfh hZ) ?_
  refine zah rfl (fun ht => ?_) (fun ht => ?_)
  ·have hl1 := zbk n inp mems
   have hlt : j < n.drive.length := by simp at ht; omega
   have hl2 := zbk n (zp3 inp k.toNat) mems
   have hsl := zsv n inp mems k.toNat j
   refine zaf (hK10 _ _ ?_)
   refine zaa fun K12 hK12 => ?_
   refine zac ?_
   refine zas zai hc za8 rfl (q := 0) (by kernel_rfl) (by kernel_rfl) fun K13 hK13 => ?_
   simp -dsimp -implicitDefEqProofs (disch := first | assumption | omega | (simp only [r_z, zae, zab, zbo, zbk, zc2] <;> omega) | decide) only [r_r, ↓reduceIte, Nat.reduceEqDiff, Nat.reduceAdd, D.fix, Int.reduceToNat, Nat.reduceMul, Nat.reduceBNe, Nat.reduceBEq, zby, zb1, zao, zaj, zay, jf8]
   refine hK13 _ _ ?_
   refine zah rfl (fun ht => ?_) (fun ht => ?_)
   ·have hs := zi8 n inp mems k.toNat j
    rw [if_pos ht] at hs
    refine szs hp (fun _ hZ => zfh hZ) (hK12 _ _ ?_)
    refine za5 hp zai hc rfl fun K15 hK15 => ?_
    refine zfh ?_
    refine hK15 _ _ ⟨_, _, _, ?_, ⟨j + 1, by omega, rfl, rfl, rfl⟩, ?_⟩
    ·first | omega | (simp only [List.length_cons]; omega) | (dsimp only; omega)
    ·refine jjy [2] ?_
     refine jhw ?_
     refine jvv ?_; rw [hs]; simp [iD]
   ·have hs := zi8 n inp mems k.toNat j
    rw [if_neg (by rw [ht]; simp), List.append_nil] at hs
    refine zaf (hK12 _ _ ?_)
    refine za5 hp zai hc rfl fun K16 hK16 => ?_
    refine zfh ?_
    refine hK16 _ _ ⟨_, _, _, ?_, ⟨j + 1, by omega, rfl, rfl, rfl⟩, ?_⟩
    ·first | omega | (simp only [List.length_cons]; omega) | (dsimp only; omega)
    ·refine jjy [0] ?_
     refine jhw ?_
     refine jvv ?_; rw [hs]
  ·have hge : j = n.drive.length := by have := zbk n inp mems; simp at ht; omega
   refine zau (hK8 _ _ ?_)
   refine szq hp (fun _ hZ => zsw hZ) ?_
   refine zal ?_
   show closeA _ _ = _
   refine jra ?_
   unfold zkx; rw [if_pos (by omega), hge]
def ycu (l : List Bool) (x : AV) (S' : zad) : Prop := ∃ n, n = l.length ∧ x = .os 1 0 0 n ∧ S' = [.cells (avs (l.map oD))]
theorem jjz (l : List Bool) (hl : l.length ≤ 1000000) (h0 : 0 < l.length) : ScS Try.prog [] 55 [.d (boolsD l)] ([.free]) (ycu l) := by
 refine zeo (fn := Try.f55) (by kernel_rfl) Try.func55 rfl (Nat.le_of_ble_eq_true rfl) fun c hc hp => ?_
 refine zr5 ?_
 refine zag hp zai hc rfl fun K1 hK1 => ?_
 simp -dsimp -implicitDefEqProofs (disch := first | assumption | omega | (simp only [r_z] <;> omega) | decide) only [r_r, ↓reduceIte, Nat.reduceEqDiff, Nat.reduceAdd, D.fix, Int.reduceToNat, Nat.reduceMul, Nat.reduceBNe, Nat.reduceBEq, boolsD]
 refine hK1 _ _ ?_
 refine zaa fun K2 hK2 => ?_
 have hnil : zs8 Try.prog .eql 34 (.d (.fs (l.map oD) l.length)) (.d (.val (.slice none 0 0))) = some (.d (.val (.bool false))) := zyd Try.underlying34 h0
 refine zag hp zai hc rfl fun K3 hK3 => ?_
 simp -dsimp -implicitDefEqProofs (disch := first | assumption | omega | (simp only [r_z] <;> omega) | decide) only [r_r, ↓reduceIte, Nat.reduceEqDiff, Nat.reduceAdd, D.fix, Int.reduceToNat, Nat.reduceMul, Nat.reduceBNe, Nat.reduceBEq, boolsD, hnil, jf8]
 refine hK3 _ _ ?_
 refine szf ?_
 refine zaf (hK2 _ _ ?_)
 refine zag hp zai hc rfl fun K4 hK4 => ?_
 simp -dsimp -implicitDefEqProofs (disch := first | assumption | omega | (simp only [r_z] <;> omega) | decide) only [r_r, ↓reduceIte, Nat.reduceEqDiff, Nat.reduceAdd, D.fix, Int.reduceToNat, Nat.reduceMul, Nat.reduceBNe, Nat.reduceBEq, boolsD, jf8]
 refine hK4 _ _ ?_
 refine zbg hp (τ' := frL [(2, .os 1 0 0 l.length)]) (H' := [.cells (avs (l.map oD))]) ?_ ?_
 ·refine jjy [2] ?_
  refine Rt.end (by repeat (first | exact zar _ | refine zam ?_ (by first | rfl | (simp [r_f]; done) | simp [r_f, *]))) ?_
  first | rfl | (simp only [r_g, Nat.reduceAdd, ↓reduceIte, Nat.reduceEqDiff, boolsD]; first | done | rfl)
 refine zal ?_
 refine zfs (t := 2) rfl ?_
 show ∃ _, _
 exact ⟨_, rfl, rfl, rfl⟩
theorem jvw {p : Prop} (h : p := by
 first | rfl | (simp only [r_g, Nat.reduceAdd, ↓reduceIte, Nat.reduceEqDiff, zby, zb1, zao, zaj]; first | done | rfl)) : p := h
theorem zwm (n : Net) (inp : List Bool) (mems : List (List Int)) (k : Int) (hi : n.ins.length = inp.length) (hg : GatesOk (2 + inp.length) n.gates) (h1 : inp.length ≤ 1000) (h2 : n.gates.length ≤ 1000) (hd : DriveOk (2 + inp.length + n.gates.length) n.drive) (h3 : n.drive.length ≤ 1000) : zaz Try.prog 25 [zby n, boolsD inp, intssD mems, iD k] (.d (intsD (zkx n inp mems k))) := by
 refine zaw (fn := Try.f25) (by kernel_rfl) Try.func25 rfl (Nat.le_of_ble_eq_true rfl) fun c hc hp => ?_
 refine za0 (τ' := frL [(0, .d (zby n)), (1, .d (boolsD inp)), (2, .d (intssD mems)), (3, .d (iD k))]) (by repeat (first | exact zar _ | refine zam ?_ (by first | rfl | (simp [r_f, zae, zab, zbo, zbk, zc2, zp3]; done) | simp [r_f, zae, zab, zbo, zbk, zc2, zp3, *]))) ?_
 refine szq hp (fun _ hZ => zfh hZ) ?_
 refine zaa fun K2 hK2 => ?_
 refine zag hp zai hc rfl fun K3 hK3 => ?_
 rcases (show k < 0 ∨ (¬ k < 0 ∧ (n.ins.length : Int) ≤ k) ∨ (¬ k < 0 ∧ ¬ (n.ins.length : Int) ≤ k) by omega) with q | ⟨q, q'⟩ | ⟨q, q'⟩
 ·have q1 : decide (k < 0) = true := decide_eq_true q
  have q2 := q1
  refine jbu (sza q1 q2) ?_
  refine hK3 _ _ ?_
  refine szt ?_
  refine szq hp (fun _ hZ => zsw hZ) ?_
  refine zbg hp (τ' := frL [(8, .d (intsD []))]) (H' := [.cells (avs (zb1 n))]) ?_ ?_
  ·refine Rt.trans (Rt.fix 8 rfl) ?_
   refine jhw ?_
   exact jvw
  refine zal ?_
  show closeA _ _ = _
  refine jra ?_
  unfold zkx; rw [if_neg (by omega)]; rfl
 ·have q1 : decide (k < 0) = false := decide_eq_false q
  have q2 : decide ((n.ins.length : Int) ≤ k) = true := decide_eq_true q'
  refine jbu (sza q1 q2) ?_
  refine hK3 _ _ ?_
  refine szt ?_
  refine szq hp (fun _ hZ => zsw hZ) ?_
  refine zbg hp (τ' := frL [(8, .d (intsD []))]) (H' := [.cells (avs (zb1 n))]) ?_ ?_
  ·refine Rt.trans (Rt.fix 8 rfl) ?_
   refine jhw ?_
   exact jvw
  refine zal ?_
  show closeA _ _ = _
  refine jra ?_
  unfold zkx; rw [if_neg (by omega)]; rfl
 ·have q1 : decide (k < 0) = false := decide_eq_false q
  have q2 : decide ((n.ins.length : Int) ≤ k) = false := decide_eq_false q'
  refine jbu (sza q1 q2) ?_
  refine hK3 _ _ ?_
  refine szf ?_
  refine zaf (hK2 _ _ ?_)
  refine zbg hp (τ' := frL [(1, .d (boolsD inp)), (2, .d (intssD mems)), (3, .d (iD k)), (4, .op 1 0)]) (H' := [.free, .cells (avs (zb1 n))]) ?_ ?_
  ·refine Rt.trans (Rt.fr1) ?_
   refine jjy [1,0] ?_
   refine jhw ?_
   exact jvw
  have hk' : k.toNat < inp.length := by omega
  refine zag hp zai hc rfl fun K6 hK6 => ?_
  refine zfh ?_
  refine zwb (S := [.free]) (T := [.cells (avs (zb1 n))]) (jjz inp (by omega) (by omega)) rfl (by first | rfl | (simp [AV.allIs, AV.allI, zbi, za3, za4, okI, ltI, zat, zb2]; done) | (intro o ho; simp at ho; done)) (fun t => zc8 (by first | rfl | (simp [AV.allIs, AV.allI, zbi, za3, za4, okI, ltI, zat, zb2]; done) | (intro o ho; simp at ho; done)) t) (by first | rfl | (simp [AV.allIs, AV.allI, zbi, za3, za4, okI, ltI, zat, zb2]; done) | (intro o ho; simp at ho; done)) (by first | rfl | (simp [AV.allIs, AV.allI, zbi, za3, za4, okI, ltI, zat, zb2]; done) | (intro o ho; simp at ho; done)) (by first | rfl | (simp [AV.allIs, AV.allI, zbi, za3, za4, okI, ltI, zat, zb2]; done) | (intro o ho; simp at ho; done)) ?_
  rintro _ _ ⟨_, rfl, rfl, rfl⟩
  refine ⟨rfl, ?_⟩
  refine zfh ?_
  refine hK6 _ _ ?_
  refine szq hp (fun _ hZ => zfh hZ) ?_
  refine zbg hp (τ' := frL [(1, .d (boolsD inp)), (2, .d (intssD mems)), (3, .d (iD k)), (4, .op 0 0), (9, .d (boolsD (zp3 inp k.toNat)))]) (H' := [.cells (avs (zb1 n))]) ?_ ?_
  ·refine Rt.trans (Rt.fz (id := 0) rfl) ?_
   refine Rt.trans (Rt.slot 9 (zee (za2 (by simp [r_z, zae, zab, zbo, zbk, zc2])))) ?_
   refine jjy [1] ?_
   refine jhw ?_
   exact jvw
  refine zas zai hc za8 rfl (q := 0) (by kernel_rfl) (by kernel_rfl) fun K8 hK8 => ?_
  refine zfh ?_
  refine za1 (zo2 n inp mems hg (by omega) (by omega) hd (by omega)) rfl ?_
  refine zfh ?_
  refine za1 (zo2 n (zp3 inp k.toNat) mems (by rw [zc2]; exact hg) (by rw [zc2]; omega) (by omega) (by rw [zc2]; exact hd) (by omega)) rfl ?_
  refine zfh ?_
  refine hK8 _ _ ?_
  refine szq hp (fun _ hZ => zsw hZ) ?_
  refine zaa fun K10 hK10 => ?_
  refine szq hp (fun _ hZ => zfh hZ) ?_
  refine zac ?_
  refine zan hp (fun τ' H' mm => ∃ (j : Nat), (j ≤ n.drive.length) ∧ mm = n.drive.length - j ∧ H' = [.cells (avs ((zo5 n inp mems k.toNat j).map iD))] ∧ τ' = frL [(10, .d (boolsD (zpf n inp mems))), (11, .d (boolsD (zpf n (zp3 inp k.toNat) mems))), (12, .os 1 0 0 (zo5 n inp mems k.toNat j).length), (42, .d (iD n.drive.length)), (43, .d (iD j))]) (n.drive.length) ?_ ⟨0, Nat.zero_le _, rfl, rfl, rfl⟩ ?_
  ·refine Rt.trans (Rt.nil 12 1 rfl) ?_
   refine jjy [1] ?_
   refine jhw ?_
   exact jvw
  rintro τ' H' mm ⟨j, hj, rfl, rfl, rfl⟩
  refine szq hp (fun _ hZ => zfh hZ) ?_
  refine zaa fun K13 hK13 => ?_
  refine zah rfl (fun ht => ?_) (fun ht => ?_)
  ·have hl1 := zbk n inp mems
   have hlt : j < n.drive.length := by simp at ht; omega
   have hl2 := zbk n (zp3 inp k.toNat) mems
   have hsl := zsv n inp mems k.toNat j
   refine zaf (hK13 _ _ ?_)
   refine zaa fun K14 hK14 => ?_
   refine zac ?_
   refine szq hp (fun _ hZ => zsw hZ) ?_
   refine zas zai hc za8 rfl (q := 0) (by kernel_rfl) (by kernel_rfl) fun K16 hK16 => ?_
   refine zfh ?_
   refine hK16 _ _ ?_
   refine zah rfl (fun ht => ?_) (fun ht => ?_)
   ·have hs := zi8 n inp mems k.toNat j
    rw [if_pos ht] at hs
    refine szs hp (fun _ hZ => zfh hZ) (hK14 _ _ ?_)
    refine za5 hp zai hc rfl fun K18 hK18 => ?_
    refine zfh ?_
    refine hK18 _ _ ⟨_, _, _, ?_, ⟨j + 1, by omega, rfl, rfl, rfl⟩, ?_⟩
    ·first | omega | (simp only [List.length_cons]; omega) | (dsimp only; omega)
    ·refine jjy [2] ?_
     refine jhw ?_
     refine jvv ?_; rw [hs]; simp [iD]
   ·have hs := zi8 n inp mems k.toNat j
    rw [if_neg (by rw [ht]; simp), List.append_nil] at hs
    refine zaf (hK14 _ _ ?_)
    refine za5 hp zai hc rfl fun K19 hK19 => ?_
    refine zfh ?_
    refine hK19 _ _ ⟨_, _, _, ?_, ⟨j + 1, by omega, rfl, rfl, rfl⟩, ?_⟩
    ·first | omega | (simp only [List.length_cons]; omega) | (dsimp only; omega)
    ·refine jjy [0] ?_
     refine jhw ?_
     refine jvv ?_; rw [hs]
  ·have hge : j = n.drive.length := by have := zbk n inp mems; simp at ht; omega
   refine zau (hK10 _ _ ?_)
   refine szq hp (fun _ hZ => zsw hZ) ?_
   refine zal ?_
   show closeA _ _ = _
   refine jra ?_
   unfold zkx; rw [if_pos (by omega), hge]
end Go.Proofs.Ytapjobndmmkanaa
