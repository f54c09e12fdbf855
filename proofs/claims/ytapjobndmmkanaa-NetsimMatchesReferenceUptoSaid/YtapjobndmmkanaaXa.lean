/- The reference's simulation of nets: bits, sets, words. -/
import Derived.Test.YtapjobndmmkanaaQr
import Derived.Test.YtapjobndmmkanaaOh
set_option linter.unusedVariables false
set_option linter.unusedSimpArgs false
set_option maxRecDepth 100000
set_option maxHeartbeats 4000000
namespace Go.Proofs.Ytapjobndmmkanaa
open Go Go.RowKit
theorem jbm : (((((type_of% @zev) ∧ (type_of% @zew)) ∧ ((type_of% @zuk) ∧ ((type_of% @zho) ∧ (type_of% @zmr)))) ∧ (((type_of% @zib) ∧ (type_of% @zfp)) ∧ ((type_of% @zfq) ∧ ((type_of% @zgz) ∧ (type_of% @zgp))))) ∧ ((((type_of% @zic) ∧ (type_of% @zgy)) ∧ ((type_of% @zq0) ∧ ((type_of% @zq1) ∧ (type_of% @zgq)))) ∧ (((type_of% @zhv) ∧ (type_of% @zlh)) ∧ ((type_of% @zdc) ∧ ((type_of% @zdd) ∧ (type_of% @zdh)))))) := ⟨⟨⟨⟨@zev, @zew⟩, ⟨@zuk, ⟨@zho, @zmr⟩⟩⟩, ⟨⟨@zib, @zfp⟩, ⟨@zfq, ⟨@zgz, @zgp⟩⟩⟩⟩, ⟨⟨⟨@zic, @zgy⟩, ⟨@zq0, ⟨@zq1, @zgq⟩⟩⟩, ⟨⟨@zhv, @zlh⟩, ⟨@zdc, ⟨@zdd, @zdh⟩⟩⟩⟩⟩
theorem jvm (v b : Int) (h0 : 0 ≤ b) (h7 : b ≤ 7) : zaz Try.prog 48 [iD v, iD b] (.d (oD (ji6 v b))) := by
 have hu : IntKind.u64.wrap b = b := zwd (by omega) (by omega)
 refine zaw (fn := Try.f48) (by kernel_rfl) Try.func48 rfl (Nat.le_of_ble_eq_true rfl) fun c hc hp => ?_
 refine za0 (τ' := frL [(0, .d (iD v)), (1, .d (iD b))]) (by repeat (first | exact zar _ | refine zam ?_ (by first | rfl | (simp [r_f]; done) | simp [r_f, *]))) ?_
 refine zag hp zai hc rfl fun K1 hK1 => ?_
 simp -dsimp -implicitDefEqProofs (disch := first | assumption | omega | (simp only [r_z] <;> omega) | decide) only [r_r, ↓reduceIte, Nat.reduceEqDiff, Nat.reduceAdd, D.fix, Int.reduceToNat, Nat.reduceMul, Nat.reduceBNe, Nat.reduceBEq]
 refine hK1 _ _ ?_
 refine zag hp zai hc rfl fun K2 hK2 => ?_
 simp -dsimp -implicitDefEqProofs (disch := first | assumption | omega | (simp only [r_z] <;> omega) | decide) only [r_r, ↓reduceIte, Nat.reduceEqDiff, Nat.reduceAdd, D.fix, Int.reduceToNat, Nat.reduceMul, Nat.reduceBNe, Nat.reduceBEq, hu, jbm]
 refine hK2 _ _ ?_
 refine zal ?_
 show closeA _ _ = _
 simp (disch := first | assumption | omega | (simp only [r_z] <;> omega) | decide) only [r_c, Nat.reduceAdd, D.fix, ↓reduceIte, Nat.reduceEqDiff]
 rfl
theorem jjr {out : List Wire} {v : List Bool} {kind i : Int} {k m : Nat} (h : k ≤ m) (hs : zj5 out v kind i k = true) : zj5 out v kind i m = true := by
 induction m with
 | zero =>
   have : k = 0 := by omega
   subst this; exact hs
 | succ m ih =>
  by_cases e : k = m + 1
  ·subst e; exact hs
  ·rw [zj5, ih (by omega)]; simp
theorem jfy {p q : Prop} (hq : q) (h : p = q := by
 conv => lhs; simp -dsimp -implicitDefEqProofs (disch := first | assumption | omega | (simp only [r_z, zab] <;> omega) | decide) only [r_r, ↓reduceIte, Nat.reduceEqDiff, Nat.reduceAdd, D.fix, Int.reduceToNat, Nat.reduceMul, Nat.reduceBNe, Nat.reduceBEq, zby, zb1, zao, zaj, boolsD, zjs, zjt, zay, jbm]) : p := h.mpr hq
theorem jo9 {p q : Prop} (hq : q) (h : p = q := by
 conv => lhs; simp -dsimp -implicitDefEqProofs (disch := first | assumption | omega | (simp only [r_z, zab] <;> omega) | decide) only [r_r, ↓reduceIte, Nat.reduceEqDiff, Nat.reduceAdd, D.fix, Int.reduceToNat, Nat.reduceMul, Nat.reduceBNe, Nat.reduceBEq, zby, zb1, zao, zaj, boolsD, zjs, zjt, zay]) : p := h.mpr hq
theorem jcc {m : List Nat} {τ τ' : Fr} {H H' : zad} (h2 : H = H') (h : zgu τ τ' := by
 repeat (first | exact zar _ | refine zam ?_ (by first | rfl | (simp [r_f, zab]; done) | simp [r_f, zab, *]))) : Rt m τ H τ' H' := Rt.end h h2
theorem jpa {p q r : Prop} (e : r) (hq : q) (h : r → p = q := by
 intro hY
 conv => lhs; simp -dsimp -implicitDefEqProofs (disch := first | assumption | omega | (simp only [r_z, zab] <;> omega) | decide) only [r_r, ↓reduceIte, Nat.reduceEqDiff, Nat.reduceAdd, D.fix, Int.reduceToNat, Nat.reduceMul, Nat.reduceBNe, Nat.reduceBEq, zby, zb1, zao, zaj, boolsD, zjs, zjt, zay, jbm, hY]) : p := (h e).mpr hq
theorem jna (k : List Nat) {m : List Nat} {τ τ1 : Fr} {H H1 : zad} (h : Rt m (fun t => gcV k (τ t)) (gcH k H) τ1 H1) (a : ∀ i ∈ m, k[i]? = some i := by decide) (b : k.Nodup := by decide) (c : ∀ i ∈ k, i < H.length := by
 simp [fzH, gcH]) : Rt m τ H τ1 H1 := Rt.trans (Rt.gc a b c) h
theorem jye {p : Prop} (h : p := by
 first | rfl | (simp only [r_g, Nat.reduceAdd, ↓reduceIte, Nat.reduceEqDiff, zby, zb1, zao, zaj, boolsD, zjs, zjt, zay]; first | done | rfl)) : p := h
theorem ya8 {p q : Prop} (hq : q) (h : p = q := by
 conv => lhs; simp (disch := first | assumption | omega | (simp only [r_z, zab] <;> omega) | decide) only [r_c, Nat.reduceAdd, D.fix, ↓reduceIte, Nat.reduceEqDiff, zby, zb1, zao, zaj, boolsD, zjs, zjt, zay]) : p := h.mpr hq
theorem jvn (n : Net) (v : List Bool) (kind i : Int) (h1 : n.out.length ≤ 1000000) (h2 : n.out.length ≤ v.length) : zaz Try.prog 52 [zby n, boolsD v, .agg [iD kind, iD i]] (.d (oD (zj5 n.out v kind i n.out.length))) := by
 refine zaw (fn := Try.f52) (by kernel_rfl) Try.func52 rfl (Nat.le_of_ble_eq_true rfl) fun c hc hp => ?_
 refine za0 (τ' := frL [(0, .d (zby n)), (1, .d (boolsD v)), (2, .d (.agg [iD kind, iD i]))]) (by repeat (first | exact zar _ | refine zam ?_ (by first | rfl | (simp [r_f, zab]; done) | simp [r_f, zab, *]))) ?_
 refine szq hp (fun _ hZ => jfy hZ) ?_
 refine zaa fun K2 hK2 => ?_
 refine szq hp (fun _ hZ => jo9 hZ) ?_
 refine zac ?_
 refine zan hp (fun τ' H' mm => ∃ (k : Nat), (k ≤ n.out.length ∧ zj5 n.out v kind i k = false) ∧ mm = n.out.length - k ∧ H' = [.cells (avs (zb1 n)), .cells [.d (iD kind), .d (iD i)]] ∧ τ' = frL [(1, .d (boolsD v)), (3, .op 0 0), (5, .op 1 0), (7, .d (iD k))]) (n.out.length) ?_ ⟨0, ⟨Nat.zero_le _, rfl⟩, rfl, rfl, rfl⟩ ?_
 ·refine jcc ?_
  exact jye
 rintro τ' H' mm ⟨k, ⟨hk, hs⟩, rfl, rfl, rfl⟩
 refine zaa fun K4 hK4 => ?_
 refine szq hp (fun _ hZ => jfy hZ) ?_
 refine zah rfl (fun ht => ?_) (fun ht => ?_)
 ·have hlt : k < n.out.length := by simp at ht; omega
  have hlv : k < v.length := by omega
  refine zaf (hK4 _ _ ?_)
  refine zaa fun K6 hK6 => ?_
  refine zac ?_
  refine zas zai hc za8 rfl (q := 0) (by kernel_rfl) (by kernel_rfl) fun K7 hK7 => ?_
  rcases (show (nth n.out k).kind ≠ kind ∨ ((nth n.out k).kind = kind ∧ (nth n.out k).i ≠ i) ∨ ((nth n.out k).kind = kind ∧ (nth n.out k).i = i) by by_cases a : (nth n.out k).kind = kind <;> by_cases b : (nth n.out k).i = i <;> simp [a, b]) with q | ⟨q, q'⟩ | ⟨q, q'⟩
  ·have e1 : ((nth n.out k).kind == kind) = false := by simpa using q
   have e2 := e1
   have eh : zs9 (nth n.out k) kind i = false := by simp [zs9, q]
   refine jpa (sza e1 e2) ?_
   refine hK7 _ _ ?_
   refine szf ?_
   refine zaf (hK6 _ _ ?_)
   refine za5 hp zai hc rfl fun K8 hK8 => ?_
   refine jfy ?_
   refine hK8 _ _ ⟨_, _, _, ?_, ⟨k + 1, ⟨by omega, by rw [zj5, hs, eh]; simp⟩, rfl, rfl, rfl⟩, ?_⟩
   ·first | omega | (simp only [List.length_cons]; omega) | (dsimp only; omega)
   ·refine jna [0,1] ?_
    refine jcc ?_
    exact jye
  ·have e1 : ((nth n.out k).kind == kind) = true := by simpa using q
   have e2 : ((nth n.out k).i == i) = false := by simpa using q'
   have eh : zs9 (nth n.out k) kind i = false := by simp [zs9, q']
   refine jpa (sza e1 e2) ?_
   refine hK7 _ _ ?_
   refine szf ?_
   refine zaf (hK6 _ _ ?_)
   refine za5 hp zai hc rfl fun K9 hK9 => ?_
   refine jfy ?_
   refine hK9 _ _ ⟨_, _, _, ?_, ⟨k + 1, ⟨by omega, by rw [zj5, hs, eh]; simp⟩, rfl, rfl, rfl⟩, ?_⟩
   ·first | omega | (simp only [List.length_cons]; omega) | (dsimp only; omega)
   ·refine jna [0,1] ?_
    refine jcc ?_
    exact jye
  ·have e1 : ((nth n.out k).kind == kind) = true := by simpa using q
   have e2 : ((nth n.out k).i == i) = true := by simpa using q'
   have eh : zs9 (nth n.out k) kind i = true := by simp [zs9, q, q']
   refine jpa (sza e1 e2) ?_
   refine hK7 _ _ ?_
   refine zah rfl (fun ht => ?_) (fun ht => ?_)
   ·have hsm : zj5 n.out v kind i n.out.length = true := jjr (k := k + 1) (by omega) (by rw [zj5, eh, ht]; simp)
    refine szq hp (fun _ hZ => jo9 hZ) ?_
    refine zal ?_
    show closeA _ _ = _
    refine ya8 ?_
    rw [hsm]
   ·refine zaf (hK6 _ _ ?_)
    refine za5 hp zai hc rfl fun K11 hK11 => ?_
    refine jfy ?_
    refine hK11 _ _ ⟨_, _, _, ?_, ⟨k + 1, ⟨by omega, by rw [zj5, hs, eh, ht]; rfl⟩, rfl, rfl, rfl⟩, ?_⟩
    ·first | omega | (simp only [List.length_cons]; omega) | (dsimp only; omega)
    ·refine jna [0,1] ?_
     refine jcc ?_
     exact jye
 ·have hkk : k = n.out.length := by simp at ht; omega
  subst hkk
  refine zau (hK2 _ _ ?_)
  refine szq hp (fun _ hZ => jo9 hZ) ?_
  refine zal ?_
  show closeA _ _ = _
  refine ya8 ?_
  rw [hs]
theorem jbn {p q : Prop} (hq : q) (h : p = q := by
 conv => lhs; simp -dsimp -implicitDefEqProofs (disch := first | assumption | omega | (simp only [r_z, zab] <;> omega) | decide) only [r_r, ↓reduceIte, Nat.reduceEqDiff, Nat.reduceAdd, D.fix, Int.reduceToNat, Nat.reduceMul, Nat.reduceBNe, Nat.reduceBEq, zby, zb1, zao, zaj, boolsD, zjs, zjt, zuw, zay, jbm]) : p := h.mpr hq
theorem jpb {p q : Prop} (hq : q) (h : p = q := by
 conv => lhs; simp -dsimp -implicitDefEqProofs (disch := first | assumption | omega | (simp only [r_z, zab] <;> omega) | decide) only [r_r, ↓reduceIte, Nat.reduceEqDiff, Nat.reduceAdd, D.fix, Int.reduceToNat, Nat.reduceMul, Nat.reduceBNe, Nat.reduceBEq, zby, zb1, zao, zaj, boolsD, zjs, zjt, zuw, zay]) : p := h.mpr hq
theorem jjs {p q r : Prop} (e : r) (hq : q) (h : r → p = q := by
 intro hY
 conv => lhs; simp -dsimp -implicitDefEqProofs (disch := first | assumption | omega | (simp only [r_z, zab] <;> omega) | decide) only [r_r, ↓reduceIte, Nat.reduceEqDiff, Nat.reduceAdd, D.fix, Int.reduceToNat, Nat.reduceMul, Nat.reduceBNe, Nat.reduceBEq, zby, zb1, zao, zaj, boolsD, zjs, zjt, zuw, zay, jbm, hY]) : p := (h e).mpr hq
theorem jvo {p : Prop} (h : p := by
 first | rfl | (simp only [r_g, Nat.reduceAdd, ↓reduceIte, Nat.reduceEqDiff, zby, zb1, zao, zaj, boolsD, zjs, zjt, zuw, zay]; first | done | rfl)) : p := h
theorem jpc (n : Net) (v : List Bool) (kind i : Int) (h1 : n.out.length ≤ 1000000) (h2 : n.out.length ≤ v.length) (hw : ∀ w ∈ n.out, WireOut w) : zaz Try.prog 51 [zby n, boolsD v, .agg [iD kind, iD i]] (.d (iD (zc9 n.out v kind i n.out.length))) := by
 refine zaw (fn := Try.f51) (by kernel_rfl) Try.func51 rfl (Nat.le_of_ble_eq_true rfl) fun c hc hp => ?_
 refine za0 (τ' := frL [(0, .d (zby n)), (1, .d (boolsD v)), (2, .d (.agg [iD kind, iD i]))]) (by repeat (first | exact zar _ | refine zam ?_ (by first | rfl | (simp [r_f, zab]; done) | simp [r_f, zab, *]))) ?_
 refine szq hp (fun _ hZ => jbn hZ) ?_
 refine szq hp (fun _ hZ => jpb hZ) ?_
 refine zaa fun K3 hK3 => ?_
 refine szq hp (fun _ hZ => jpb hZ) ?_
 refine zac ?_
 refine zan hp (fun τ' H' mm => ∃ (k : Nat), (k ≤ n.out.length) ∧ mm = n.out.length - k ∧ H' = [.cells (avs (zb1 n)), .cells [.d (iD kind), .d (iD i)]] ∧ τ' = frL [(1, .d (boolsD v)), (3, .op 0 0), (5, .op 1 0), (7, .d (iD (zc9 n.out v kind i k))), (8, .d (iD k))]) (n.out.length) ?_ ⟨0, Nat.zero_le _, rfl, rfl, rfl⟩ ?_
 ·refine jcc ?_
  exact jvo
 rintro τ' H' mm ⟨k, hk, rfl, rfl, rfl⟩
 refine zaa fun K5 hK5 => ?_
 refine szq hp (fun _ hZ => jbn hZ) ?_
 refine zah rfl (fun ht => ?_) (fun ht => ?_)
 ·have hlt : k < n.out.length := by simp at ht; omega
  have hlv : k < v.length := by omega
  have hwk := hw _ (zb0 hlt)
  have hb0 := hwk.b0; have hb7 := hwk.b7
  have hu : IntKind.u64.wrap (nth n.out k).bit = (nth n.out k).bit := zwd (by omega) (by omega)
  refine zaf (hK5 _ _ ?_)
  refine zaa fun K7 hK7 => ?_
  refine zac ?_
  refine zas zai hc za8 rfl (q := 0) (by kernel_rfl) (by kernel_rfl) fun K8 hK8 => ?_
  rcases (show (nth n.out k).kind ≠ kind ∨ ((nth n.out k).kind = kind ∧ (nth n.out k).i ≠ i) ∨ ((nth n.out k).kind = kind ∧ (nth n.out k).i = i) by by_cases a : (nth n.out k).kind = kind <;> by_cases b : (nth n.out k).i = i <;> simp [a, b]) with q | ⟨q, q'⟩ | ⟨q, q'⟩
  ·have e1 : ((nth n.out k).kind == kind) = false := by simpa using q
   have e2 := e1
   have eh : zs9 (nth n.out k) kind i = false := by simp [zs9, q]
   refine jjs (sza e1 e2) ?_
   refine hK8 _ _ ?_
   refine szf ?_
   have ew : zc9 n.out v kind i (k + 1) = zc9 n.out v kind i k := by rw [zc9, eh]; simp
   refine zaf (hK7 _ _ ?_)
   refine za5 hp zai hc rfl fun K9 hK9 => ?_
   refine jbn ?_
   refine hK9 _ _ ⟨_, _, _, ?_, ⟨k + 1, by omega, rfl, rfl, rfl⟩, ?_⟩
   ·first | omega | (simp only [List.length_cons]; omega) | (dsimp only; omega)
   ·refine jna [0,1] ?_
    refine jcc ?_
    exact jvo
  ·have e1 : ((nth n.out k).kind == kind) = true := by simpa using q
   have e2 : ((nth n.out k).i == i) = false := by simpa using q'
   have eh : zs9 (nth n.out k) kind i = false := by simp [zs9, q']
   refine jjs (sza e1 e2) ?_
   refine hK8 _ _ ?_
   refine szf ?_
   have ew : zc9 n.out v kind i (k + 1) = zc9 n.out v kind i k := by rw [zc9, eh]; simp
   refine zaf (hK7 _ _ ?_)
   refine za5 hp zai hc rfl fun K10 hK10 => ?_
   refine jbn ?_
   refine hK10 _ _ ⟨_, _, _, ?_, ⟨k + 1, by omega, rfl, rfl, rfl⟩, ?_⟩
   ·first | omega | (simp only [List.length_cons]; omega) | (dsimp only; omega)
   ·refine jna [0,1] ?_
    refine jcc ?_
    exact jvo
  ·have e1 : ((nth n.out k).kind == kind) = true := by simpa using q
   have e2 : ((nth n.out k).i == i) = true := by simpa using q'
   have eh : zs9 (nth n.out k) kind i = true := by simp [zs9, q, q']
   refine jjs (sza e1 e2) ?_
   refine hK8 _ _ ?_
   refine zah rfl (fun ht => ?_) (fun ht => ?_)
   ·have ew : zc9 n.out v kind i (k + 1) = zvp .or .i64 (zc9 n.out v kind i k) (jjj (nth n.out k).bit) := by rw [zc9, eh, ht]; simp
    unfold jjj at ew
    refine szs hp (fun _ hZ => jjs hu hZ) (hK7 _ _ ?_)
    refine za5 hp zai hc rfl fun K12 hK12 => ?_
    refine jbn ?_
    refine hK12 _ _ ⟨_, _, _, ?_, ⟨k + 1, by omega, rfl, rfl, rfl⟩, ?_⟩
    ·first | omega | (simp only [List.length_cons]; omega) | (dsimp only; omega)
    ·refine jna [0,1] ?_
     refine jcc ?_
     exact jvo
   ·have ew : zc9 n.out v kind i (k + 1) = zc9 n.out v kind i k := by rw [zc9, eh, ht]; simp
    refine zaf (hK7 _ _ ?_)
    refine za5 hp zai hc rfl fun K13 hK13 => ?_
    refine jbn ?_
    refine hK13 _ _ ⟨_, _, _, ?_, ⟨k + 1, by omega, rfl, rfl, rfl⟩, ?_⟩
    ·first | omega | (simp only [List.length_cons]; omega) | (dsimp only; omega)
    ·refine jna [0,1] ?_
     refine jcc ?_
     exact jvo
 ·have hkk : k = n.out.length := by simp at ht; omega
  subst hkk
  refine zau (hK3 _ _ ?_)
  refine szq hp (fun _ hZ => jpb hZ) ?_
  refine zal ?_
  show closeA _ _ = _
  simp (disch := first | assumption | omega | (simp only [r_z, zab] <;> omega) | decide) only [r_c, Nat.reduceAdd, D.fix, ↓reduceIte, Nat.reduceEqDiff, zby, zb1, zao, zaj, boolsD, zjs, zjt, zuw, zay]
def jq9 (n : Net) (v : List Bool) : List Bool := n.drive.map fun x => nth v x.toNat
theorem jfz {p q : Prop} (hq : q) (h : p = q := by
 conv => lhs; simp -dsimp -implicitDefEqProofs (disch := first | assumption | omega | (simp only [r_z, zab] <;> omega) | decide) only [r_r, ↓reduceIte, Nat.reduceEqDiff, Nat.reduceAdd, D.fix, Int.reduceToNat, Nat.reduceMul, Nat.reduceBNe, Nat.reduceBEq, zby, zb1, zao, zaj, boolsD, intsD, zay, jbm]) : p := h.mpr hq
theorem jvp {p q : Prop} (hq : q) (h : p = q := by
 conv => lhs; simp -dsimp -implicitDefEqProofs (disch := first | assumption | omega | (simp only [r_z, zab] <;> omega) | decide) only [r_r, ↓reduceIte, Nat.reduceEqDiff, Nat.reduceAdd, D.fix, Int.reduceToNat, Nat.reduceMul, Nat.reduceBNe, Nat.reduceBEq, zby, zb1, zao, zaj, boolsD, intsD, zay]) : p := h.mpr hq
theorem ya9 {p : Prop} (h : p := by
 first | rfl | (simp only [r_g, Nat.reduceAdd, ↓reduceIte, Nat.reduceEqDiff, zby, zb1, zao, zaj, boolsD, intsD, zay]; first | done | rfl)) : p := h
theorem zlw (n : Net) (v : List Bool) (h3 : n.drive.length ≤ 1000000) (hd : DriveOk v.length n.drive) : zaz Try.prog 54 [zby n, boolsD v] (.d (boolsD (jq9 n v))) := by
 refine zaw (fn := Try.f54) (by kernel_rfl) Try.func54 rfl (Nat.le_of_ble_eq_true rfl) fun c hc hp => ?_
 refine za0 (τ' := frL [(0, .d (zby n)), (1, .d (boolsD v))]) (by repeat (first | exact zar _ | refine zam ?_ (by first | rfl | (simp [r_f, zab]; done) | simp [r_f, zab, *]))) ?_
 refine szq hp (fun _ hZ => jfz hZ) ?_
 refine szq hp (fun _ hZ => jfz hZ) ?_
 refine zaa fun K3 hK3 => ?_
 refine szq hp (fun _ hZ => jvp hZ) ?_
 refine zac ?_
 refine zan hp (fun τ' H' mm => ∃ (k : Nat), (k ≤ n.drive.length) ∧ mm = n.drive.length - k ∧ H' = [.cells (avs (zb1 n)), .cells (avs (((n.drive.take k).map fun x => nth v x.toNat).map oD))] ∧ τ' = frL [(1, .d (boolsD v)), (2, .op 0 0), (5, .os 1 1 0 k), (6, .d (iD k))]) (n.drive.length) ?_ ⟨0, Nat.zero_le _, rfl, rfl, rfl⟩ ?_
 ·refine jcc ?_
  exact ya9
 rintro τ' H' mm ⟨k, hk, rfl, rfl, rfl⟩
 refine zaa fun K5 hK5 => ?_
 refine szq hp (fun _ hZ => jfz hZ) ?_
 refine zah rfl (fun ht => ?_) (fun ht => ?_)
 ·have hlt : k < n.drive.length := by simp at ht; omega
  have hdk := hd k hlt
  have hd0 := hdk.1; have hd1 := hdk.2
  have hlv : (nth n.drive k).toNat < v.length := by omega
  have hlk : ((n.drive.take k).map fun x => nth v x.toNat).length = k := by simp; omega
  refine zaf (hK5 _ _ ?_)
  refine zaa fun K7 hK7 => ?_
  refine zac ?_
  refine szs hp (fun _ hZ => jfz hZ) (hK7 _ _ ?_)
  refine za5 hp zai hc rfl fun K9 hK9 => ?_
  refine jfz ?_
  refine hK9 _ _ ⟨_, _, _, ?_, ⟨k + 1, by omega, rfl, rfl, rfl⟩, ?_⟩
  ·first | omega | (simp only [List.length_cons]; omega) | (dsimp only; omega)
  ·refine jna [0,3] ?_
   refine jcc ?_
   simp only [r_g, Nat.reduceAdd, ↓reduceIte, Nat.reduceEqDiff, zby, zb1, zao, zaj, boolsD, intsD, zay]; simp [zeu hlt, oD, zb1, avs, zao, zaj, intsD]
 ·have hkk : k = n.drive.length := by simp at ht; omega
  subst hkk
  refine zau (hK3 _ _ ?_)
  refine zbg hp (τ' := frL [(5, .d (.fs (((n.drive.take n.drive.length).map fun x => nth v x.toNat).map oD) n.drive.length))]) (H' := [.cells (avs (zb1 n)), .dead]) ?_ ?_
  ·refine Rt.trans (Rt.fz (id := 1) (l := (((n.drive.take n.drive.length).map fun x => nth v x.toNat).map oD)) rfl) ?_
   refine Rt.trans (Rt.slot 5 (zee (za2 (by first | rfl | simp)))) ?_
   refine jcc ?_
   exact ya9
  refine szq hp (fun _ hZ => jvp hZ) ?_
  refine zal ?_
  show closeA _ _ = _
  simp (disch := first | assumption | omega | (simp only [r_z, zab] <;> omega) | decide) only [r_c, Nat.reduceAdd, D.fix, ↓reduceIte, Nat.reduceEqDiff, zby, zb1, zao, zaj, boolsD, intsD, zay]
  have e : boolsD (jq9 n v) = .fs (((n.drive.take n.drive.length).map fun x => nth v x.toNat).map oD) n.drive.length := by unfold boolsD jq9; rw [List.take_length, List.length_map]
  first | (rw [e]; done) | (rw [e]; rfl) | (exact congrArg (fun x => some (AV.d x)) e.symm) | (simp [boolsD, jq9]; done)
end Go.Proofs.Ytapjobndmmkanaa
