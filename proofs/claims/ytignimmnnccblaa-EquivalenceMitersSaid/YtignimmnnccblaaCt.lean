/- The reference's small functions: equal lists and diagrams, assignments, inputs, memories, shapes. -/
import Derived.Test.YtignimmnnccblaaQr
import Derived.Test.YtignimmnnccblaaCo
import Derived.Test.YtignimmnnccblaaDb
set_option linter.unusedVariables false
set_option linter.unusedSimpArgs false
set_option maxRecDepth 100000
set_option maxHeartbeats 4000000
namespace Go.Proofs.Ytignimmnnccblaa
open Go Go.RowKit
theorem zk0 : ((((((type_of% @zkk) ∧ (type_of% @zkl)) ∧ ((type_of% @zkm) ∧ (type_of% @zkn))) ∧ (((type_of% @zex) ∧ (type_of% @zey)) ∧ ((type_of% @zfa) ∧ (type_of% @zmk)))) ∧ ((((type_of% @zml) ∧ (type_of% @zq4)) ∧ ((type_of% @zds) ∧ (type_of% @zdt))) ∧ (((type_of% @zlz) ∧ (type_of% @zl0)) ∧ ((type_of% @zcr) ∧ ((type_of% @zcs) ∧ (type_of% @ze4)))))) ∧ (((((type_of% @ze5) ∧ (type_of% @ze6)) ∧ ((type_of% @ze7) ∧ (type_of% @zhq))) ∧ (((type_of% @zhr) ∧ (type_of% @zc6)) ∧ ((type_of% @zc7) ∧ ((type_of% @zfq) ∧ (type_of% @zfr))))) ∧ ((((type_of% @zfs) ∧ (type_of% @zft)) ∧ ((type_of% @zfu) ∧ (type_of% @zfv))) ∧ (((type_of% @zfw) ∧ (type_of% @zfx)) ∧ ((type_of% @zkr) ∧ ((type_of% @zks) ∧ (type_of% @zkt))))))) := ⟨⟨⟨⟨⟨@zkk, @zkl⟩, ⟨@zkm, @zkn⟩⟩, ⟨⟨@zex, @zey⟩, ⟨@zfa, @zmk⟩⟩⟩, ⟨⟨⟨@zml, @zq4⟩, ⟨@zds, @zdt⟩⟩, ⟨⟨@zlz, @zl0⟩, ⟨@zcr, ⟨@zcs, @ze4⟩⟩⟩⟩⟩, ⟨⟨⟨⟨@ze5, @ze6⟩, ⟨@ze7, @zhq⟩⟩, ⟨⟨@zhr, @zc6⟩, ⟨@zc7, ⟨@zfq, @zfr⟩⟩⟩⟩, ⟨⟨⟨@zfs, @zft⟩, ⟨@zfu, @zfv⟩⟩, ⟨⟨@zfw, @zfx⟩, ⟨@zkr, ⟨@zks, @zkt⟩⟩⟩⟩⟩⟩
theorem jd7 (a b : List Bool) (ha : a.length ≤ maxLen) : za9 Try.prog 14 [boolsD a, boolsD b] (.d (oD (decide (a = b)))) := by
 refine zbc (fn := Try.f14) (by kernel_rfl) Try.func14 rfl (Nat.le_of_ble_eq_true rfl) fun c hc hp => ?_
 refine zbf (τ' := frL [(0, .d (boolsD a)), (1, .d (boolsD b))]) (by repeat (first | exact zak _ | refine zah ?_ (by first | rfl | (simp [r_f]; done) | simp [r_f, *]))) ?_
 unfold maxLen at ha
 refine zac hp zaj hc rfl fun K1 hK1 => ?_
 simp -dsimp -implicitDefEqProofs (disch := first | assumption | omega | (simp only [r_z] <;> omega) | decide) only [r_r, ↓reduceIte, Nat.reduceEqDiff, Nat.reduceAdd, D.fix, Int.reduceToNat, Nat.reduceMul, Nat.reduceBNe, Nat.reduceBEq]
 refine hK1 _ _ ?_
 refine zam fun K2 hK2 => ?_
 refine zac hp zaj hc rfl fun K3 hK3 => ?_
 simp -dsimp -implicitDefEqProofs (disch := first | assumption | omega | (simp only [r_z] <;> omega) | decide) only [r_r, ↓reduceIte, Nat.reduceEqDiff, Nat.reduceAdd, D.fix, Int.reduceToNat, Nat.reduceMul, Nat.reduceBNe, Nat.reduceBEq, zk0]
 refine hK3 _ _ ?_
 refine zaq rfl (fun ht => ?_) (fun ht => ?_)
 ·have hne : a ≠ b := fun e => by subst e; simp at ht
  refine zac hp zaj hc rfl fun K4 hK4 => ?_
  simp -dsimp -implicitDefEqProofs (disch := first | assumption | omega | (simp only [r_z] <;> omega) | decide) only [r_r, ↓reduceIte, Nat.reduceEqDiff, Nat.reduceAdd, D.fix, Int.reduceToNat, Nat.reduceMul, Nat.reduceBNe, Nat.reduceBEq]
  refine hK4 _ _ ?_
  refine za4 ?_
  show closeA _ _ = _
  simp (disch := first | assumption | omega | (simp only [r_z] <;> omega) | decide) only [r_c, Nat.reduceAdd, D.fix, ↓reduceIte, Nat.reduceEqDiff]
  simp [hne]
 ·have hl : a.length = b.length := by simp at ht; omega
  refine zay (hK2 _ _ ?_)
  refine zam fun K5 hK5 => ?_
  refine zac hp zaj hc rfl fun K6 hK6 => ?_
  simp -dsimp -implicitDefEqProofs (disch := first | assumption | omega | (simp only [r_z] <;> omega) | decide) only [r_r, ↓reduceIte, Nat.reduceEqDiff, Nat.reduceAdd, D.fix, Int.reduceToNat, Nat.reduceMul, Nat.reduceBNe, Nat.reduceBEq]
  refine hK6 _ _ ?_
  refine zaz ?_
  refine za7 hp (fun τ' H' mm => ∃ k, (k ≤ a.length ∧ a.take k = b.take k) ∧ mm = a.length - k ∧ H' = [] ∧ τ' = frL [(5, .d (iD k)), (0, .d (boolsD a)), (1, .d (boolsD b))]) (a.length) ?_ ⟨0, ⟨Nat.zero_le _, rfl⟩, rfl, rfl, rfl⟩ ?_
  ·refine Rt.end (by repeat (first | exact zak _ | refine zah ?_ (by first | rfl | (simp [r_f]; done) | simp [r_f, *]))) ?_
   first | rfl | (simp only [r_g, Nat.reduceAdd, ↓reduceIte, Nat.reduceEqDiff]; first | done | rfl)
  rintro τ' H' mm ⟨k, ⟨hk, htake⟩, rfl, rfl, rfl⟩
  refine zam fun K7 hK7 => ?_
  refine zac hp zaj hc rfl fun K8 hK8 => ?_
  simp -dsimp -implicitDefEqProofs (disch := first | assumption | omega | (simp only [r_z] <;> omega) | decide) only [r_r, ↓reduceIte, Nat.reduceEqDiff, Nat.reduceAdd, D.fix, Int.reduceToNat, Nat.reduceMul, Nat.reduceBNe, Nat.reduceBEq, zk0]
  refine hK8 _ _ ?_
  refine zaq rfl (fun ht => ?_) (fun ht => ?_)
  ·have hlt : k < a.length := by simp at ht; omega
   have hlt2 : k < b.length := by omega
   refine zay (hK7 _ _ ?_)
   refine zam fun K9 hK9 => ?_
   refine zaz ?_
   refine zbn zaj hc mixed rfl (q := 0) (by kernel_rfl) (by kernel_rfl) fun K10 hK10 => ?_
   simp -dsimp -implicitDefEqProofs (disch := first | assumption | omega | (simp only [r_z] <;> omega) | decide) only [r_r, ↓reduceIte, Nat.reduceEqDiff, Nat.reduceAdd, D.fix, Int.reduceToNat, Nat.reduceMul, Nat.reduceBNe, Nat.reduceBEq, zk0]
   refine hK10 _ _ ?_
   refine zaq rfl (fun ht => ?_) (fun ht => ?_)
   ·have hne : a ≠ b := fun e => by subst e; simp at ht
    refine zac hp zaj hc rfl fun K11 hK11 => ?_
    simp -dsimp -implicitDefEqProofs (disch := first | assumption | omega | (simp only [r_z] <;> omega) | decide) only [r_r, ↓reduceIte, Nat.reduceEqDiff, Nat.reduceAdd, D.fix, Int.reduceToNat, Nat.reduceMul, Nat.reduceBNe, Nat.reduceBEq]
    refine hK11 _ _ ?_
    refine za4 ?_
    show closeA _ _ = _
    simp (disch := first | assumption | omega | (simp only [r_z] <;> omega) | decide) only [r_c, Nat.reduceAdd, D.fix, ↓reduceIte, Nat.reduceEqDiff]
    simp [hne]
   ·refine zay (hK9 _ _ ?_)
    refine zbo hp zaj hc rfl fun K12 hK12 => ?_
    simp -dsimp -implicitDefEqProofs (disch := first | assumption | omega | (simp only [r_z] <;> omega) | decide) only [r_r, ↓reduceIte, Nat.reduceEqDiff, Nat.reduceAdd, D.fix, Int.reduceToNat, Nat.reduceMul, Nat.reduceBNe, Nat.reduceBEq, zk0]
    refine hK12 _ _ ⟨_, _, _, ?_, ⟨k + 1, ⟨by omega, zlx hlt hlt2 htake (by simpa using ht)⟩, rfl, rfl, rfl⟩, ?_⟩
    ·first | omega | (simp only [List.length_cons]; omega) | (dsimp only; omega)
    ·refine Rt.end (by repeat (first | exact zak _ | refine zah ?_ (by first | rfl | (simp [r_f]; done) | simp [r_f, *]))) ?_
     first | rfl | (simp only [r_g, Nat.reduceAdd, ↓reduceIte, Nat.reduceEqDiff]; first | done | rfl)
  ·have hge : k = a.length := by simp at ht; omega
   have he : a = b := by rw [hge, List.take_length, hl, List.take_length] at htake; exact htake
   refine zbj (hK5 _ _ ?_)
   refine zac hp zaj hc rfl fun K13 hK13 => ?_
   simp -dsimp -implicitDefEqProofs (disch := first | assumption | omega | (simp only [r_z] <;> omega) | decide) only [r_r, ↓reduceIte, Nat.reduceEqDiff, Nat.reduceAdd, D.fix, Int.reduceToNat, Nat.reduceMul, Nat.reduceBNe, Nat.reduceBEq]
   refine hK13 _ _ ?_
   refine za4 ?_
   show closeA _ _ = _
   simp (disch := first | assumption | omega | (simp only [r_z] <;> omega) | decide) only [r_c, Nat.reduceAdd, D.fix, ↓reduceIte, Nat.reduceEqDiff]
   simp [he]
theorem juh (l : List Bool) (i : Nat) (hl : l.length ≤ maxLen) (hi : i ≤ 1000000) : za9 Try.prog 38 [boolsD l, iD i] (.d (oD (atB l i))) := by
 unfold maxLen at hl
 refine zbc (fn := Try.f38) (by kernel_rfl) Try.func38 rfl (Nat.le_of_ble_eq_true rfl) fun c hc hp => ?_
 refine zbf (τ' := frL [(0, .d (boolsD l)), (1, .d (iD i))]) (by repeat (first | exact zak _ | refine zah ?_ (by first | rfl | (simp [r_f]; done) | simp [r_f, *]))) ?_
 refine zac hp zaj hc rfl fun K1 hK1 => ?_
 simp -dsimp -implicitDefEqProofs (disch := first | assumption | omega | (simp only [r_z] <;> omega) | decide) only [r_r, ↓reduceIte, Nat.reduceEqDiff, Nat.reduceAdd, D.fix, Int.reduceToNat, Nat.reduceMul, Nat.reduceBNe, Nat.reduceBEq]
 refine hK1 _ _ ?_
 refine zac hp zaj hc rfl fun K2 hK2 => ?_
 by_cases h : i < l.length
 ·have q0 : decide ((0 : Int) ≤ i) = true := by simp
  have q1 : decide ((i : Int) < l.length) = true := by simp; omega
  have hx : atB l i = nth l i := by unfold atB; rw [decide_eq_true h]; rfl
  simp -dsimp -implicitDefEqProofs (disch := first | assumption | omega | (simp only [r_z] <;> omega) | decide) only [r_r, ↓reduceIte, Nat.reduceEqDiff, Nat.reduceAdd, D.fix, Int.reduceToNat, Nat.reduceMul, Nat.reduceBNe, Nat.reduceBEq, q0, q1, zcc, zk0]
  refine hK2 _ _ ?_
  refine za4 ?_
  show closeA _ _ = _
  simp (disch := first | assumption | omega | (simp only [r_z] <;> omega) | decide) only [r_c, Nat.reduceAdd, D.fix, ↓reduceIte, Nat.reduceEqDiff]
  rw [hx]
 ·have q0 : decide ((0 : Int) ≤ i) = true := by simp
  have q1 : decide ((i : Int) < l.length) = false := by simp; omega
  have hx : atB l i = false := by unfold atB; rw [decide_eq_false h]; rfl
  simp -dsimp -implicitDefEqProofs (disch := first | assumption | omega | (simp only [r_z] <;> omega) | decide) only [r_r, ↓reduceIte, Nat.reduceEqDiff, Nat.reduceAdd, D.fix, Int.reduceToNat, Nat.reduceMul, Nat.reduceBNe, Nat.reduceBEq, q0, q1, zcc, zk0]
  refine hK2 _ _ ?_
  refine za4 ?_
  show closeA _ _ = _
  simp (disch := first | assumption | omega | (simp only [r_z] <;> omega) | decide) only [r_c, Nat.reduceAdd, D.fix, ↓reduceIte, Nat.reduceEqDiff]
  rw [hx]
def zl2 (m : Nat) (l : List Bool) : List Bool := (List.range m).map (atB l)
theorem zt9 {α : Type} {f : Nat → α} {k : Nat} : (List.range (k + 1)).map f = (List.range k).map f ++ [f k] := by rw [List.range_succ, List.map_append]; rfl
theorem jgs (n : Net) (l : List Bool) (hl : l.length ≤ maxLen) (hi : n.ins.length ≤ 1000000) (hg : n.gates.length ≤ 1000000) : za9 Try.prog 21 [zas n, boolsD l] (.d (boolsD (zl2 n.ins.length l))) := by
 refine zbc (fn := Try.f21) (by kernel_rfl) Try.func21 rfl (Nat.le_of_ble_eq_true rfl) fun c hc hp => ?_
 refine zbf (τ' := frL [(0, .d (zas n)), (1, .d (boolsD l))]) (by repeat (first | exact zak _ | refine zah ?_ (by first | rfl | (simp [r_f, zaa]; done) | simp [r_f, zaa, *]))) ?_
 refine zac hp zaj hc rfl fun K1 hK1 => ?_
 simp -dsimp -implicitDefEqProofs (disch := first | assumption | omega | (simp only [r_z, zaa] <;> omega) | decide) only [r_r, ↓reduceIte, Nat.reduceEqDiff, Nat.reduceAdd, D.fix, Int.reduceToNat, Nat.reduceMul, Nat.reduceBNe, Nat.reduceBEq, zas, zax, zae, zaf, zk0]
 refine hK1 _ _ ?_
 refine zac hp zaj hc rfl fun K2 hK2 => ?_
 simp -dsimp -implicitDefEqProofs (disch := first | assumption | omega | (simp only [r_z, zaa] <;> omega) | decide) only [r_r, ↓reduceIte, Nat.reduceEqDiff, Nat.reduceAdd, D.fix, Int.reduceToNat, Nat.reduceMul, Nat.reduceBNe, Nat.reduceBEq, zas, zax, zae, zaf, zk0]
 refine hK2 _ _ ?_
 refine zam fun K3 hK3 => ?_
 refine zac hp zaj hc rfl fun K4 hK4 => ?_
 simp -dsimp -implicitDefEqProofs (disch := first | assumption | omega | (simp only [r_z, zaa] <;> omega) | decide) only [r_r, ↓reduceIte, Nat.reduceEqDiff, Nat.reduceAdd, D.fix, Int.reduceToNat, Nat.reduceMul, Nat.reduceBNe, Nat.reduceBEq, zas, zax, zae, zaf]
 refine hK4 _ _ ?_
 refine zaz ?_
 refine za7 hp (fun τ' H' mm => ∃ (k : Nat), (k ≤ n.ins.length) ∧ mm = n.ins.length - k ∧ H' = [.cells (avs (zax n)), .cells (avs ((zl2 k l).map oD))] ∧ τ' = frL [(1, .d (boolsD l)), (2, .op 0 0), (5, .os 1 1 0 k), (6, .d (iD k))]) (n.ins.length) ?_ ⟨0, Nat.zero_le _, rfl, rfl, rfl⟩ ?_
 ·refine Rt.end (by repeat (first | exact zak _ | refine zah ?_ (by first | rfl | (simp [r_f, zaa]; done) | simp [r_f, zaa, *]))) ?_
  simp only [r_g, Nat.reduceAdd, ↓reduceIte, Nat.reduceEqDiff, zas, zax, zae, zaf]; simp; rfl
 rintro τ' H' mm ⟨k, hk, rfl, rfl, rfl⟩
 refine zam fun K5 hK5 => ?_
 refine zac hp zaj hc rfl fun K6 hK6 => ?_
 simp -dsimp -implicitDefEqProofs (disch := first | assumption | omega | (simp only [r_z, zaa] <;> omega) | decide) only [r_r, ↓reduceIte, Nat.reduceEqDiff, Nat.reduceAdd, D.fix, Int.reduceToNat, Nat.reduceMul, Nat.reduceBNe, Nat.reduceBEq, zas, zax, zae, zaf, zk0]
 refine hK6 _ _ ?_
 refine zaq rfl (fun ht => ?_) (fun ht => ?_)
 ·have hlt : k < n.ins.length := by simp at ht; omega
  have hlen : (zl2 k l).length = k := by simp [zl2]
  refine zay (hK5 _ _ ?_)
  refine zam fun K7 hK7 => ?_
  refine zaz ?_
  refine zbo hp zaj hc rfl fun K8 hK8 => ?_
  simp -dsimp -implicitDefEqProofs (disch := first | assumption | omega | (simp only [r_z, zaa] <;> omega) | decide) only [r_r, ↓reduceIte, Nat.reduceEqDiff, Nat.reduceAdd, D.fix, Int.reduceToNat, Nat.reduceMul, Nat.reduceBNe, Nat.reduceBEq, zas, zax, zae, zaf, zk0]
  refine zb4 (juh l k hl (by omega)) rfl ?_
  simp -dsimp -implicitDefEqProofs (disch := first | assumption | omega | (simp only [r_z, zaa] <;> omega) | decide) only [r_r, ↓reduceIte, Nat.reduceEqDiff, Nat.reduceAdd, D.fix, Int.reduceToNat, Nat.reduceMul, Nat.reduceBNe, Nat.reduceBEq, zas, zax, zae, zaf, zk0]
  refine hK8 _ _ (hK7 _ _ ?_)
  refine zbo hp zaj hc rfl fun K9 hK9 => ?_
  simp -dsimp -implicitDefEqProofs (disch := first | assumption | omega | (simp only [r_z, zaa] <;> omega) | decide) only [r_r, ↓reduceIte, Nat.reduceEqDiff, Nat.reduceAdd, D.fix, Int.reduceToNat, Nat.reduceMul, Nat.reduceBNe, Nat.reduceBEq, zas, zax, zae, zaf, zk0]
  refine hK9 _ _ ⟨_, _, _, ?_, ⟨k + 1, by omega, rfl, rfl, rfl⟩, ?_⟩
  ·first | omega | (simp only [List.length_cons]; omega) | (dsimp only; omega)
  ·refine Rt.trans (Rt.gc (keep := [0,3]) (by decide) (by decide) (by simp [fzH, gcH])) ?_
   refine Rt.end (by repeat (first | exact zak _ | refine zah ?_ (by first | rfl | (simp [r_f, zaa]; done) | simp [r_f, zaa, *]))) ?_
   simp only [r_g, Nat.reduceAdd, ↓reduceIte, Nat.reduceEqDiff, zas, zax, zae, zaf]; simp [zl2, zt9, iD, oD]
 ·have hke : k = n.ins.length := by simp at ht; omega
  subst hke
  have hlen : (zl2 n.ins.length l).length = n.ins.length := by simp [zl2]
  refine zbj (hK3 _ _ ?_)
  refine zac hp zaj hc rfl fun K10 hK10 => ?_
  simp -dsimp -implicitDefEqProofs (disch := first | assumption | omega | (simp only [r_z, zaa] <;> omega) | decide) only [r_r, ↓reduceIte, Nat.reduceEqDiff, Nat.reduceAdd, D.fix, Int.reduceToNat, Nat.reduceMul, Nat.reduceBNe, Nat.reduceBEq, zas, zax, zae, zaf]
  refine hK10 _ _ ?_
  refine za4 ?_
  show closeA _ _ = _
  simp (disch := first | assumption | omega | (simp only [r_z, zaa] <;> omega) | decide) only [r_c, Nat.reduceAdd, D.fix, ↓reduceIte, Nat.reduceEqDiff, zas, zax, zae, zaf]
  simp [hlen]
theorem zqw (n : Net) (hi : n.ins.length ≤ 1000000) (hg : n.gates.length ≤ 1000000) : za9 Try.prog 18 [zas n] (.d (iD (2 + n.ins.length + n.gates.length))) := by
 refine zbc (fn := Try.f18) (by kernel_rfl) Try.func18 rfl (Nat.le_of_ble_eq_true rfl) fun c hc hp => ?_
 refine zbf (τ' := frL [(0, .d (zas n))]) (by repeat (first | exact zak _ | refine zah ?_ (by first | rfl | (simp [r_f, zaa, zab]; done) | simp [r_f, zaa, zab, *]))) ?_
 refine zac hp zaj hc rfl fun K1 hK1 => ?_
 simp -dsimp -implicitDefEqProofs (disch := first | assumption | omega | (simp only [r_z, zaa, zab] <;> omega) | decide) only [r_r, ↓reduceIte, Nat.reduceEqDiff, Nat.reduceAdd, D.fix, Int.reduceToNat, Nat.reduceMul, Nat.reduceBNe, Nat.reduceBEq, zas, zax, zae, zaf, zk0]
 refine hK1 _ _ ?_
 refine zac hp zaj hc rfl fun K2 hK2 => ?_
 simp -dsimp -implicitDefEqProofs (disch := first | assumption | omega | (simp only [r_z, zaa, zab] <;> omega) | decide) only [r_r, ↓reduceIte, Nat.reduceEqDiff, Nat.reduceAdd, D.fix, Int.reduceToNat, Nat.reduceMul, Nat.reduceBNe, Nat.reduceBEq, zas, zax, zae, zaf, zk0]
 refine hK2 _ _ ?_
 refine za4 ?_
 show closeA _ _ = _
 simp (disch := first | assumption | omega | (simp only [r_z, zaa, zab] <;> omega) | decide) only [r_c, Nat.reduceAdd, D.fix, ↓reduceIte, Nat.reduceEqDiff, zas, zax, zae, zaf]
def zx4 (n : Net) : List Int := (List.range (2 + n.ins.length + n.gates.length)).map fun (k : Nat) => (k : Int)
theorem za8 (n : Net) : (zx4 n).length = 2 + n.ins.length + n.gates.length := by simp [zx4]
end Go.Proofs.Ytignimmnnccblaa

/- The reference's assignments, memories, shapes; equal diagrams. -/
set_option linter.unusedVariables false
set_option linter.unusedSimpArgs false
set_option maxRecDepth 100000
set_option maxHeartbeats 4000000
namespace Go.Proofs.Ytignimmnnccblaa
open Go Go.RowKit
theorem zh3 : ((((((type_of% @zkk) ∧ (type_of% @zkl)) ∧ ((type_of% @zkm) ∧ (type_of% @zkn))) ∧ (((type_of% @zlz) ∧ (type_of% @zl0)) ∧ ((type_of% @zex) ∧ ((type_of% @zey) ∧ (type_of% @zfa))))) ∧ ((((type_of% @jpw) ∧ (type_of% @jpx)) ∧ ((type_of% @jpy) ∧ (type_of% @zhq))) ∧ (((type_of% @zhr) ∧ (type_of% @zds)) ∧ ((type_of% @zdt) ∧ ((type_of% @zsn) ∧ (type_of% @zso)))))) ∧ (((((type_of% @zsp) ∧ (type_of% @zsq)) ∧ ((type_of% @zcr) ∧ (type_of% @zcs))) ∧ (((type_of% @ze4) ∧ (type_of% @ze5)) ∧ ((type_of% @ze6) ∧ ((type_of% @ze7) ∧ (type_of% @zfu))))) ∧ ((((type_of% @zfv) ∧ (type_of% @zfw)) ∧ ((type_of% @zfx) ∧ ((type_of% @zde) ∧ (type_of% @zdf)))) ∧ (((type_of% @zdg) ∧ (type_of% @zdq)) ∧ ((type_of% @zkr) ∧ ((type_of% @zks) ∧ (type_of% @zkt))))))) := ⟨⟨⟨⟨⟨@zkk, @zkl⟩, ⟨@zkm, @zkn⟩⟩, ⟨⟨@zlz, @zl0⟩, ⟨@zex, ⟨@zey, @zfa⟩⟩⟩⟩, ⟨⟨⟨@jpw, @jpx⟩, ⟨@jpy, @zhq⟩⟩, ⟨⟨@zhr, @zds⟩, ⟨@zdt, ⟨@zsn, @zso⟩⟩⟩⟩⟩, ⟨⟨⟨⟨@zsp, @zsq⟩, ⟨@zcr, @zcs⟩⟩, ⟨⟨@ze4, @ze5⟩, ⟨@ze6, ⟨@ze7, @zfu⟩⟩⟩⟩, ⟨⟨⟨@zfv, @zfw⟩, ⟨@zfx, ⟨@zde, @zdf⟩⟩⟩, ⟨⟨@zdg, @zdq⟩, ⟨@zkr, ⟨@zks, @zkt⟩⟩⟩⟩⟩⟩
theorem jgt {keep : List Nat} {a : List D} {x : AV} : gcVs keep (avs a ++ [x]) = avs a ++ [gcV keep x] := by
 rw [zf4, List.map_append]
 congr 1
 rw [← zf4]; exact zpv
theorem jgu {id : Nat} {l : List D} {a : List D} {x : AV} : fzVs id l (avs a ++ [x]) = avs a ++ [fzV id l x] := by
 rw [zf5, List.map_append]
 congr 1
 rw [← zf5]; exact zpw
theorem jrf {id n : Nat} {l : List D} (h : l.length = n) : fzV id l (.os 1 id 0 n) = .d (.fs l n) := jb3 (by rw [Nat.mul_one]; exact zec h)
def zo4 (v : Nat) (i : Int) : List Bool := (List.range v).map fun (j : Nat) => jmp i ((v : Int) - 1 - j)
def zq5 (l : List Bool) (base : Nat) : Nat → Nat
 | 0 => 0
 | b + 1 => zq5 l base b + if atB l (base + b) then 2 ^ b else 0
theorem zx5 (l : List Bool) (base : Nat) : ∀ b, zq5 l base b < 2 ^ b
 | 0 => by simp [zq5]
 | b + 1 => by
  have := zx5 l base b
  have e : 2 ^ (b + 1) = 2 ^ b + 2 ^ b := by rw [Nat.pow_succ]; omega
  unfold zq5
  split <;> omega
def jgv (l : List Bool) (base : Nat) (p : Nat × Nat) : List Int := (List.range p.1).map fun j => (zq5 l (base + j * p.2) p.2 : Nat)
def zgz (base : Nat) (sh : Sh) (l : List Bool) : List (List Int) := (List.range sh.length).map fun i => jgv l (zbz base sh i) (nth sh i)
theorem jrg (n : Net) (sh : Sh) (l : List Bool) (hsh : ShOk sh) (hl : l.length ≤ maxLen) (hi : n.ins.length ≤ 10000) : za9 Try.prog 22 [zas n, shD sh, boolsD l] (.d (intssD (zgz n.ins.length sh l))) := by
 have hs8 := hsh.len
 refine zbc (fn := Try.f22) (by kernel_rfl) Try.func22 rfl (Nat.le_of_ble_eq_true rfl) fun c hc hp => ?_
 refine zbf (τ' := frL [(0, .d (zas n)), (1, .d (shD sh)), (2, .d (boolsD l))]) (by repeat (first | exact zak _ | refine zah ?_ (by first | rfl | (simp [r_f, zaa, zag, Int.add_assoc]; done) | simp [r_f, zaa, zag, Int.add_assoc, *]))) ?_
 refine zac hp zaj hc rfl fun K1 hK1 => ?_
 simp -dsimp -implicitDefEqProofs (disch := first | assumption | omega | (simp only [r_z, zaa, zag] <;> omega) | decide) only [r_r, ↓reduceIte, Nat.reduceEqDiff, Nat.reduceAdd, D.fix, Int.reduceToNat, Nat.reduceMul, Nat.reduceBNe, Nat.reduceBEq, zas, zax, zae, zaf, shD, zh3]
 refine hK1 _ _ ?_
 refine zac hp zaj hc rfl fun K2 hK2 => ?_
 simp -dsimp -implicitDefEqProofs (disch := first | assumption | omega | (simp only [r_z, zaa, zag] <;> omega) | decide) only [r_r, ↓reduceIte, Nat.reduceEqDiff, Nat.reduceAdd, D.fix, Int.reduceToNat, Nat.reduceMul, Nat.reduceBNe, Nat.reduceBEq, zas, zax, zae, zaf, shD, zh3]
 refine hK2 _ _ ?_
 refine zac hp zaj hc rfl fun K3 hK3 => ?_
 simp -dsimp -implicitDefEqProofs (disch := first | assumption | omega | (simp only [r_z, zaa, zag] <;> omega) | decide) only [r_r, ↓reduceIte, Nat.reduceEqDiff, Nat.reduceAdd, D.fix, Int.reduceToNat, Nat.reduceMul, Nat.reduceBNe, Nat.reduceBEq, zas, zax, zae, zaf, shD, zh3]
 refine hK3 _ _ ?_
 refine zam fun K4 hK4 => ?_
 refine zac hp zaj hc rfl fun K5 hK5 => ?_
 simp -dsimp -implicitDefEqProofs (disch := first | assumption | omega | (simp only [r_z, zaa, zag] <;> omega) | decide) only [r_r, ↓reduceIte, Nat.reduceEqDiff, Nat.reduceAdd, D.fix, Int.reduceToNat, Nat.reduceMul, Nat.reduceBNe, Nat.reduceBEq, zas, zax, zae, zaf, shD]
 refine hK5 _ _ ?_
 refine zaz ?_
 refine za7 hp (fun τ' H' mm => ∃ (k : Nat), (k ≤ sh.length) ∧ mm = sh.length - k ∧ H' = [.cells (avs (((List.range k).map fun i => jgv l (zbz n.ins.length sh i) (nth sh i)).map intsD))] ∧ τ' = frL [(1, .d (shD sh)), (2, .d (boolsD l)), (7, .os 1 0 0 k), (8, .d (iD (zbz n.ins.length sh k))), (9, .d (iD k))]) (sh.length) ?_ ⟨0, Nat.zero_le _, rfl, rfl, rfl⟩ ?_
 ·refine Rt.trans (Rt.gc (keep := [1]) (by decide) (by decide) (by simp [fzH, gcH])) ?_
  refine Rt.end (by repeat (first | exact zak _ | refine zah ?_ (by first | rfl | (simp [r_f, zaa, zag, Int.add_assoc]; done) | simp [r_f, zaa, zag, Int.add_assoc, *]))) ?_
  simp only [r_g, Nat.reduceAdd, ↓reduceIte, Nat.reduceEqDiff, zas, zax, zae, zaf, shD]; simp; rfl
 rintro τ' H' mm ⟨k, hk, rfl, rfl, rfl⟩
 refine zam fun K6 hK6 => ?_
 refine zac hp zaj hc rfl fun K7 hK7 => ?_
 simp -dsimp -implicitDefEqProofs (disch := first | assumption | omega | (simp only [r_z, zaa, zag] <;> omega) | decide) only [r_r, ↓reduceIte, Nat.reduceEqDiff, Nat.reduceAdd, D.fix, Int.reduceToNat, Nat.reduceMul, Nat.reduceBNe, Nat.reduceBEq, zas, zax, zae, zaf, shD, zh3]
 refine hK7 _ _ ?_
 refine zaq rfl (fun ht => ?_) (fun ht => ?_)
 ·have hlt : k < sh.length := by simp at ht; omega
  have fb := zqs (base := n.ins.length) hsh (k := k) (by omega)
  have hel := hsh.el k hlt
  have hmm := Nat.mul_le_mul hel.1 hel.2
  refine zay (hK6 _ _ ?_)
  refine zam fun K8 hK8 => ?_
  refine zaz ?_
  refine zac hp zaj hc rfl fun K9 hK9 => ?_
  simp -dsimp -implicitDefEqProofs (disch := first | assumption | omega | (simp only [r_z, zaa, zag] <;> omega) | decide) only [r_r, ↓reduceIte, Nat.reduceEqDiff, Nat.reduceAdd, D.fix, Int.reduceToNat, Nat.reduceMul, Nat.reduceBNe, Nat.reduceBEq, zas, zax, zae, zaf, shD, zh3]
  refine hK9 _ _ ?_
  refine zam fun K10 hK10 => ?_
  refine zac hp zaj hc rfl fun K11 hK11 => ?_
  simp -dsimp -implicitDefEqProofs (disch := first | assumption | omega | (simp only [r_z, zaa, zag] <;> omega) | decide) only [r_r, ↓reduceIte, Nat.reduceEqDiff, Nat.reduceAdd, D.fix, Int.reduceToNat, Nat.reduceMul, Nat.reduceBNe, Nat.reduceBEq, zas, zax, zae, zaf, shD]
  refine hK11 _ _ ?_
  refine zaz ?_
  refine za7 hp (fun τ' H' mm => ∃ (j : Nat), (j ≤ (nth sh k).1) ∧ mm = (nth sh k).1 - j ∧ H' = [.cells (avs (((List.range k).map fun i => jgv l (zbz n.ins.length sh i) (nth sh i)).map intsD)), .cells (avs (((List.range j).map fun j => ((zq5 l (zbz n.ins.length sh k + j * (nth sh k).2) (nth sh k).2 : Nat) : Int)).map iD))] ∧ τ' = frL [(1, .d (shD sh)), (2, .d (boolsD l)), (7, .os 1 0 0 k), (8, .d (iD ((zbz n.ins.length sh k + j * (nth sh k).2 : Nat) : Int))), (9, .d (iD k)), (10, .os 1 1 0 j), (11, .d (iD j))]) ((nth sh k).1) ?_ ⟨0, Nat.zero_le _, rfl, rfl, rfl⟩ ?_
  ·refine Rt.end (by repeat (first | exact zak _ | refine zah ?_ (by first | rfl | (simp [r_f, zaa, zag, Int.add_assoc]; done) | simp [r_f, zaa, zag, Int.add_assoc, *]))) ?_
   first | rfl | (simp only [r_g, Nat.reduceAdd, ↓reduceIte, Nat.reduceEqDiff, zas, zax, zae, zaf, shD]; first | done | rfl)
  rintro τ' H' mm ⟨j, hj, rfl, rfl, rfl⟩
  refine zam fun K12 hK12 => ?_
  refine zac hp zaj hc rfl fun K13 hK13 => ?_
  simp -dsimp -implicitDefEqProofs (disch := first | assumption | omega | (simp only [r_z, zaa, zag] <;> omega) | decide) only [r_r, ↓reduceIte, Nat.reduceEqDiff, Nat.reduceAdd, D.fix, Int.reduceToNat, Nat.reduceMul, Nat.reduceBNe, Nat.reduceBEq, zas, zax, zae, zaf, shD, jjt, jju, zh3]
  refine hK13 _ _ ?_
  refine zaq rfl (fun ht => ?_) (fun ht => ?_)
  ·have hjl : j < (nth sh k).1 := by simp at ht; omega
   have hjb := Nat.mul_le_mul (Nat.le_of_lt hjl) hel.2
   refine zay (hK12 _ _ ?_)
   refine zam fun K14 hK14 => ?_
   refine zaz ?_
   refine zac hp zaj hc rfl fun K15 hK15 => ?_
   simp -dsimp -implicitDefEqProofs (disch := first | assumption | omega | (simp only [r_z, zaa, zag] <;> omega) | decide) only [r_r, ↓reduceIte, Nat.reduceEqDiff, Nat.reduceAdd, D.fix, Int.reduceToNat, Nat.reduceMul, Nat.reduceBNe, Nat.reduceBEq, zas, zax, zae, zaf, shD]
   refine hK15 _ _ ?_
   refine zam fun K16 hK16 => ?_
   refine zac hp zaj hc rfl fun K17 hK17 => ?_
   simp -dsimp -implicitDefEqProofs (disch := first | assumption | omega | (simp only [r_z, zaa, zag] <;> omega) | decide) only [r_r, ↓reduceIte, Nat.reduceEqDiff, Nat.reduceAdd, D.fix, Int.reduceToNat, Nat.reduceMul, Nat.reduceBNe, Nat.reduceBEq, zas, zax, zae, zaf, shD]
   refine hK17 _ _ ?_
   refine zaz ?_
   refine za7 hp (fun τ' H' mm => ∃ (b : Nat), (b ≤ (nth sh k).2) ∧ mm = (nth sh k).2 - b ∧ H' = [.cells (avs (((List.range k).map fun i => jgv l (zbz n.ins.length sh i) (nth sh i)).map intsD)), .cells (avs (((List.range j).map fun j => ((zq5 l (zbz n.ins.length sh k + j * (nth sh k).2) (nth sh k).2 : Nat) : Int)).map iD))] ∧ τ' = frL [(1, .d (shD sh)), (2, .d (boolsD l)), (7, .os 1 0 0 k), (8, .d (iD ((zbz n.ins.length sh k + j * (nth sh k).2 + b : Nat) : Int))), (9, .d (iD k)), (10, .os 1 1 0 j), (11, .d (iD j)), (12, .d (iD (zq5 l (zbz n.ins.length sh k + j * (nth sh k).2) b : Nat))), (13, .d (iD b))]) ((nth sh k).2) ?_ ⟨0, Nat.zero_le _, rfl, rfl, rfl⟩ ?_
   ·refine Rt.end (by repeat (first | exact zak _ | refine zah ?_ (by first | rfl | (simp [r_f, zaa, zag, Int.add_assoc]; done) | simp [r_f, zaa, zag, Int.add_assoc, *]))) ?_
    first | rfl | (simp only [r_g, Nat.reduceAdd, ↓reduceIte, Nat.reduceEqDiff, zas, zax, zae, zaf, shD]; first | done | rfl)
   rintro τ' H' mm ⟨b, hb, rfl, rfl, rfl⟩
   refine zam fun K18 hK18 => ?_
   refine zac hp zaj hc rfl fun K19 hK19 => ?_
   simp -dsimp -implicitDefEqProofs (disch := first | assumption | omega | (simp only [r_z, zaa, zag] <;> omega) | decide) only [r_r, ↓reduceIte, Nat.reduceEqDiff, Nat.reduceAdd, D.fix, Int.reduceToNat, Nat.reduceMul, Nat.reduceBNe, Nat.reduceBEq, zas, zax, zae, zaf, shD, jjt, jju, zh3]
   refine hK19 _ _ ?_
   refine zaq rfl (fun ht => ?_) (fun ht => ?_)
   ·have hbl : b < (nth sh k).2 := by simp at ht; omega
    refine zay (hK18 _ _ ?_)
    refine zam fun K20 hK20 => ?_
    refine zaz ?_
    refine zam fun K21 hK21 => ?_
    refine zac hp zaj hc rfl fun K22 hK22 => ?_
    simp -dsimp -implicitDefEqProofs (disch := first | assumption | omega | (simp only [r_z, zaa, zag] <;> omega) | decide) only [r_r, ↓reduceIte, Nat.reduceEqDiff, Nat.reduceAdd, D.fix, Int.reduceToNat, Nat.reduceMul, Nat.reduceBNe, Nat.reduceBEq, zas, zax, zae, zaf, shD, zh3]
    have hb8 : b < 8 := by omega
    have hp2 : 2 ^ b ≤ 128 := by have : (2 : Nat) ^ b ≤ 2 ^ 7 := Nat.pow_le_pow_right (by decide) (by omega); omega
    have hwl := zx5 l (zbz n.ins.length sh k + j * (nth sh k).2) b
    have hw : IntKind.i64.wrap (1 * 2 ^ min b 64) = ((2 ^ b : Nat) : Int) := jgr (a := 1) (by omega) (by omega) (by omega)
    have hu : IntKind.u64.wrap (b : Int) = b := jku (by omega) (by omega)
    refine zb4 (juh l (zbz n.ins.length sh k + j * (nth sh k).2 + b) hl (by omega)) rfl ?_
    simp -dsimp -implicitDefEqProofs (disch := first | assumption | omega | (simp only [r_z, zaa, zag] <;> omega) | decide) only [r_r, ↓reduceIte, Nat.reduceEqDiff, Nat.reduceAdd, D.fix, Int.reduceToNat, Nat.reduceMul, Nat.reduceBNe, Nat.reduceBEq, zas, zax, zae, zaf, shD, zh3]
    refine hK22 _ _ ?_
    refine zaq rfl (fun ht => ?_) (fun ht => ?_)
    ·have hw1 : ((zq5 l (zbz n.ins.length sh k + j * (nth sh k).2) (b + 1) : Nat) : Int) = (zq5 l (zbz n.ins.length sh k + j * (nth sh k).2) b : Nat) + ((2 ^ b : Nat) : Int) := by rw [zq5, if_pos ht]; push_cast; rfl
     refine zbo hp zaj hc rfl fun K23 hK23 => ?_
     simp -dsimp -implicitDefEqProofs (disch := first | assumption | omega | (simp only [r_z, zaa, zag] <;> omega) | decide) only [r_r, ↓reduceIte, Nat.reduceEqDiff, Nat.reduceAdd, D.fix, Int.reduceToNat, Nat.reduceMul, Nat.reduceBNe, Nat.reduceBEq, zas, zax, zae, zaf, shD, hu, hw, zh3]
     refine hK23 _ _ (hK21 _ _ ?_)
     refine zbo hp zaj hc rfl fun K24 hK24 => ?_
     simp -dsimp -implicitDefEqProofs (disch := first | assumption | omega | (simp only [r_z, zaa, zag] <;> omega) | decide) only [r_r, ↓reduceIte, Nat.reduceEqDiff, Nat.reduceAdd, D.fix, Int.reduceToNat, Nat.reduceMul, Nat.reduceBNe, Nat.reduceBEq, zas, zax, zae, zaf, shD, zh3]
     refine hK24 _ _ (hK20 _ _ ?_)
     refine zbo hp zaj hc rfl fun K25 hK25 => ?_
     simp -dsimp -implicitDefEqProofs (disch := first | assumption | omega | (simp only [r_z, zaa, zag] <;> omega) | decide) only [r_r, ↓reduceIte, Nat.reduceEqDiff, Nat.reduceAdd, D.fix, Int.reduceToNat, Nat.reduceMul, Nat.reduceBNe, Nat.reduceBEq, zas, zax, zae, zaf, shD, zh3]
     refine hK25 _ _ ⟨_, _, _, ?_, ⟨b + 1, by omega, rfl, rfl, rfl⟩, ?_⟩
     ·first | omega | (simp only [List.length_cons]; omega) | (dsimp only; omega)
     ·refine Rt.end (by repeat (first | exact zak _ | refine zah ?_ (by first | rfl | (simp [r_f, zaa, zag, Int.add_assoc]; done) | simp [r_f, zaa, zag, Int.add_assoc, *]))) ?_
      first | rfl | (simp only [r_g, Nat.reduceAdd, ↓reduceIte, Nat.reduceEqDiff, zas, zax, zae, zaf, shD]; first | done | rfl)
    ·have hw1 : zq5 l (zbz n.ins.length sh k + j * (nth sh k).2) (b + 1) = zq5 l (zbz n.ins.length sh k + j * (nth sh k).2) b := by rw [zq5, if_neg (by rw [ht]; decide)]; rfl
     refine zay (hK21 _ _ ?_)
     refine zbo hp zaj hc rfl fun K26 hK26 => ?_
     simp -dsimp -implicitDefEqProofs (disch := first | assumption | omega | (simp only [r_z, zaa, zag] <;> omega) | decide) only [r_r, ↓reduceIte, Nat.reduceEqDiff, Nat.reduceAdd, D.fix, Int.reduceToNat, Nat.reduceMul, Nat.reduceBNe, Nat.reduceBEq, zas, zax, zae, zaf, shD, zh3]
     refine hK26 _ _ (hK20 _ _ ?_)
     refine zbo hp zaj hc rfl fun K27 hK27 => ?_
     simp -dsimp -implicitDefEqProofs (disch := first | assumption | omega | (simp only [r_z, zaa, zag] <;> omega) | decide) only [r_r, ↓reduceIte, Nat.reduceEqDiff, Nat.reduceAdd, D.fix, Int.reduceToNat, Nat.reduceMul, Nat.reduceBNe, Nat.reduceBEq, zas, zax, zae, zaf, shD, zh3]
     refine hK27 _ _ ⟨_, _, _, ?_, ⟨b + 1, by omega, rfl, rfl, rfl⟩, ?_⟩
     ·first | omega | (simp only [List.length_cons]; omega) | (dsimp only; omega)
     ·refine Rt.end (by repeat (first | exact zak _ | refine zah ?_ (by first | rfl | (simp [r_f, zaa, zag, Int.add_assoc]; done) | simp [r_f, zaa, zag, Int.add_assoc, *]))) ?_
      first | rfl | (simp only [r_g, Nat.reduceAdd, ↓reduceIte, Nat.reduceEqDiff, zas, zax, zae, zaf, shD]; first | done | rfl)
   ·have hbe : b = (nth sh k).2 := by simp at ht; omega
    have hs1 : zbz n.ins.length sh k + (j + 1) * (nth sh k).2 = zbz n.ins.length sh k + j * (nth sh k).2 + (nth sh k).2 := by rw [Nat.succ_mul]; omega
    refine zbj (hK16 _ _ ?_)
    refine zbo hp zaj hc rfl fun K28 hK28 => ?_
    simp -dsimp -implicitDefEqProofs (disch := first | assumption | omega | (simp only [r_z, zaa, zag] <;> omega) | decide) only [r_r, ↓reduceIte, Nat.reduceEqDiff, Nat.reduceAdd, D.fix, Int.reduceToNat, Nat.reduceMul, Nat.reduceBNe, Nat.reduceBEq, zas, zax, zae, zaf, shD, zh3]
    refine hK28 _ _ (hK14 _ _ ?_)
    refine zbo hp zaj hc rfl fun K29 hK29 => ?_
    simp -dsimp -implicitDefEqProofs (disch := first | assumption | omega | (simp only [r_z, zaa, zag] <;> omega) | decide) only [r_r, ↓reduceIte, Nat.reduceEqDiff, Nat.reduceAdd, D.fix, Int.reduceToNat, Nat.reduceMul, Nat.reduceBNe, Nat.reduceBEq, zas, zax, zae, zaf, shD, zh3]
    refine hK29 _ _ ⟨_, _, _, ?_, ⟨j + 1, by omega, rfl, rfl, rfl⟩, ?_⟩
    ·first | omega | (simp only [List.length_cons]; omega) | (dsimp only; omega)
    ·refine Rt.trans (Rt.gc (keep := [0,3]) (by decide) (by decide) (by simp [fzH, gcH])) ?_
     refine Rt.end (by repeat (first | exact zak _ | refine zah ?_ (by first | rfl | (simp [r_f, zaa, zag, Int.add_assoc]; done) | simp [r_f, zaa, zag, Int.add_assoc, *]))) ?_
     simp only [r_g, Nat.reduceAdd, ↓reduceIte, Nat.reduceEqDiff, zas, zax, zae, zaf, shD]; rw [zt9, hbe]; simp [iD]
  ·have hje : j = (nth sh k).1 := by simp at ht; omega
   have hs1 : zbz n.ins.length sh (k + 1) = zbz n.ins.length sh k + j * (nth sh k).2 := by rw [zf0 hlt, hje]
   refine zbj (hK10 _ _ ?_)
   refine zbo hp zaj hc rfl fun K30 hK30 => ?_
   simp -dsimp -implicitDefEqProofs (disch := first | assumption | omega | (simp only [r_z, zaa, zag] <;> omega) | decide) only [r_r, ↓reduceIte, Nat.reduceEqDiff, Nat.reduceAdd, D.fix, Int.reduceToNat, Nat.reduceMul, Nat.reduceBNe, Nat.reduceBEq, zas, zax, zae, zaf, shD, zh3]
   refine hK30 _ _ (hK8 _ _ ?_)
   refine zbo hp zaj hc rfl fun K31 hK31 => ?_
   simp -dsimp -implicitDefEqProofs (disch := first | assumption | omega | (simp only [r_z, zaa, zag] <;> omega) | decide) only [r_r, ↓reduceIte, Nat.reduceEqDiff, Nat.reduceAdd, D.fix, Int.reduceToNat, Nat.reduceMul, Nat.reduceBNe, Nat.reduceBEq, zas, zax, zae, zaf, shD, zh3]
   refine hK31 _ _ ⟨_, _, _, ?_, ⟨k + 1, by omega, rfl, rfl, rfl⟩, ?_⟩
   ·first | omega | (simp only [List.length_cons]; omega) | (dsimp only; omega)
   ·refine Rt.trans (Rt.fz (id := 1) rfl) ?_
    refine Rt.trans (Rt.gc (keep := [3]) (by decide) (by decide) (by simp [fzH, gcH])) ?_
    refine Rt.end (by repeat (first | exact zak _ | refine zah ?_ (by first | rfl | (simp [r_f, zaa, zag, Int.add_assoc]; done) | simp [r_f, zaa, zag, Int.add_assoc, *]))) ?_
    simp only [r_g, Nat.reduceAdd, ↓reduceIte, Nat.reduceEqDiff, zas, zax, zae, zaf, shD]; rw [zt9]; simp only [jgu, jgt, jgv, hje, intsD, List.map_append, List.map_cons, List.map_nil]; simp (disch := simp) only [jrf, jfj, zpu, List.append_nil, intsD, List.length_map, List.length_range]
 ·have hke : k = sh.length := by simp at ht; omega
  have hml : (zgz n.ins.length sh l).length = sh.length := by simp [zgz]
  refine zbj (hK4 _ _ ?_)
  refine zac hp zaj hc rfl fun K32 hK32 => ?_
  simp -dsimp -implicitDefEqProofs (disch := first | assumption | omega | (simp only [r_z, zaa, zag] <;> omega) | decide) only [r_r, ↓reduceIte, Nat.reduceEqDiff, Nat.reduceAdd, D.fix, Int.reduceToNat, Nat.reduceMul, Nat.reduceBNe, Nat.reduceBEq, zas, zax, zae, zaf, shD]
  refine hK32 _ _ ?_
  refine za4 ?_
  show closeA _ _ = _
  simp (disch := first | assumption | omega | (simp only [r_z, zaa, zag] <;> omega) | decide) only [r_c, Nat.reduceAdd, D.fix, ↓reduceIte, Nat.reduceEqDiff, zas, zax, zae, zaf, shD]
  subst hke
  rw [hml]; rfl
end Go.Proofs.Ytignimmnnccblaa

/- Shapes; equal diagrams. -/
set_option linter.unusedVariables false
set_option linter.unusedSimpArgs false
set_option maxRecDepth 100000
set_option maxHeartbeats 4000000
namespace Go.Proofs.Ytignimmnnccblaa
open Go Go.RowKit
theorem zn3 : ((((((type_of% @jf7) ∧ (type_of% @jf8)) ∧ ((type_of% @jf9) ∧ (type_of% @zfu))) ∧ (((type_of% @zfv) ∧ (type_of% @zfw)) ∧ ((type_of% @zfx) ∧ (type_of% @zlz)))) ∧ ((((type_of% @zl0) ∧ (type_of% @zex)) ∧ ((type_of% @zey) ∧ (type_of% @zfa))) ∧ (((type_of% @ji4) ∧ (type_of% @ji5)) ∧ ((type_of% @jmo) ∧ ((type_of% @jpq) ∧ (type_of% @jc7)))))) ∧ (((((type_of% @jc8) ∧ (type_of% @jc9)) ∧ ((type_of% @jda) ∧ (type_of% @jdb))) ∧ (((type_of% @jdc) ∧ (type_of% @jdd)) ∧ ((type_of% @jde) ∧ ((type_of% @jdf) ∧ (type_of% @jdg))))) ∧ ((((type_of% @zwr) ∧ (type_of% @zws)) ∧ ((type_of% @zkr) ∧ (type_of% @zks))) ∧ (((type_of% @zkt) ∧ (type_of% @zy5)) ∧ ((type_of% @zy4) ∧ ((type_of% @zhq) ∧ (type_of% @zhr))))))) := ⟨⟨⟨⟨⟨@jf7, @jf8⟩, ⟨@jf9, @zfu⟩⟩, ⟨⟨@zfv, @zfw⟩, ⟨@zfx, @zlz⟩⟩⟩, ⟨⟨⟨@zl0, @zex⟩, ⟨@zey, @zfa⟩⟩, ⟨⟨@ji4, @ji5⟩, ⟨@jmo, ⟨@jpq, @jc7⟩⟩⟩⟩⟩, ⟨⟨⟨⟨@jc8, @jc9⟩, ⟨@jda, @jdb⟩⟩, ⟨⟨@jdc, @jdd⟩, ⟨@jde, ⟨@jdf, @jdg⟩⟩⟩⟩, ⟨⟨⟨@zwr, @zws⟩, ⟨@zkr, @zks⟩⟩, ⟨⟨@zkt, @zy5⟩, ⟨@zy4, ⟨@zhq, @zhr⟩⟩⟩⟩⟩⟩
def jd8 (left b : Nat) : Nat × Nat := if left < b % 4 * (b / 4 % 3) then (1, min (b / 4 % 3) left) else (b % 4, b / 4 % 3)
def zzr : Nat → List Nat → Sh
 | _, [] => []
 | left, b :: r => jd8 left b :: zzr (left - (jd8 left b).1 * (jd8 left b).2) r
theorem jd9 (left b : Nat) : (jd8 left b).1 * (jd8 left b).2 ≤ left ∧ (jd8 left b).1 ≤ 3 ∧ (jd8 left b).2 ≤ 2 := by
 unfold jd8
 split
 ·simp only [Nat.one_mul]; omega
 ·simp only; omega
theorem jgw {α : Type} [Inhabited α] {l : List α} {k : Nat} (h : k < l.length) : l.drop k = nth l k :: l.drop (k + 1) := by
 rw [zb9 h]; exact List.drop_eq_getElem_cons h
def u8D (b : Nat) : D := bD b
theorem jlk (b0 b1 b2 : Nat) (h0 : b0 < 256) (h1 : b1 < 256) (h2 : b2 < 256) : za9 Try.prog 10 [.agg [u8D b0, u8D b1, u8D b2]] (.d (shD (zzr 5 [b0, b1, b2]))) := by
 obtain ⟨l, hl⟩ : ∃ l, l = [b0, b1, b2] := ⟨_, rfl⟩
 have hll : l.length = 3 := by rw [hl]; rfl
 have hlb : ∀ x ∈ l, x < 256 := by rw [hl]; simp [h0, h1, h2]
 rw [← hl]
 refine zbc (fn := Try.f10) (by kernel_rfl) Try.func10 rfl (Nat.le_of_ble_eq_true rfl) fun c hc hp => ?_
 refine zbf (τ' := frL [(0, .d (.agg [u8D b0, u8D b1, u8D b2]))]) (by repeat (first | exact zak _ | refine zah ?_ (by first | rfl | (simp [r_f, zag]; done) | simp [r_f, zag, *]))) ?_
 refine zac hp zaj hc rfl fun K1 hK1 => ?_
 simp -dsimp -implicitDefEqProofs (disch := first | assumption | omega | (simp only [r_z, zag] <;> omega) | decide) only [r_r, ↓reduceIte, Nat.reduceEqDiff, Nat.reduceAdd, D.fix, Int.reduceToNat, Nat.reduceMul, Nat.reduceBNe, Nat.reduceBEq, u8D, zn3]
 refine hK1 _ _ ?_
 refine zac hp zaj hc rfl fun K2 hK2 => ?_
 simp -dsimp -implicitDefEqProofs (disch := first | assumption | omega | (simp only [r_z, zag] <;> omega) | decide) only [r_r, ↓reduceIte, Nat.reduceEqDiff, Nat.reduceAdd, D.fix, Int.reduceToNat, Nat.reduceMul, Nat.reduceBNe, Nat.reduceBEq, u8D, zn3]
 refine hK2 _ _ ?_
 refine zac hp zaj hc rfl fun K3 hK3 => ?_
 simp -dsimp -implicitDefEqProofs (disch := first | assumption | omega | (simp only [r_z, zag] <;> omega) | decide) only [r_r, ↓reduceIte, Nat.reduceEqDiff, Nat.reduceAdd, D.fix, Int.reduceToNat, Nat.reduceMul, Nat.reduceBNe, Nat.reduceBEq, u8D]
 refine hK3 _ _ ?_
 refine zam fun K4 hK4 => ?_
 refine zac hp zaj hc rfl fun K5 hK5 => ?_
 simp -dsimp -implicitDefEqProofs (disch := first | assumption | omega | (simp only [r_z, zag] <;> omega) | decide) only [r_r, ↓reduceIte, Nat.reduceEqDiff, Nat.reduceAdd, D.fix, Int.reduceToNat, Nat.reduceMul, Nat.reduceBNe, Nat.reduceBEq, u8D]
 refine hK5 _ _ ?_
 refine zaz ?_
 refine za7 hp (fun τ' H' mm => ∃ (i : Nat) (acc : Sh) (left : Nat), (i ≤ 3 ∧ acc.length = i ∧ left ≤ 5 ∧ zzr 5 l = acc ++ zzr left (l.drop i)) ∧ mm = 3 - i ∧ H' = [.cells (avs (l.map u8D)), .cells (avs (acc.flatMap shC))] ∧ τ' = frL [(1, .op 0 0), (3, .os 2 1 0 i), (4, .d (iD left)), (5, .d (iD i))]) (3) ?_ ⟨0, [], 5, ⟨by omega, rfl, by omega, rfl⟩, rfl, rfl, rfl⟩ ?_
 ·refine Rt.end (by repeat (first | exact zak _ | refine zah ?_ (by first | rfl | (simp [r_f, zag]; done) | simp [r_f, zag, *]))) ?_
  rw [hl]; rfl
 rintro τ' H' mm ⟨i, acc, left, ⟨hi, hal, hle, hac⟩, rfl, rfl, rfl⟩
 refine zam fun K6 hK6 => ?_
 refine zac hp zaj hc rfl fun K7 hK7 => ?_
 simp -dsimp -implicitDefEqProofs (disch := first | assumption | omega | (simp only [r_z, zag] <;> omega) | decide) only [r_r, ↓reduceIte, Nat.reduceEqDiff, Nat.reduceAdd, D.fix, Int.reduceToNat, Nat.reduceMul, Nat.reduceBNe, Nat.reduceBEq, u8D, zn3]
 refine hK7 _ _ ?_
 refine zaq rfl (fun ht => ?_) (fun ht => ?_)
 ·have hi3 : i < 3 := by simp at ht; omega
  have hil : i < l.length := by omega
  have hbb := hlb _ (zb3 hil)
  obtain ⟨x, hx⟩ : ∃ x, x = nth l i := ⟨_, rfl⟩
  rw [← hx] at hbb
  have hdr : l.drop i = x :: l.drop (i + 1) := by rw [jgw hil, hx]
  obtain ⟨W, hW⟩ : ∃ W, W = x % 4 := ⟨_, rfl⟩
  obtain ⟨U, hU⟩ : ∃ U, U = x / 4 % 3 := ⟨_, rfl⟩
  have hW1 : (x : Int) % 4 = (W : Nat) := by omega
  have hU1 : (x : Int) / 4 % 3 = (U : Nat) := by omega
  have hWU := Nat.mul_le_mul (show W ≤ 3 by omega) (show U ≤ 2 by omega)
  have hWb1 : (W : Int) * (U : Int) ≤ 6 := by
   have : ((W * U : Nat) : Int) = (W : Int) * (U : Int) := by simp
   omega
  have hWb0 : 0 ≤ (W : Int) * (U : Int) := by
   have : ((W * U : Nat) : Int) = (W : Int) * (U : Int) := by simp
   omega
  refine zay (hK6 _ _ ?_)
  refine zam fun K8 hK8 => ?_
  refine zaz ?_
  refine zac hp zaj hc rfl fun K9 hK9 => ?_
  simp -dsimp -implicitDefEqProofs (disch := first | assumption | omega | (simp only [r_z, zag] <;> omega) | decide) only [r_r, ↓reduceIte, Nat.reduceEqDiff, Nat.reduceAdd, D.fix, Int.reduceToNat, Nat.reduceMul, Nat.reduceBNe, Nat.reduceBEq, u8D, zcc, ← hx, hW1, zn3]
  refine hK9 _ _ ?_
  refine zac hp zaj hc rfl fun K10 hK10 => ?_
  simp -dsimp -implicitDefEqProofs (disch := first | assumption | omega | (simp only [r_z, zag] <;> omega) | decide) only [r_r, ↓reduceIte, Nat.reduceEqDiff, Nat.reduceAdd, D.fix, Int.reduceToNat, Nat.reduceMul, Nat.reduceBNe, Nat.reduceBEq, u8D, zcc, ← hx, hU1, zn3]
  refine hK10 _ _ ?_
  refine zam fun K11 hK11 => ?_
  have hJ11 : ∀ τ' H', (∃ τ1 H1, ∃ (p : Nat × Nat), (p = jd8 left x) ∧ H1 = [.cells (avs (l.map u8D)), .cells (avs (acc.flatMap shC))] ∧ τ1 = frL [(1, .op 0 0), (3, .os 2 1 0 i), (4, .d (iD left)), (5, .d (iD i)), (6, .d (iD p.1)), (7, .d (iD p.2))] ∧ Rt [] τ' H' τ1 H1) → K11 τ' H' := by
   rintro τ' H' ⟨_, _, p, hpx, rfl, rfl, hrt⟩
   refine hK11 _ _ (zb2 hp hrt ?_)
   clear hrt
   obtain ⟨k1, k2, k3⟩ := jd9 left x
   rw [← hpx] at k1 k2 k3
   have e1 : ((p.1 * p.2 : Nat) : Int) = (p.1 : Int) * (p.2 : Int) := by simp
   have e2 : 0 ≤ (p.1 : Int) * (p.2 : Int) := by omega
   have e3 : (p.1 : Int) * (p.2 : Int) ≤ left := by omega
   have e4 : (left : Int) - (p.1 : Int) * (p.2 : Int) = ((left - p.1 * p.2 : Nat) : Int) := by omega
   refine zac hp zaj hc rfl fun K12 hK12 => ?_
   simp -dsimp -implicitDefEqProofs (disch := first | assumption | omega | (simp only [r_z, zag] <;> omega) | decide) only [r_r, ↓reduceIte, Nat.reduceEqDiff, Nat.reduceAdd, D.fix, Int.reduceToNat, Nat.reduceMul, Nat.reduceBNe, Nat.reduceBEq, u8D, e4, zn3]
   refine hK12 _ _ ?_
   refine zbo hp zaj hc rfl fun K13 hK13 => ?_
   simp -dsimp -implicitDefEqProofs (disch := first | assumption | omega | (simp only [r_z, zag] <;> omega) | decide) only [r_r, ↓reduceIte, Nat.reduceEqDiff, Nat.reduceAdd, D.fix, Int.reduceToNat, Nat.reduceMul, Nat.reduceBNe, Nat.reduceBEq, u8D, zn3]
   refine hK13 _ _ (hK8 _ _ ?_)
   refine zbo hp zaj hc rfl fun K14 hK14 => ?_
   simp -dsimp -implicitDefEqProofs (disch := first | assumption | omega | (simp only [r_z, zag] <;> omega) | decide) only [r_r, ↓reduceIte, Nat.reduceEqDiff, Nat.reduceAdd, D.fix, Int.reduceToNat, Nat.reduceMul, Nat.reduceBNe, Nat.reduceBEq, u8D, zn3]
   refine hK14 _ _ ⟨_, _, _, ?_, ⟨i + 1, acc ++ [p], left - p.1 * p.2, ⟨by omega, by simp [hal], by omega, by rw [hac, hdr, zzr, ← hpx]; simp⟩, rfl, rfl, rfl⟩, ?_⟩
   ·first | omega | (simp only [List.length_cons]; omega) | (dsimp only; omega)
   ·refine Rt.trans (Rt.gc (keep := [0,3]) (by decide) (by decide) (by simp [fzH, gcH])) ?_
    refine Rt.end (by repeat (first | exact zak _ | refine zah ?_ (by first | rfl | (simp [r_f, zag]; done) | simp [r_f, zag, *]))) ?_
    simp only [r_g, Nat.reduceAdd, ↓reduceIte, Nat.reduceEqDiff, u8D]; simp [shC, iD]
  refine zac hp zaj hc rfl fun K15 hK15 => ?_
  simp -dsimp -implicitDefEqProofs (disch := first | assumption | omega | (simp only [r_z, zag] <;> omega) | decide) only [r_r, ↓reduceIte, Nat.reduceEqDiff, Nat.reduceAdd, D.fix, Int.reduceToNat, Nat.reduceMul, Nat.reduceBNe, Nat.reduceBEq, u8D, zn3]
  refine hK15 _ _ ?_
  refine zaq rfl (fun ht => ?_) (fun ht => ?_)
  ·have hgt : left < W * U := by
    have : ((W * U : Nat) : Int) = (W : Int) * (U : Int) := by simp
    simp at ht; omega
   have hmin : min (U : Int) (left : Int) = ((min U left : Nat) : Int) := by omega
   refine zac hp zaj hc rfl fun K16 hK16 => ?_
   simp -dsimp -implicitDefEqProofs (disch := first | assumption | omega | (simp only [r_z, zag] <;> omega) | decide) only [r_r, ↓reduceIte, Nat.reduceEqDiff, Nat.reduceAdd, D.fix, Int.reduceToNat, Nat.reduceMul, Nat.reduceBNe, Nat.reduceBEq, u8D]
   refine hK16 _ _ ?_
   refine zbo hp zaj hc rfl fun K17 hK17 => ?_
   simp -dsimp -implicitDefEqProofs (disch := first | assumption | omega | (simp only [r_z, zag] <;> omega) | decide) only [r_r, ↓reduceIte, Nat.reduceEqDiff, Nat.reduceAdd, D.fix, Int.reduceToNat, Nat.reduceMul, Nat.reduceBNe, Nat.reduceBEq, u8D, hmin, zn3]
   refine hK17 _ _ (hJ11 _ _ ⟨_, _, (1, min U left), by rw [jd8, ← hW, ← hU, if_pos hgt], rfl, rfl, ?_⟩)
   refine Rt.end (by repeat (first | exact zak _ | refine zah ?_ (by first | rfl | (simp [r_f, zag]; done) | simp [r_f, zag, *]))) ?_
   first | rfl | (simp only [r_g, Nat.reduceAdd, ↓reduceIte, Nat.reduceEqDiff, u8D]; first | done | rfl)
  ·have hgt : ¬ left < W * U := by
    have : ((W * U : Nat) : Int) = (W : Int) * (U : Int) := by simp
    simp at ht; omega
   refine zay (hJ11 _ _ ⟨_, _, (W, U), by rw [jd8, ← hW, ← hU, if_neg hgt], rfl, rfl, ?_⟩)
   refine Rt.end (by repeat (first | exact zak _ | refine zah ?_ (by first | rfl | (simp [r_f, zag]; done) | simp [r_f, zag, *]))) ?_
   first | rfl | (simp only [r_g, Nat.reduceAdd, ↓reduceIte, Nat.reduceEqDiff, u8D]; first | done | rfl)
 ·have hie : i = 3 := by simp at ht; omega
  have hfin : zzr 5 l = acc := by rw [hac, List.drop_eq_nil_of_le (by omega)]; simp [zzr]
  refine zbj (hK4 _ _ ?_)
  refine zac hp zaj hc rfl fun K18 hK18 => ?_
  simp -dsimp -implicitDefEqProofs (disch := first | assumption | omega | (simp only [r_z, zag] <;> omega) | decide) only [r_r, ↓reduceIte, Nat.reduceEqDiff, Nat.reduceAdd, D.fix, Int.reduceToNat, Nat.reduceMul, Nat.reduceBNe, Nat.reduceBEq, u8D]
  refine hK18 _ _ ?_
  refine za4 ?_
  show closeA _ _ = _
  simp (disch := first | assumption | omega | (simp only [r_z, zag] <;> omega) | decide) only [r_c, Nat.reduceAdd, D.fix, ↓reduceIte, Nat.reduceEqDiff, u8D]
  rw [hfin, jq5, ← hal]; rfl
end Go.Proofs.Ytignimmnnccblaa

/- Equal diagrams; the chapter's examples. -/
set_option linter.unusedVariables false
set_option linter.unusedSimpArgs false
namespace Go.Proofs.Ytignimmnnccblaa
open Go Go.RowKit
end Go.Proofs.Ytignimmnnccblaa
