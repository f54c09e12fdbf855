/- The reference's small functions: equal lists and diagrams, assignments, inputs, memories, shapes. -/
import Derived.Test.YtignimmnnccblaaQr
import Derived.Test.YtignimmnnccblaaCo
import Derived.Test.YtignimmnnccblaaDb
set_option linter.unusedVariables false
set_option linter.unusedSimpArgs false
set_option maxRecDepth 100000
set_option maxHeartbeats 4000000
namespace Go.Proofs.Ytignimmnnccblaa
open Go Go.RowKit
theorem zhj : ((((((type_of% @zkg) ∧ (type_of% @zkh)) ∧ ((type_of% @zki) ∧ (type_of% @zkj))) ∧ (((type_of% @ze4) ∧ (type_of% @ze5)) ∧ ((type_of% @ze7) ∧ (type_of% @znt)))) ∧ ((((type_of% @znu) ∧ (type_of% @zs1)) ∧ ((type_of% @zd1) ∧ (type_of% @zd2))) ∧ (((type_of% @zl0) ∧ (type_of% @zl1)) ∧ ((type_of% @zda) ∧ ((type_of% @zdb) ∧ (type_of% @zfs)))))) ∧ (((((type_of% @zft) ∧ (type_of% @zfu)) ∧ ((type_of% @zfv) ∧ (type_of% @zhw))) ∧ (((type_of% @zhx) ∧ (type_of% @zdq)) ∧ ((type_of% @zdr) ∧ ((type_of% @zgz) ∧ (type_of% @zg0))))) ∧ ((((type_of% @zg1) ∧ (type_of% @zg2)) ∧ ((type_of% @zfd) ∧ (type_of% @zfe))) ∧ (((type_of% @zff) ∧ (type_of% @zfg)) ∧ ((type_of% @zkn) ∧ ((type_of% @zko) ∧ (type_of% @zkp))))))) := ⟨⟨⟨⟨⟨@zkg, @zkh⟩, ⟨@zki, @zkj⟩⟩, ⟨⟨@ze4, @ze5⟩, ⟨@ze7, @znt⟩⟩⟩, ⟨⟨⟨@znu, @zs1⟩, ⟨@zd1, @zd2⟩⟩, ⟨⟨@zl0, @zl1⟩, ⟨@zda, ⟨@zdb, @zfs⟩⟩⟩⟩⟩, ⟨⟨⟨⟨@zft, @zfu⟩, ⟨@zfv, @zhw⟩⟩, ⟨⟨@zhx, @zdq⟩, ⟨@zdr, ⟨@zgz, @zg0⟩⟩⟩⟩, ⟨⟨⟨@zg1, @zg2⟩, ⟨@zfd, @zfe⟩⟩, ⟨⟨@zff, @zfg⟩, ⟨@zkn, ⟨@zko, @zkp⟩⟩⟩⟩⟩⟩
theorem jdu (a b : List Bool) (ha : a.length ≤ maxLen) : zbd Try.prog 14 [boolsD a, boolsD b] (.d (oD (decide (a = b)))) := by
 refine zbg (fn := Try.f14) (by kernel_rfl) Try.func14 rfl (Nat.le_of_ble_eq_true rfl) fun c hc hp => ?_
 refine zbh (τ' := frL [(0, .d (boolsD a)), (1, .d (boolsD b))]) (by repeat (first | exact zam _ | refine zai ?_ (by first | rfl | (simp [r_f]; done) | simp [r_f, *]))) ?_
 unfold maxLen at ha
 refine zac hp zak hc rfl fun K1 hK1 => ?_
 simp -dsimp -implicitDefEqProofs (disch := first | assumption | omega | (simp only [r_z] <;> omega) | decide) only [r_r, ↓reduceIte, Nat.reduceEqDiff, Nat.reduceAdd, D.fix, Int.reduceToNat, Nat.reduceMul, Nat.reduceBNe, Nat.reduceBEq]
 refine hK1 _ _ ?_
 refine zao fun K2 hK2 => ?_
 refine zac hp zak hc rfl fun K3 hK3 => ?_
 simp -dsimp -implicitDefEqProofs (disch := first | assumption | omega | (simp only [r_z] <;> omega) | decide) only [r_r, ↓reduceIte, Nat.reduceEqDiff, Nat.reduceAdd, D.fix, Int.reduceToNat, Nat.reduceMul, Nat.reduceBNe, Nat.reduceBEq, zhj]
 refine hK3 _ _ ?_
 refine zaq rfl (fun ht => ?_) (fun ht => ?_)
 ·have hne : a ≠ b := fun e => by subst e; simp at ht
  refine zac hp zak hc rfl fun K4 hK4 => ?_
  simp -dsimp -implicitDefEqProofs (disch := first | assumption | omega | (simp only [r_z] <;> omega) | decide) only [r_r, ↓reduceIte, Nat.reduceEqDiff, Nat.reduceAdd, D.fix, Int.reduceToNat, Nat.reduceMul, Nat.reduceBNe, Nat.reduceBEq]
  refine hK4 _ _ ?_
  refine za4 ?_
  show closeA _ _ = _
  simp (disch := first | assumption | omega | (simp only [r_z] <;> omega) | decide) only [r_c, Nat.reduceAdd, D.fix, ↓reduceIte, Nat.reduceEqDiff]
  simp [hne]
 ·have hl : a.length = b.length := by simp at ht; omega
  refine zay (hK2 _ _ ?_)
  refine zao fun K5 hK5 => ?_
  refine zac hp zak hc rfl fun K6 hK6 => ?_
  simp -dsimp -implicitDefEqProofs (disch := first | assumption | omega | (simp only [r_z] <;> omega) | decide) only [r_r, ↓reduceIte, Nat.reduceEqDiff, Nat.reduceAdd, D.fix, Int.reduceToNat, Nat.reduceMul, Nat.reduceBNe, Nat.reduceBEq]
  refine hK6 _ _ ?_
  refine zaz ?_
  refine zbb hp (fun τ' H' mm => ∃ k, (k ≤ a.length ∧ a.take k = b.take k) ∧ mm = a.length - k ∧ H' = [] ∧ τ' = frL [(5, .d (iD k)), (0, .d (boolsD a)), (1, .d (boolsD b))]) (a.length) ?_ ⟨0, ⟨Nat.zero_le _, rfl⟩, rfl, rfl, rfl⟩ ?_
  ·refine Rt.end (by repeat (first | exact zam _ | refine zai ?_ (by first | rfl | (simp [r_f]; done) | simp [r_f, *]))) ?_
   first | rfl | (simp only [r_g, Nat.reduceAdd, ↓reduceIte, Nat.reduceEqDiff]; first | done | rfl)
  rintro τ' H' mm ⟨k, ⟨hk, htake⟩, rfl, rfl, rfl⟩
  refine zao fun K7 hK7 => ?_
  refine zac hp zak hc rfl fun K8 hK8 => ?_
  simp -dsimp -implicitDefEqProofs (disch := first | assumption | omega | (simp only [r_z] <;> omega) | decide) only [r_r, ↓reduceIte, Nat.reduceEqDiff, Nat.reduceAdd, D.fix, Int.reduceToNat, Nat.reduceMul, Nat.reduceBNe, Nat.reduceBEq, zhj]
  refine hK8 _ _ ?_
  refine zaq rfl (fun ht => ?_) (fun ht => ?_)
  ·have hlt : k < a.length := by simp at ht; omega
   have hlt2 : k < b.length := by omega
   refine zay (hK7 _ _ ?_)
   refine zao fun K9 hK9 => ?_
   refine zaz ?_
   refine zbp zak hc mixed rfl (q := 0) (by kernel_rfl) (by kernel_rfl) fun K10 hK10 => ?_
   simp -dsimp -implicitDefEqProofs (disch := first | assumption | omega | (simp only [r_z] <;> omega) | decide) only [r_r, ↓reduceIte, Nat.reduceEqDiff, Nat.reduceAdd, D.fix, Int.reduceToNat, Nat.reduceMul, Nat.reduceBNe, Nat.reduceBEq, zhj]
   refine hK10 _ _ ?_
   refine zaq rfl (fun ht => ?_) (fun ht => ?_)
   ·have hne : a ≠ b := fun e => by subst e; simp at ht
    refine zac hp zak hc rfl fun K11 hK11 => ?_
    simp -dsimp -implicitDefEqProofs (disch := first | assumption | omega | (simp only [r_z] <;> omega) | decide) only [r_r, ↓reduceIte, Nat.reduceEqDiff, Nat.reduceAdd, D.fix, Int.reduceToNat, Nat.reduceMul, Nat.reduceBNe, Nat.reduceBEq]
    refine hK11 _ _ ?_
    refine za4 ?_
    show closeA _ _ = _
    simp (disch := first | assumption | omega | (simp only [r_z] <;> omega) | decide) only [r_c, Nat.reduceAdd, D.fix, ↓reduceIte, Nat.reduceEqDiff]
    simp [hne]
   ·refine zay (hK9 _ _ ?_)
    refine zbt hp zak hc rfl fun K12 hK12 => ?_
    simp -dsimp -implicitDefEqProofs (disch := first | assumption | omega | (simp only [r_z] <;> omega) | decide) only [r_r, ↓reduceIte, Nat.reduceEqDiff, Nat.reduceAdd, D.fix, Int.reduceToNat, Nat.reduceMul, Nat.reduceBNe, Nat.reduceBEq, zhj]
    refine hK12 _ _ ⟨_, _, _, ?_, ⟨k + 1, ⟨by omega, zly hlt hlt2 htake (by simpa using ht)⟩, rfl, rfl, rfl⟩, ?_⟩
    ·first | omega | (simp only [List.length_cons]; omega) | (dsimp only; omega)
    ·refine Rt.end (by repeat (first | exact zam _ | refine zai ?_ (by first | rfl | (simp [r_f]; done) | simp [r_f, *]))) ?_
     first | rfl | (simp only [r_g, Nat.reduceAdd, ↓reduceIte, Nat.reduceEqDiff]; first | done | rfl)
  ·have hge : k = a.length := by simp at ht; omega
   have he : a = b := by rw [hge, List.take_length, hl, List.take_length] at htake; exact htake
   refine zbn (hK5 _ _ ?_)
   refine zac hp zak hc rfl fun K13 hK13 => ?_
   simp -dsimp -implicitDefEqProofs (disch := first | assumption | omega | (simp only [r_z] <;> omega) | decide) only [r_r, ↓reduceIte, Nat.reduceEqDiff, Nat.reduceAdd, D.fix, Int.reduceToNat, Nat.reduceMul, Nat.reduceBNe, Nat.reduceBEq]
   refine hK13 _ _ ?_
   refine za4 ?_
   show closeA _ _ = _
   simp (disch := first | assumption | omega | (simp only [r_z] <;> omega) | decide) only [r_c, Nat.reduceAdd, D.fix, ↓reduceIte, Nat.reduceEqDiff]
   simp [he]
theorem jty (l : List Bool) (i : Nat) (hl : l.length ≤ maxLen) (hi : i ≤ 1000000) : zbd Try.prog 38 [boolsD l, iD i] (.d (oD (atB l i))) := by
 unfold maxLen at hl
 refine zbg (fn := Try.f38) (by kernel_rfl) Try.func38 rfl (Nat.le_of_ble_eq_true rfl) fun c hc hp => ?_
 refine zbh (τ' := frL [(0, .d (boolsD l)), (1, .d (iD i))]) (by repeat (first | exact zam _ | refine zai ?_ (by first | rfl | (simp [r_f]; done) | simp [r_f, *]))) ?_
 refine zac hp zak hc rfl fun K1 hK1 => ?_
 simp -dsimp -implicitDefEqProofs (disch := first | assumption | omega | (simp only [r_z] <;> omega) | decide) only [r_r, ↓reduceIte, Nat.reduceEqDiff, Nat.reduceAdd, D.fix, Int.reduceToNat, Nat.reduceMul, Nat.reduceBNe, Nat.reduceBEq]
 refine hK1 _ _ ?_
 refine zac hp zak hc rfl fun K2 hK2 => ?_
 by_cases h : i < l.length
 ·have q0 : decide ((0 : Int) ≤ i) = true := by simp
  have q1 : decide ((i : Int) < l.length) = true := by simp; omega
  have hx : atB l i = nth l i := by unfold atB; rw [decide_eq_true h]; rfl
  simp -dsimp -implicitDefEqProofs (disch := first | assumption | omega | (simp only [r_z] <;> omega) | decide) only [r_r, ↓reduceIte, Nat.reduceEqDiff, Nat.reduceAdd, D.fix, Int.reduceToNat, Nat.reduceMul, Nat.reduceBNe, Nat.reduceBEq, q0, q1, zc2, zhj]
  refine hK2 _ _ ?_
  refine za4 ?_
  show closeA _ _ = _
  simp (disch := first | assumption | omega | (simp only [r_z] <;> omega) | decide) only [r_c, Nat.reduceAdd, D.fix, ↓reduceIte, Nat.reduceEqDiff]
  rw [hx]
 ·have q0 : decide ((0 : Int) ≤ i) = true := by simp
  have q1 : decide ((i : Int) < l.length) = false := by simp; omega
  have hx : atB l i = false := by unfold atB; rw [decide_eq_false h]; rfl
  simp -dsimp -implicitDefEqProofs (disch := first | assumption | omega | (simp only [r_z] <;> omega) | decide) only [r_r, ↓reduceIte, Nat.reduceEqDiff, Nat.reduceAdd, D.fix, Int.reduceToNat, Nat.reduceMul, Nat.reduceBNe, Nat.reduceBEq, q0, q1, zc2, zhj]
  refine hK2 _ _ ?_
  refine za4 ?_
  show closeA _ _ = _
  simp (disch := first | assumption | omega | (simp only [r_z] <;> omega) | decide) only [r_c, Nat.reduceAdd, D.fix, ↓reduceIte, Nat.reduceEqDiff]
  rw [hx]
def zmq (m : Nat) (l : List Bool) : List Bool := (List.range m).map (atB l)
theorem ztz {α : Type} {f : Nat → α} {k : Nat} : (List.range (k + 1)).map f = (List.range k).map f ++ [f k] := by rw [List.range_succ, List.map_append]; rfl
theorem jgk (n : Net) (l : List Bool) (hl : l.length ≤ maxLen) (hi : n.ins.length ≤ 1000000) (hg : n.gates.length ≤ 1000000) : zbd Try.prog 21 [zaw n, boolsD l] (.d (boolsD (zmq n.ins.length l))) := by
 refine zbg (fn := Try.f21) (by kernel_rfl) Try.func21 rfl (Nat.le_of_ble_eq_true rfl) fun c hc hp => ?_
 refine zbh (τ' := frL [(0, .d (zaw n)), (1, .d (boolsD l))]) (by repeat (first | exact zam _ | refine zai ?_ (by first | rfl | (simp [r_f, zaa]; done) | simp [r_f, zaa, *]))) ?_
 refine zac hp zak hc rfl fun K1 hK1 => ?_
 simp -dsimp -implicitDefEqProofs (disch := first | assumption | omega | (simp only [r_z, zaa] <;> omega) | decide) only [r_r, ↓reduceIte, Nat.reduceEqDiff, Nat.reduceAdd, D.fix, Int.reduceToNat, Nat.reduceMul, Nat.reduceBNe, Nat.reduceBEq, zaw, zax, zaf, zag, zhj]
 refine hK1 _ _ ?_
 refine zac hp zak hc rfl fun K2 hK2 => ?_
 simp -dsimp -implicitDefEqProofs (disch := first | assumption | omega | (simp only [r_z, zaa] <;> omega) | decide) only [r_r, ↓reduceIte, Nat.reduceEqDiff, Nat.reduceAdd, D.fix, Int.reduceToNat, Nat.reduceMul, Nat.reduceBNe, Nat.reduceBEq, zaw, zax, zaf, zag, zhj]
 refine hK2 _ _ ?_
 refine zao fun K3 hK3 => ?_
 refine zac hp zak hc rfl fun K4 hK4 => ?_
 simp -dsimp -implicitDefEqProofs (disch := first | assumption | omega | (simp only [r_z, zaa] <;> omega) | decide) only [r_r, ↓reduceIte, Nat.reduceEqDiff, Nat.reduceAdd, D.fix, Int.reduceToNat, Nat.reduceMul, Nat.reduceBNe, Nat.reduceBEq, zaw, zax, zaf, zag]
 refine hK4 _ _ ?_
 refine zaz ?_
 refine zbb hp (fun τ' H' mm => ∃ (k : Nat), (k ≤ n.ins.length) ∧ mm = n.ins.length - k ∧ H' = [.cells (avs (zax n)), .cells (avs ((zmq k l).map oD))] ∧ τ' = frL [(1, .d (boolsD l)), (2, .op 0 0), (5, .os 1 1 0 k), (6, .d (iD k))]) (n.ins.length) ?_ ⟨0, Nat.zero_le _, rfl, rfl, rfl⟩ ?_
 ·refine Rt.end (by repeat (first | exact zam _ | refine zai ?_ (by first | rfl | (simp [r_f, zaa]; done) | simp [r_f, zaa, *]))) ?_
  simp only [r_g, Nat.reduceAdd, ↓reduceIte, Nat.reduceEqDiff, zaw, zax, zaf, zag]; simp; rfl
 rintro τ' H' mm ⟨k, hk, rfl, rfl, rfl⟩
 refine zao fun K5 hK5 => ?_
 refine zac hp zak hc rfl fun K6 hK6 => ?_
 simp -dsimp -implicitDefEqProofs (disch := first | assumption | omega | (simp only [r_z, zaa] <;> omega) | decide) only [r_r, ↓reduceIte, Nat.reduceEqDiff, Nat.reduceAdd, D.fix, Int.reduceToNat, Nat.reduceMul, Nat.reduceBNe, Nat.reduceBEq, zaw, zax, zaf, zag, zhj]
 refine hK6 _ _ ?_
 refine zaq rfl (fun ht => ?_) (fun ht => ?_)
 ·have hlt : k < n.ins.length := by simp at ht; omega
  have hlen : (zmq k l).length = k := by simp [zmq]
  refine zay (hK5 _ _ ?_)
  refine zao fun K7 hK7 => ?_
  refine zaz ?_
  refine zbt hp zak hc rfl fun K8 hK8 => ?_
  simp -dsimp -implicitDefEqProofs (disch := first | assumption | omega | (simp only [r_z, zaa] <;> omega) | decide) only [r_r, ↓reduceIte, Nat.reduceEqDiff, Nat.reduceAdd, D.fix, Int.reduceToNat, Nat.reduceMul, Nat.reduceBNe, Nat.reduceBEq, zaw, zax, zaf, zag, zhj]
  refine zb8 (jty l k hl (by omega)) rfl ?_
  simp -dsimp -implicitDefEqProofs (disch := first | assumption | omega | (simp only [r_z, zaa] <;> omega) | decide) only [r_r, ↓reduceIte, Nat.reduceEqDiff, Nat.reduceAdd, D.fix, Int.reduceToNat, Nat.reduceMul, Nat.reduceBNe, Nat.reduceBEq, zaw, zax, zaf, zag, zhj]
  refine hK8 _ _ (hK7 _ _ ?_)
  refine zbt hp zak hc rfl fun K9 hK9 => ?_
  simp -dsimp -implicitDefEqProofs (disch := first | assumption | omega | (simp only [r_z, zaa] <;> omega) | decide) only [r_r, ↓reduceIte, Nat.reduceEqDiff, Nat.reduceAdd, D.fix, Int.reduceToNat, Nat.reduceMul, Nat.reduceBNe, Nat.reduceBEq, zaw, zax, zaf, zag, zhj]
  refine hK9 _ _ ⟨_, _, _, ?_, ⟨k + 1, by omega, rfl, rfl, rfl⟩, ?_⟩
  ·first | omega | (simp only [List.length_cons]; omega) | (dsimp only; omega)
  ·refine Rt.trans (Rt.gc (keep := [0,3]) (by decide) (by decide) (by simp [fzH, gcH])) ?_
   refine Rt.end (by repeat (first | exact zam _ | refine zai ?_ (by first | rfl | (simp [r_f, zaa]; done) | simp [r_f, zaa, *]))) ?_
   simp only [r_g, Nat.reduceAdd, ↓reduceIte, Nat.reduceEqDiff, zaw, zax, zaf, zag]; simp [zmq, ztz, iD, oD]
 ·have hke : k = n.ins.length := by simp at ht; omega
  subst hke
  have hlen : (zmq n.ins.length l).length = n.ins.length := by simp [zmq]
  refine zbn (hK3 _ _ ?_)
  refine zac hp zak hc rfl fun K10 hK10 => ?_
  simp -dsimp -implicitDefEqProofs (disch := first | assumption | omega | (simp only [r_z, zaa] <;> omega) | decide) only [r_r, ↓reduceIte, Nat.reduceEqDiff, Nat.reduceAdd, D.fix, Int.reduceToNat, Nat.reduceMul, Nat.reduceBNe, Nat.reduceBEq, zaw, zax, zaf, zag]
  refine hK10 _ _ ?_
  refine za4 ?_
  show closeA _ _ = _
  simp (disch := first | assumption | omega | (simp only [r_z, zaa] <;> omega) | decide) only [r_c, Nat.reduceAdd, D.fix, ↓reduceIte, Nat.reduceEqDiff, zaw, zax, zaf, zag]
  simp [hlen]
theorem zt0 (n : Net) (hi : n.ins.length ≤ 1000000) (hg : n.gates.length ≤ 1000000) : zbd Try.prog 18 [zaw n] (.d (iD (2 + n.ins.length + n.gates.length))) := by
 refine zbg (fn := Try.f18) (by kernel_rfl) Try.func18 rfl (Nat.le_of_ble_eq_true rfl) fun c hc hp => ?_
 refine zbh (τ' := frL [(0, .d (zaw n))]) (by repeat (first | exact zam _ | refine zai ?_ (by first | rfl | (simp [r_f, zaa, zab]; done) | simp [r_f, zaa, zab, *]))) ?_
 refine zac hp zak hc rfl fun K1 hK1 => ?_
 simp -dsimp -implicitDefEqProofs (disch := first | assumption | omega | (simp only [r_z, zaa, zab] <;> omega) | decide) only [r_r, ↓reduceIte, Nat.reduceEqDiff, Nat.reduceAdd, D.fix, Int.reduceToNat, Nat.reduceMul, Nat.reduceBNe, Nat.reduceBEq, zaw, zax, zaf, zag, zhj]
 refine hK1 _ _ ?_
 refine zac hp zak hc rfl fun K2 hK2 => ?_
 simp -dsimp -implicitDefEqProofs (disch := first | assumption | omega | (simp only [r_z, zaa, zab] <;> omega) | decide) only [r_r, ↓reduceIte, Nat.reduceEqDiff, Nat.reduceAdd, D.fix, Int.reduceToNat, Nat.reduceMul, Nat.reduceBNe, Nat.reduceBEq, zaw, zax, zaf, zag, zhj]
 refine hK2 _ _ ?_
 refine za4 ?_
 show closeA _ _ = _
 simp (disch := first | assumption | omega | (simp only [r_z, zaa, zab] <;> omega) | decide) only [r_c, Nat.reduceAdd, D.fix, ↓reduceIte, Nat.reduceEqDiff, zaw, zax, zaf, zag]
def zxz (n : Net) : List Int := (List.range (2 + n.ins.length + n.gates.length)).map fun (k : Nat) => (k : Int)
theorem za6 (n : Net) : (zxz n).length = 2 + n.ins.length + n.gates.length := by simp [zxz]
theorem jqz (n : Net) (sh : Sh) (hsh : ShOk sh) (hi : n.ins.length ≤ 1000000) : zbd Try.prog 13 [zaw n, shD sh] (.d (iD (zc3 n.ins.length sh))) := by
 have hs8 := hsh.len
 refine zbg (fn := Try.f13) (by kernel_rfl) Try.func13 rfl (Nat.le_of_ble_eq_true rfl) fun c hc hp => ?_
 refine zbh (τ' := frL [(0, .d (zaw n)), (1, .d (shD sh))]) (by repeat (first | exact zam _ | refine zai ?_ (by first | rfl | (simp [r_f, zaa, zae, hfs1]; done) | simp [r_f, zaa, zae, hfs1, *]))) ?_
 refine zac hp zak hc rfl fun K1 hK1 => ?_
 simp -dsimp -implicitDefEqProofs (disch := first | assumption | omega | (simp only [r_z, zaa, zae] <;> omega) | decide) only [r_r, ↓reduceIte, Nat.reduceEqDiff, Nat.reduceAdd, D.fix, Int.reduceToNat, Nat.reduceMul, Nat.reduceBNe, Nat.reduceBEq, zaw, zax, zaf, zag, shD, zhj]
 refine hK1 _ _ ?_
 refine zac hp zak hc rfl fun K2 hK2 => ?_
 simp -dsimp -implicitDefEqProofs (disch := first | assumption | omega | (simp only [r_z, zaa, zae] <;> omega) | decide) only [r_r, ↓reduceIte, Nat.reduceEqDiff, Nat.reduceAdd, D.fix, Int.reduceToNat, Nat.reduceMul, Nat.reduceBNe, Nat.reduceBEq, zaw, zax, zaf, zag, shD, zhj]
 refine hK2 _ _ ?_
 refine zao fun K3 hK3 => ?_
 refine zac hp zak hc rfl fun K4 hK4 => ?_
 simp -dsimp -implicitDefEqProofs (disch := first | assumption | omega | (simp only [r_z, zaa, zae] <;> omega) | decide) only [r_r, ↓reduceIte, Nat.reduceEqDiff, Nat.reduceAdd, D.fix, Int.reduceToNat, Nat.reduceMul, Nat.reduceBNe, Nat.reduceBEq, zaw, zax, zaf, zag, shD]
 refine hK4 _ _ ?_
 refine zaz ?_
 refine zbb hp (fun τ' H' mm => ∃ (k : Nat), (k ≤ sh.length) ∧ mm = sh.length - k ∧ H' = [] ∧ τ' = frL [(1, .d (shD sh)), (5, .d (iD (zbv n.ins.length sh k))), (6, .d (iD k))]) (sh.length) ?_ ⟨0, Nat.zero_le _, rfl, rfl, rfl⟩ ?_
 ·refine Rt.trans (Rt.gc (keep := []) (by decide) (by decide) (by simp [fzH, gcH])) ?_
  refine Rt.end (by repeat (first | exact zam _ | refine zai ?_ (by first | rfl | (simp [r_f, zaa, zae, hfs1]; done) | simp [r_f, zaa, zae, hfs1, *]))) ?_
  first | rfl | (simp only [r_g, Nat.reduceAdd, ↓reduceIte, Nat.reduceEqDiff, zaw, zax, zaf, zag, shD]; first | done | rfl)
 rintro τ' H' mm ⟨k, hk, rfl, rfl, rfl⟩
 refine zao fun K5 hK5 => ?_
 refine zac hp zak hc rfl fun K6 hK6 => ?_
 simp -dsimp -implicitDefEqProofs (disch := first | assumption | omega | (simp only [r_z, zaa, zae] <;> omega) | decide) only [r_r, ↓reduceIte, Nat.reduceEqDiff, Nat.reduceAdd, D.fix, Int.reduceToNat, Nat.reduceMul, Nat.reduceBNe, Nat.reduceBEq, zaw, zax, zaf, zag, shD, zhj]
 refine hK6 _ _ ?_
 refine zaq rfl (fun ht => ?_) (fun ht => ?_)
 ·have hlt : k < sh.length := by simp at ht; omega
  have fb := znr (base := n.ins.length) hsh (k := k) (by omega)
  have hel := hsh.el k hlt
  have hib : ((nth sh k).1 : Int) * ((nth sh k).2 : Int) ≤ 64 := by
   have := Nat.mul_le_mul hel.1 hel.2
   omega
  have hib0 : 0 ≤ ((nth sh k).1 : Int) * ((nth sh k).2 : Int) := by
   have : (((nth sh k).1 * (nth sh k).2 : Nat) : Int) = ((nth sh k).1 : Int) * ((nth sh k).2 : Int) := by simp
   omega
  have hfs1 : (zbv n.ins.length sh (k + 1) : Int) = (zbv n.ins.length sh k : Int) + ((nth sh k).1 : Int) * ((nth sh k).2 : Int) := by rw [zep hlt]; simp
  refine zay (hK5 _ _ ?_)
  refine zao fun K7 hK7 => ?_
  refine zaz ?_
  refine zon zak hc mixed rfl (q := 0) (by kernel_rfl) (by kernel_rfl) fun K8 hK8 => ?_
  simp -dsimp -implicitDefEqProofs (disch := first | assumption | omega | (simp only [r_z, zaa, zae] <;> omega) | decide) only [r_r, ↓reduceIte, Nat.reduceEqDiff, Nat.reduceAdd, D.fix, Int.reduceToNat, Nat.reduceMul, Nat.reduceBNe, Nat.reduceBEq, zaw, zax, zaf, zag, shD, jf7, jf8, zhj]
  refine hK8 _ _ (hK7 _ _ ?_)
  refine zbt hp zak hc rfl fun K9 hK9 => ?_
  simp -dsimp -implicitDefEqProofs (disch := first | assumption | omega | (simp only [r_z, zaa, zae] <;> omega) | decide) only [r_r, ↓reduceIte, Nat.reduceEqDiff, Nat.reduceAdd, D.fix, Int.reduceToNat, Nat.reduceMul, Nat.reduceBNe, Nat.reduceBEq, zaw, zax, zaf, zag, shD, zhj]
  refine hK9 _ _ ⟨_, _, _, ?_, ⟨k + 1, by omega, rfl, rfl, rfl⟩, ?_⟩
  ·first | omega | (simp only [List.length_cons]; omega) | (dsimp only; omega)
  ·refine Rt.end (by repeat (first | exact zam _ | refine zai ?_ (by first | rfl | (simp [r_f, zaa, zae, hfs1]; done) | simp [r_f, zaa, zae, hfs1, *]))) ?_
   first | rfl | (simp only [r_g, Nat.reduceAdd, ↓reduceIte, Nat.reduceEqDiff, zaw, zax, zaf, zag, shD]; first | done | rfl)
 ·have hke : k = sh.length := by simp at ht; omega
  subst hke
  refine zbn (hK3 _ _ ?_)
  refine zac hp zak hc rfl fun K10 hK10 => ?_
  simp -dsimp -implicitDefEqProofs (disch := first | assumption | omega | (simp only [r_z, zaa, zae] <;> omega) | decide) only [r_r, ↓reduceIte, Nat.reduceEqDiff, Nat.reduceAdd, D.fix, Int.reduceToNat, Nat.reduceMul, Nat.reduceBNe, Nat.reduceBEq, zaw, zax, zaf, zag, shD]
  refine hK10 _ _ ?_
  refine za4 ?_
  show closeA _ _ = _
  simp (disch := first | assumption | omega | (simp only [r_z, zaa, zae] <;> omega) | decide) only [r_c, Nat.reduceAdd, D.fix, ↓reduceIte, Nat.reduceEqDiff, zaw, zax, zaf, zag, shD]
  rfl
end Go.Proofs.Ytignimmnnccblaa

/- The reference's assignments, memories, shapes; equal diagrams. -/
set_option linter.unusedVariables false
set_option linter.unusedSimpArgs false
set_option maxRecDepth 100000
set_option maxHeartbeats 4000000
namespace Go.Proofs.Ytignimmnnccblaa
open Go Go.RowKit
theorem zhu : ((((((type_of% @zkg) ∧ (type_of% @zkh)) ∧ ((type_of% @zki) ∧ (type_of% @zkj))) ∧ (((type_of% @zl0) ∧ (type_of% @zl1)) ∧ ((type_of% @ze4) ∧ ((type_of% @ze5) ∧ (type_of% @ze7))))) ∧ ((((type_of% @jpf) ∧ (type_of% @jpg)) ∧ ((type_of% @jph) ∧ (type_of% @zhw))) ∧ (((type_of% @zhx) ∧ (type_of% @zd1)) ∧ ((type_of% @zd2) ∧ ((type_of% @zsc) ∧ (type_of% @zsd)))))) ∧ (((((type_of% @zse) ∧ (type_of% @zsf)) ∧ ((type_of% @zda) ∧ (type_of% @zdb))) ∧ (((type_of% @zfs) ∧ (type_of% @zft)) ∧ ((type_of% @zfu) ∧ ((type_of% @zfv) ∧ (type_of% @zfd))))) ∧ ((((type_of% @zfe) ∧ (type_of% @zff)) ∧ ((type_of% @zfg) ∧ ((type_of% @zdm) ∧ (type_of% @zdn)))) ∧ (((type_of% @zdo) ∧ (type_of% @zdv)) ∧ ((type_of% @zkn) ∧ ((type_of% @zko) ∧ (type_of% @zkp))))))) := ⟨⟨⟨⟨⟨@zkg, @zkh⟩, ⟨@zki, @zkj⟩⟩, ⟨⟨@zl0, @zl1⟩, ⟨@ze4, ⟨@ze5, @ze7⟩⟩⟩⟩, ⟨⟨⟨@jpf, @jpg⟩, ⟨@jph, @zhw⟩⟩, ⟨⟨@zhx, @zd1⟩, ⟨@zd2, ⟨@zsc, @zsd⟩⟩⟩⟩⟩, ⟨⟨⟨⟨@zse, @zsf⟩, ⟨@zda, @zdb⟩⟩, ⟨⟨@zfs, @zft⟩, ⟨@zfu, ⟨@zfv, @zfd⟩⟩⟩⟩, ⟨⟨⟨@zfe, @zff⟩, ⟨@zfg, ⟨@zdm, @zdn⟩⟩⟩, ⟨⟨@zdo, @zdv⟩, ⟨@zkn, ⟨@zko, @zkp⟩⟩⟩⟩⟩⟩
theorem jgl {keep : List Nat} {a : List D} {x : AV} : gcVs keep (avs a ++ [x]) = avs a ++ [gcV keep x] := by
 rw [zfn, List.map_append]
 congr 1
 rw [← zfn]; exact zps
theorem jgm {id : Nat} {l : List D} {a : List D} {x : AV} : fzVs id l (avs a ++ [x]) = avs a ++ [fzV id l x] := by
 rw [zfp, List.map_append]
 congr 1
 rw [← zfp]; exact zpt
theorem jq0 {id n : Nat} {l : List D} (h : l.length = n) : fzV id l (.os 1 id 0 n) = .d (.fs l n) := zrw (by rw [Nat.mul_one]; exact zdh h)
def zg6 (v : Nat) (i : Int) : List Bool := (List.range v).map fun (j : Nat) => jl8 i ((v : Int) - 1 - j)
def zqv (l : List Bool) (base : Nat) : Nat → Nat
 | 0 => 0
 | b + 1 => zqv l base b + if atB l (base + b) then 2 ^ b else 0
theorem zx0 (l : List Bool) (base : Nat) : ∀ b, zqv l base b < 2 ^ b
 | 0 => by simp [zqv]
 | b + 1 => by
  have := zx0 l base b
  have e : 2 ^ (b + 1) = 2 ^ b + 2 ^ b := by rw [Nat.pow_succ]; omega
  unfold zqv
  split <;> omega
def jgn (l : List Bool) (base : Nat) (p : Nat × Nat) : List Int := (List.range p.1).map fun j => (zqv l (base + j * p.2) p.2 : Nat)
def zg3 (base : Nat) (sh : Sh) (l : List Bool) : List (List Int) := (List.range sh.length).map fun i => jgn l (zbv base sh i) (nth sh i)
theorem jq1 (n : Net) (sh : Sh) (l : List Bool) (hsh : ShOk sh) (hl : l.length ≤ maxLen) (hi : n.ins.length ≤ 10000) : zbd Try.prog 22 [zaw n, shD sh, boolsD l] (.d (intssD (zg3 n.ins.length sh l))) := by
 have hs8 := hsh.len
 refine zbg (fn := Try.f22) (by kernel_rfl) Try.func22 rfl (Nat.le_of_ble_eq_true rfl) fun c hc hp => ?_
 refine zbh (τ' := frL [(0, .d (zaw n)), (1, .d (shD sh)), (2, .d (boolsD l))]) (by repeat (first | exact zam _ | refine zai ?_ (by first | rfl | (simp [r_f, zaa, zae, Int.add_assoc]; done) | simp [r_f, zaa, zae, Int.add_assoc, *]))) ?_
 refine zac hp zak hc rfl fun K1 hK1 => ?_
 simp -dsimp -implicitDefEqProofs (disch := first | assumption | omega | (simp only [r_z, zaa, zae] <;> omega) | decide) only [r_r, ↓reduceIte, Nat.reduceEqDiff, Nat.reduceAdd, D.fix, Int.reduceToNat, Nat.reduceMul, Nat.reduceBNe, Nat.reduceBEq, zaw, zax, zaf, zag, shD, zhu]
 refine hK1 _ _ ?_
 refine zac hp zak hc rfl fun K2 hK2 => ?_
 simp -dsimp -implicitDefEqProofs (disch := first | assumption | omega | (simp only [r_z, zaa, zae] <;> omega) | decide) only [r_r, ↓reduceIte, Nat.reduceEqDiff, Nat.reduceAdd, D.fix, Int.reduceToNat, Nat.reduceMul, Nat.reduceBNe, Nat.reduceBEq, zaw, zax, zaf, zag, shD, zhu]
 refine hK2 _ _ ?_
 refine zac hp zak hc rfl fun K3 hK3 => ?_
 simp -dsimp -implicitDefEqProofs (disch := first | assumption | omega | (simp only [r_z, zaa, zae] <;> omega) | decide) only [r_r, ↓reduceIte, Nat.reduceEqDiff, Nat.reduceAdd, D.fix, Int.reduceToNat, Nat.reduceMul, Nat.reduceBNe, Nat.reduceBEq, zaw, zax, zaf, zag, shD, zhu]
 refine hK3 _ _ ?_
 refine zao fun K4 hK4 => ?_
 refine zac hp zak hc rfl fun K5 hK5 => ?_
 simp -dsimp -implicitDefEqProofs (disch := first | assumption | omega | (simp only [r_z, zaa, zae] <;> omega) | decide) only [r_r, ↓reduceIte, Nat.reduceEqDiff, Nat.reduceAdd, D.fix, Int.reduceToNat, Nat.reduceMul, Nat.reduceBNe, Nat.reduceBEq, zaw, zax, zaf, zag, shD]
 refine hK5 _ _ ?_
 refine zaz ?_
 refine zbb hp (fun τ' H' mm => ∃ (k : Nat), (k ≤ sh.length) ∧ mm = sh.length - k ∧ H' = [.cells (avs (((List.range k).map fun i => jgn l (zbv n.ins.length sh i) (nth sh i)).map intsD))] ∧ τ' = frL [(1, .d (shD sh)), (2, .d (boolsD l)), (7, .os 1 0 0 k), (8, .d (iD (zbv n.ins.length sh k))), (9, .d (iD k))]) (sh.length) ?_ ⟨0, Nat.zero_le _, rfl, rfl, rfl⟩ ?_
 ·refine Rt.trans (Rt.gc (keep := [1]) (by decide) (by decide) (by simp [fzH, gcH])) ?_
  refine Rt.end (by repeat (first | exact zam _ | refine zai ?_ (by first | rfl | (simp [r_f, zaa, zae, Int.add_assoc]; done) | simp [r_f, zaa, zae, Int.add_assoc, *]))) ?_
  simp only [r_g, Nat.reduceAdd, ↓reduceIte, Nat.reduceEqDiff, zaw, zax, zaf, zag, shD]; simp; rfl
 rintro τ' H' mm ⟨k, hk, rfl, rfl, rfl⟩
 refine zao fun K6 hK6 => ?_
 refine zac hp zak hc rfl fun K7 hK7 => ?_
 simp -dsimp -implicitDefEqProofs (disch := first | assumption | omega | (simp only [r_z, zaa, zae] <;> omega) | decide) only [r_r, ↓reduceIte, Nat.reduceEqDiff, Nat.reduceAdd, D.fix, Int.reduceToNat, Nat.reduceMul, Nat.reduceBNe, Nat.reduceBEq, zaw, zax, zaf, zag, shD, zhu]
 refine hK7 _ _ ?_
 refine zaq rfl (fun ht => ?_) (fun ht => ?_)
 ·have hlt : k < sh.length := by simp at ht; omega
  have fb := znr (base := n.ins.length) hsh (k := k) (by omega)
  have hel := hsh.el k hlt
  have hmm := Nat.mul_le_mul hel.1 hel.2
  refine zay (hK6 _ _ ?_)
  refine zao fun K8 hK8 => ?_
  refine zaz ?_
  refine zac hp zak hc rfl fun K9 hK9 => ?_
  simp -dsimp -implicitDefEqProofs (disch := first | assumption | omega | (simp only [r_z, zaa, zae] <;> omega) | decide) only [r_r, ↓reduceIte, Nat.reduceEqDiff, Nat.reduceAdd, D.fix, Int.reduceToNat, Nat.reduceMul, Nat.reduceBNe, Nat.reduceBEq, zaw, zax, zaf, zag, shD, zhu]
  refine hK9 _ _ ?_
  refine zao fun K10 hK10 => ?_
  refine zac hp zak hc rfl fun K11 hK11 => ?_
  simp -dsimp -implicitDefEqProofs (disch := first | assumption | omega | (simp only [r_z, zaa, zae] <;> omega) | decide) only [r_r, ↓reduceIte, Nat.reduceEqDiff, Nat.reduceAdd, D.fix, Int.reduceToNat, Nat.reduceMul, Nat.reduceBNe, Nat.reduceBEq, zaw, zax, zaf, zag, shD]
  refine hK11 _ _ ?_
  refine zaz ?_
  refine zbb hp (fun τ' H' mm => ∃ (j : Nat), (j ≤ (nth sh k).1) ∧ mm = (nth sh k).1 - j ∧ H' = [.cells (avs (((List.range k).map fun i => jgn l (zbv n.ins.length sh i) (nth sh i)).map intsD)), .cells (avs (((List.range j).map fun j => ((zqv l (zbv n.ins.length sh k + j * (nth sh k).2) (nth sh k).2 : Nat) : Int)).map iD))] ∧ τ' = frL [(1, .d (shD sh)), (2, .d (boolsD l)), (7, .os 1 0 0 k), (8, .d (iD ((zbv n.ins.length sh k + j * (nth sh k).2 : Nat) : Int))), (9, .d (iD k)), (10, .os 1 1 0 j), (11, .d (iD j))]) ((nth sh k).1) ?_ ⟨0, Nat.zero_le _, rfl, rfl, rfl⟩ ?_
  ·refine Rt.end (by repeat (first | exact zam _ | refine zai ?_ (by first | rfl | (simp [r_f, zaa, zae, Int.add_assoc]; done) | simp [r_f, zaa, zae, Int.add_assoc, *]))) ?_
   first | rfl | (simp only [r_g, Nat.reduceAdd, ↓reduceIte, Nat.reduceEqDiff, zaw, zax, zaf, zag, shD]; first | done | rfl)
  rintro τ' H' mm ⟨j, hj, rfl, rfl, rfl⟩
  refine zao fun K12 hK12 => ?_
  refine zac hp zak hc rfl fun K13 hK13 => ?_
  simp -dsimp -implicitDefEqProofs (disch := first | assumption | omega | (simp only [r_z, zaa, zae] <;> omega) | decide) only [r_r, ↓reduceIte, Nat.reduceEqDiff, Nat.reduceAdd, D.fix, Int.reduceToNat, Nat.reduceMul, Nat.reduceBNe, Nat.reduceBEq, zaw, zax, zaf, zag, shD, jf7, jf8, zhu]
  refine hK13 _ _ ?_
  refine zaq rfl (fun ht => ?_) (fun ht => ?_)
  ·have hjl : j < (nth sh k).1 := by simp at ht; omega
   have hjb := Nat.mul_le_mul (Nat.le_of_lt hjl) hel.2
   refine zay (hK12 _ _ ?_)
   refine zao fun K14 hK14 => ?_
   refine zaz ?_
   refine zac hp zak hc rfl fun K15 hK15 => ?_
   simp -dsimp -implicitDefEqProofs (disch := first | assumption | omega | (simp only [r_z, zaa, zae] <;> omega) | decide) only [r_r, ↓reduceIte, Nat.reduceEqDiff, Nat.reduceAdd, D.fix, Int.reduceToNat, Nat.reduceMul, Nat.reduceBNe, Nat.reduceBEq, zaw, zax, zaf, zag, shD]
   refine hK15 _ _ ?_
   refine zao fun K16 hK16 => ?_
   refine zac hp zak hc rfl fun K17 hK17 => ?_
   simp -dsimp -implicitDefEqProofs (disch := first | assumption | omega | (simp only [r_z, zaa, zae] <;> omega) | decide) only [r_r, ↓reduceIte, Nat.reduceEqDiff, Nat.reduceAdd, D.fix, Int.reduceToNat, Nat.reduceMul, Nat.reduceBNe, Nat.reduceBEq, zaw, zax, zaf, zag, shD]
   refine hK17 _ _ ?_
   refine zaz ?_
   refine zbb hp (fun τ' H' mm => ∃ (b : Nat), (b ≤ (nth sh k).2) ∧ mm = (nth sh k).2 - b ∧ H' = [.cells (avs (((List.range k).map fun i => jgn l (zbv n.ins.length sh i) (nth sh i)).map intsD)), .cells (avs (((List.range j).map fun j => ((zqv l (zbv n.ins.length sh k + j * (nth sh k).2) (nth sh k).2 : Nat) : Int)).map iD))] ∧ τ' = frL [(1, .d (shD sh)), (2, .d (boolsD l)), (7, .os 1 0 0 k), (8, .d (iD ((zbv n.ins.length sh k + j * (nth sh k).2 + b : Nat) : Int))), (9, .d (iD k)), (10, .os 1 1 0 j), (11, .d (iD j)), (12, .d (iD (zqv l (zbv n.ins.length sh k + j * (nth sh k).2) b : Nat))), (13, .d (iD b))]) ((nth sh k).2) ?_ ⟨0, Nat.zero_le _, rfl, rfl, rfl⟩ ?_
   ·refine Rt.end (by repeat (first | exact zam _ | refine zai ?_ (by first | rfl | (simp [r_f, zaa, zae, Int.add_assoc]; done) | simp [r_f, zaa, zae, Int.add_assoc, *]))) ?_
    first | rfl | (simp only [r_g, Nat.reduceAdd, ↓reduceIte, Nat.reduceEqDiff, zaw, zax, zaf, zag, shD]; first | done | rfl)
   rintro τ' H' mm ⟨b, hb, rfl, rfl, rfl⟩
   refine zao fun K18 hK18 => ?_
   refine zac hp zak hc rfl fun K19 hK19 => ?_
   simp -dsimp -implicitDefEqProofs (disch := first | assumption | omega | (simp only [r_z, zaa, zae] <;> omega) | decide) only [r_r, ↓reduceIte, Nat.reduceEqDiff, Nat.reduceAdd, D.fix, Int.reduceToNat, Nat.reduceMul, Nat.reduceBNe, Nat.reduceBEq, zaw, zax, zaf, zag, shD, jf7, jf8, zhu]
   refine hK19 _ _ ?_
   refine zaq rfl (fun ht => ?_) (fun ht => ?_)
   ·have hbl : b < (nth sh k).2 := by simp at ht; omega
    refine zay (hK18 _ _ ?_)
    refine zao fun K20 hK20 => ?_
    refine zaz ?_
    refine zao fun K21 hK21 => ?_
    refine zac hp zak hc rfl fun K22 hK22 => ?_
    simp -dsimp -implicitDefEqProofs (disch := first | assumption | omega | (simp only [r_z, zaa, zae] <;> omega) | decide) only [r_r, ↓reduceIte, Nat.reduceEqDiff, Nat.reduceAdd, D.fix, Int.reduceToNat, Nat.reduceMul, Nat.reduceBNe, Nat.reduceBEq, zaw, zax, zaf, zag, shD, zhu]
    have hb8 : b < 8 := by omega
    have hp2 : 2 ^ b ≤ 128 := by have : (2 : Nat) ^ b ≤ 2 ^ 7 := Nat.pow_le_pow_right (by decide) (by omega); omega
    have hwl := zx0 l (zbv n.ins.length sh k + j * (nth sh k).2) b
    have hw : IntKind.i64.wrap (1 * 2 ^ min b 64) = ((2 ^ b : Nat) : Int) := jgj (a := 1) (by omega) (by omega) (by omega)
    have hu : IntKind.u64.wrap (b : Int) = b := jkl (by omega) (by omega)
    refine zb8 (jty l (zbv n.ins.length sh k + j * (nth sh k).2 + b) hl (by omega)) rfl ?_
    simp -dsimp -implicitDefEqProofs (disch := first | assumption | omega | (simp only [r_z, zaa, zae] <;> omega) | decide) only [r_r, ↓reduceIte, Nat.reduceEqDiff, Nat.reduceAdd, D.fix, Int.reduceToNat, Nat.reduceMul, Nat.reduceBNe, Nat.reduceBEq, zaw, zax, zaf, zag, shD, zhu]
    refine hK22 _ _ ?_
    refine zaq rfl (fun ht => ?_) (fun ht => ?_)
    ·have hw1 : ((zqv l (zbv n.ins.length sh k + j * (nth sh k).2) (b + 1) : Nat) : Int) = (zqv l (zbv n.ins.length sh k + j * (nth sh k).2) b : Nat) + ((2 ^ b : Nat) : Int) := by rw [zqv, if_pos ht]; push_cast; rfl
     refine zbt hp zak hc rfl fun K23 hK23 => ?_
     simp -dsimp -implicitDefEqProofs (disch := first | assumption | omega | (simp only [r_z, zaa, zae] <;> omega) | decide) only [r_r, ↓reduceIte, Nat.reduceEqDiff, Nat.reduceAdd, D.fix, Int.reduceToNat, Nat.reduceMul, Nat.reduceBNe, Nat.reduceBEq, zaw, zax, zaf, zag, shD, hu, hw, zhu]
     refine hK23 _ _ (hK21 _ _ ?_)
     refine zbt hp zak hc rfl fun K24 hK24 => ?_
     simp -dsimp -implicitDefEqProofs (disch := first | assumption | omega | (simp only [r_z, zaa, zae] <;> omega) | decide) only [r_r, ↓reduceIte, Nat.reduceEqDiff, Nat.reduceAdd, D.fix, Int.reduceToNat, Nat.reduceMul, Nat.reduceBNe, Nat.reduceBEq, zaw, zax, zaf, zag, shD, zhu]
     refine hK24 _ _ (hK20 _ _ ?_)
     refine zbt hp zak hc rfl fun K25 hK25 => ?_
     simp -dsimp -implicitDefEqProofs (disch := first | assumption | omega | (simp only [r_z, zaa, zae] <;> omega) | decide) only [r_r, ↓reduceIte, Nat.reduceEqDiff, Nat.reduceAdd, D.fix, Int.reduceToNat, Nat.reduceMul, Nat.reduceBNe, Nat.reduceBEq, zaw, zax, zaf, zag, shD, zhu]
     refine hK25 _ _ ⟨_, _, _, ?_, ⟨b + 1, by omega, rfl, rfl, rfl⟩, ?_⟩
     ·first | omega | (simp only [List.length_cons]; omega) | (dsimp only; omega)
     ·refine Rt.end (by repeat (first | exact zam _ | refine zai ?_ (by first | rfl | (simp [r_f, zaa, zae, Int.add_assoc]; done) | simp [r_f, zaa, zae, Int.add_assoc, *]))) ?_
      first | rfl | (simp only [r_g, Nat.reduceAdd, ↓reduceIte, Nat.reduceEqDiff, zaw, zax, zaf, zag, shD]; first | done | rfl)
    ·have hw1 : zqv l (zbv n.ins.length sh k + j * (nth sh k).2) (b + 1) = zqv l (zbv n.ins.length sh k + j * (nth sh k).2) b := by rw [zqv, if_neg (by rw [ht]; decide)]; rfl
     refine zay (hK21 _ _ ?_)
     refine zbt hp zak hc rfl fun K26 hK26 => ?_
     simp -dsimp -implicitDefEqProofs (disch := first | assumption | omega | (simp only [r_z, zaa, zae] <;> omega) | decide) only [r_r, ↓reduceIte, Nat.reduceEqDiff, Nat.reduceAdd, D.fix, Int.reduceToNat, Nat.reduceMul, Nat.reduceBNe, Nat.reduceBEq, zaw, zax, zaf, zag, shD, zhu]
     refine hK26 _ _ (hK20 _ _ ?_)
     refine zbt hp zak hc rfl fun K27 hK27 => ?_
     simp -dsimp -implicitDefEqProofs (disch := first | assumption | omega | (simp only [r_z, zaa, zae] <;> omega) | decide) only [r_r, ↓reduceIte, Nat.reduceEqDiff, Nat.reduceAdd, D.fix, Int.reduceToNat, Nat.reduceMul, Nat.reduceBNe, Nat.reduceBEq, zaw, zax, zaf, zag, shD, zhu]
     refine hK27 _ _ ⟨_, _, _, ?_, ⟨b + 1, by omega, rfl, rfl, rfl⟩, ?_⟩
     ·first | omega | (simp only [List.length_cons]; omega) | (dsimp only; omega)
     ·refine Rt.end (by repeat (first | exact zam _ | refine zai ?_ (by first | rfl | (simp [r_f, zaa, zae, Int.add_assoc]; done) | simp [r_f, zaa, zae, Int.add_assoc, *]))) ?_
      first | rfl | (simp only [r_g, Nat.reduceAdd, ↓reduceIte, Nat.reduceEqDiff, zaw, zax, zaf, zag, shD]; first | done | rfl)
   ·have hbe : b = (nth sh k).2 := by simp at ht; omega
    have hs1 : zbv n.ins.length sh k + (j + 1) * (nth sh k).2 = zbv n.ins.length sh k + j * (nth sh k).2 + (nth sh k).2 := by rw [Nat.succ_mul]; omega
    refine zbn (hK16 _ _ ?_)
    refine zbt hp zak hc rfl fun K28 hK28 => ?_
    simp -dsimp -implicitDefEqProofs (disch := first | assumption | omega | (simp only [r_z, zaa, zae] <;> omega) | decide) only [r_r, ↓reduceIte, Nat.reduceEqDiff, Nat.reduceAdd, D.fix, Int.reduceToNat, Nat.reduceMul, Nat.reduceBNe, Nat.reduceBEq, zaw, zax, zaf, zag, shD, zhu]
    refine hK28 _ _ (hK14 _ _ ?_)
    refine zbt hp zak hc rfl fun K29 hK29 => ?_
    simp -dsimp -implicitDefEqProofs (disch := first | assumption | omega | (simp only [r_z, zaa, zae] <;> omega) | decide) only [r_r, ↓reduceIte, Nat.reduceEqDiff, Nat.reduceAdd, D.fix, Int.reduceToNat, Nat.reduceMul, Nat.reduceBNe, Nat.reduceBEq, zaw, zax, zaf, zag, shD, zhu]
    refine hK29 _ _ ⟨_, _, _, ?_, ⟨j + 1, by omega, rfl, rfl, rfl⟩, ?_⟩
    ·first | omega | (simp only [List.length_cons]; omega) | (dsimp only; omega)
    ·refine Rt.trans (Rt.gc (keep := [0,3]) (by decide) (by decide) (by simp [fzH, gcH])) ?_
     refine Rt.end (by repeat (first | exact zam _ | refine zai ?_ (by first | rfl | (simp [r_f, zaa, zae, Int.add_assoc]; done) | simp [r_f, zaa, zae, Int.add_assoc, *]))) ?_
     simp only [r_g, Nat.reduceAdd, ↓reduceIte, Nat.reduceEqDiff, zaw, zax, zaf, zag, shD]; rw [ztz, hbe]; simp [iD]
  ·have hje : j = (nth sh k).1 := by simp at ht; omega
   have hs1 : zbv n.ins.length sh (k + 1) = zbv n.ins.length sh k + j * (nth sh k).2 := by rw [zep hlt, hje]
   refine zbn (hK10 _ _ ?_)
   refine zbt hp zak hc rfl fun K30 hK30 => ?_
   simp -dsimp -implicitDefEqProofs (disch := first | assumption | omega | (simp only [r_z, zaa, zae] <;> omega) | decide) only [r_r, ↓reduceIte, Nat.reduceEqDiff, Nat.reduceAdd, D.fix, Int.reduceToNat, Nat.reduceMul, Nat.reduceBNe, Nat.reduceBEq, zaw, zax, zaf, zag, shD, zhu]
   refine hK30 _ _ (hK8 _ _ ?_)
   refine zbt hp zak hc rfl fun K31 hK31 => ?_
   simp -dsimp -implicitDefEqProofs (disch := first | assumption | omega | (simp only [r_z, zaa, zae] <;> omega) | decide) only [r_r, ↓reduceIte, Nat.reduceEqDiff, Nat.reduceAdd, D.fix, Int.reduceToNat, Nat.reduceMul, Nat.reduceBNe, Nat.reduceBEq, zaw, zax, zaf, zag, shD, zhu]
   refine hK31 _ _ ⟨_, _, _, ?_, ⟨k + 1, by omega, rfl, rfl, rfl⟩, ?_⟩
   ·first | omega | (simp only [List.length_cons]; omega) | (dsimp only; omega)
   ·refine Rt.trans (Rt.fz (id := 1) rfl) ?_
    refine Rt.trans (Rt.gc (keep := [3]) (by decide) (by decide) (by simp [fzH, gcH])) ?_
    refine Rt.end (by repeat (first | exact zam _ | refine zai ?_ (by first | rfl | (simp [r_f, zaa, zae, Int.add_assoc]; done) | simp [r_f, zaa, zae, Int.add_assoc, *]))) ?_
    simp only [r_g, Nat.reduceAdd, ↓reduceIte, Nat.reduceEqDiff, zaw, zax, zaf, zag, shD]; rw [ztz]; simp only [jgm, jgl, jgn, hje, intsD, List.map_append, List.map_cons, List.map_nil]; simp (disch := simp) only [jq0, je6, zpr, List.append_nil, intsD, List.length_map, List.length_range]
 ·have hke : k = sh.length := by simp at ht; omega
  have hml : (zg3 n.ins.length sh l).length = sh.length := by simp [zg3]
  refine zbn (hK4 _ _ ?_)
  refine zac hp zak hc rfl fun K32 hK32 => ?_
  simp -dsimp -implicitDefEqProofs (disch := first | assumption | omega | (simp only [r_z, zaa, zae] <;> omega) | decide) only [r_r, ↓reduceIte, Nat.reduceEqDiff, Nat.reduceAdd, D.fix, Int.reduceToNat, Nat.reduceMul, Nat.reduceBNe, Nat.reduceBEq, zaw, zax, zaf, zag, shD]
  refine hK32 _ _ ?_
  refine za4 ?_
  show closeA _ _ = _
  simp (disch := first | assumption | omega | (simp only [r_z, zaa, zae] <;> omega) | decide) only [r_c, Nat.reduceAdd, D.fix, ↓reduceIte, Nat.reduceEqDiff, zaw, zax, zaf, zag, shD]
  subst hke
  rw [hml]; rfl
end Go.Proofs.Ytignimmnnccblaa

/- Shapes; equal diagrams. -/
set_option linter.unusedVariables false
set_option linter.unusedSimpArgs false
set_option maxRecDepth 100000
set_option maxHeartbeats 4000000
namespace Go.Proofs.Ytignimmnnccblaa
open Go Go.RowKit
theorem zn3 : ((((((type_of% @jfu) ∧ (type_of% @jfv)) ∧ ((type_of% @jfw) ∧ (type_of% @zfd))) ∧ (((type_of% @zfe) ∧ (type_of% @zff)) ∧ ((type_of% @zfg) ∧ (type_of% @zl0)))) ∧ ((((type_of% @zl1) ∧ (type_of% @ze4)) ∧ ((type_of% @ze5) ∧ (type_of% @ze7))) ∧ (((type_of% @jix) ∧ (type_of% @jiy)) ∧ ((type_of% @jl7) ∧ ((type_of% @jo9) ∧ (type_of% @jcm)))))) ∧ (((((type_of% @jcn) ∧ (type_of% @jco)) ∧ ((type_of% @jcp) ∧ (type_of% @jcq))) ∧ (((type_of% @jcr) ∧ (type_of% @jcs)) ∧ ((type_of% @jct) ∧ ((type_of% @jcu) ∧ (type_of% @jcv))))) ∧ ((((type_of% @zwk) ∧ (type_of% @zwl)) ∧ ((type_of% @zkn) ∧ (type_of% @zko))) ∧ (((type_of% @zkp) ∧ (type_of% @zyy)) ∧ ((type_of% @zyx) ∧ ((type_of% @zhw) ∧ (type_of% @zhx))))))) := ⟨⟨⟨⟨⟨@jfu, @jfv⟩, ⟨@jfw, @zfd⟩⟩, ⟨⟨@zfe, @zff⟩, ⟨@zfg, @zl0⟩⟩⟩, ⟨⟨⟨@zl1, @ze4⟩, ⟨@ze5, @ze7⟩⟩, ⟨⟨@jix, @jiy⟩, ⟨@jl7, ⟨@jo9, @jcm⟩⟩⟩⟩⟩, ⟨⟨⟨⟨@jcn, @jco⟩, ⟨@jcp, @jcq⟩⟩, ⟨⟨@jcr, @jcs⟩, ⟨@jct, ⟨@jcu, @jcv⟩⟩⟩⟩, ⟨⟨⟨@zwk, @zwl⟩, ⟨@zkn, @zko⟩⟩, ⟨⟨@zkp, @zyy⟩, ⟨@zyx, ⟨@zhw, @zhx⟩⟩⟩⟩⟩⟩
def zy7 (left b : Nat) : Nat × Nat := if left < b % 4 * (b / 4 % 3) then (1, min (b / 4 % 3) left) else (b % 4, b / 4 % 3)
def zs2 : Nat → List Nat → Sh
 | _, [] => []
 | left, b :: r => zy7 left b :: zs2 (left - (zy7 left b).1 * (zy7 left b).2) r
theorem zt1 (left b : Nat) : (zy7 left b).1 * (zy7 left b).2 ≤ left ∧ (zy7 left b).1 ≤ 3 ∧ (zy7 left b).2 ≤ 2 := by
 unfold zy7
 split
 ·simp only [Nat.one_mul]; omega
 ·simp only; omega
theorem zqm {α : Type} [Inhabited α] {l : List α} {k : Nat} (h : k < l.length) : l.drop k = nth l k :: l.drop (k + 1) := by
 rw [zb6 h]; exact List.drop_eq_getElem_cons h
def u8D (b : Nat) : D := bD b
theorem jlb (b0 b1 b2 : Nat) (h0 : b0 < 256) (h1 : b1 < 256) (h2 : b2 < 256) : zbd Try.prog 10 [.agg [u8D b0, u8D b1, u8D b2]] (.d (shD (zs2 5 [b0, b1, b2]))) := by
 obtain ⟨l, hl⟩ : ∃ l, l = [b0, b1, b2] := ⟨_, rfl⟩
 have hll : l.length = 3 := by rw [hl]; rfl
 have hlb : ∀ x ∈ l, x < 256 := by rw [hl]; simp [h0, h1, h2]
 rw [← hl]
 refine zbg (fn := Try.f10) (by kernel_rfl) Try.func10 rfl (Nat.le_of_ble_eq_true rfl) fun c hc hp => ?_
 refine zbh (τ' := frL [(0, .d (.agg [u8D b0, u8D b1, u8D b2]))]) (by repeat (first | exact zam _ | refine zai ?_ (by first | rfl | (simp [r_f, zae]; done) | simp [r_f, zae, *]))) ?_
 refine zac hp zak hc rfl fun K1 hK1 => ?_
 simp -dsimp -implicitDefEqProofs (disch := first | assumption | omega | (simp only [r_z, zae] <;> omega) | decide) only [r_r, ↓reduceIte, Nat.reduceEqDiff, Nat.reduceAdd, D.fix, Int.reduceToNat, Nat.reduceMul, Nat.reduceBNe, Nat.reduceBEq, u8D, zn3]
 refine hK1 _ _ ?_
 refine zac hp zak hc rfl fun K2 hK2 => ?_
 simp -dsimp -implicitDefEqProofs (disch := first | assumption | omega | (simp only [r_z, zae] <;> omega) | decide) only [r_r, ↓reduceIte, Nat.reduceEqDiff, Nat.reduceAdd, D.fix, Int.reduceToNat, Nat.reduceMul, Nat.reduceBNe, Nat.reduceBEq, u8D, zn3]
 refine hK2 _ _ ?_
 refine zac hp zak hc rfl fun K3 hK3 => ?_
 simp -dsimp -implicitDefEqProofs (disch := first | assumption | omega | (simp only [r_z, zae] <;> omega) | decide) only [r_r, ↓reduceIte, Nat.reduceEqDiff, Nat.reduceAdd, D.fix, Int.reduceToNat, Nat.reduceMul, Nat.reduceBNe, Nat.reduceBEq, u8D]
 refine hK3 _ _ ?_
 refine zao fun K4 hK4 => ?_
 refine zac hp zak hc rfl fun K5 hK5 => ?_
 simp -dsimp -implicitDefEqProofs (disch := first | assumption | omega | (simp only [r_z, zae] <;> omega) | decide) only [r_r, ↓reduceIte, Nat.reduceEqDiff, Nat.reduceAdd, D.fix, Int.reduceToNat, Nat.reduceMul, Nat.reduceBNe, Nat.reduceBEq, u8D]
 refine hK5 _ _ ?_
 refine zaz ?_
 refine zbb hp (fun τ' H' mm => ∃ (i : Nat) (acc : Sh) (left : Nat), (i ≤ 3 ∧ acc.length = i ∧ left ≤ 5 ∧ zs2 5 l = acc ++ zs2 left (l.drop i)) ∧ mm = 3 - i ∧ H' = [.cells (avs (l.map u8D)), .cells (avs (acc.flatMap shC))] ∧ τ' = frL [(1, .op 0 0), (3, .os 2 1 0 i), (4, .d (iD left)), (5, .d (iD i))]) (3) ?_ ⟨0, [], 5, ⟨by omega, rfl, by omega, rfl⟩, rfl, rfl, rfl⟩ ?_
 ·refine Rt.end (by repeat (first | exact zam _ | refine zai ?_ (by first | rfl | (simp [r_f, zae]; done) | simp [r_f, zae, *]))) ?_
  rw [hl]; rfl
 rintro τ' H' mm ⟨i, acc, left, ⟨hi, hal, hle, hac⟩, rfl, rfl, rfl⟩
 refine zao fun K6 hK6 => ?_
 refine zac hp zak hc rfl fun K7 hK7 => ?_
 simp -dsimp -implicitDefEqProofs (disch := first | assumption | omega | (simp only [r_z, zae] <;> omega) | decide) only [r_r, ↓reduceIte, Nat.reduceEqDiff, Nat.reduceAdd, D.fix, Int.reduceToNat, Nat.reduceMul, Nat.reduceBNe, Nat.reduceBEq, u8D, zn3]
 refine hK7 _ _ ?_
 refine zaq rfl (fun ht => ?_) (fun ht => ?_)
 ·have hi3 : i < 3 := by simp at ht; omega
  have hil : i < l.length := by omega
  have hbb := hlb _ (zb9 hil)
  obtain ⟨x, hx⟩ : ∃ x, x = nth l i := ⟨_, rfl⟩
  rw [← hx] at hbb
  have hdr : l.drop i = x :: l.drop (i + 1) := by rw [zqm hil, hx]
  obtain ⟨W, hW⟩ : ∃ W, W = x % 4 := ⟨_, rfl⟩
  obtain ⟨U, hU⟩ : ∃ U, U = x / 4 % 3 := ⟨_, rfl⟩
  have hW1 : (x : Int) % 4 = (W : Nat) := by omega
  have hU1 : (x : Int) / 4 % 3 = (U : Nat) := by omega
  have hWU := Nat.mul_le_mul (show W ≤ 3 by omega) (show U ≤ 2 by omega)
  have hWb1 : (W : Int) * (U : Int) ≤ 6 := by
   have : ((W * U : Nat) : Int) = (W : Int) * (U : Int) := by simp
   omega
  have hWb0 : 0 ≤ (W : Int) * (U : Int) := by
   have : ((W * U : Nat) : Int) = (W : Int) * (U : Int) := by simp
   omega
  refine zay (hK6 _ _ ?_)
  refine zao fun K8 hK8 => ?_
  refine zaz ?_
  refine zac hp zak hc rfl fun K9 hK9 => ?_
  simp -dsimp -implicitDefEqProofs (disch := first | assumption | omega | (simp only [r_z, zae] <;> omega) | decide) only [r_r, ↓reduceIte, Nat.reduceEqDiff, Nat.reduceAdd, D.fix, Int.reduceToNat, Nat.reduceMul, Nat.reduceBNe, Nat.reduceBEq, u8D, zc2, ← hx, hW1, zn3]
  refine hK9 _ _ ?_
  refine zac hp zak hc rfl fun K10 hK10 => ?_
  simp -dsimp -implicitDefEqProofs (disch := first | assumption | omega | (simp only [r_z, zae] <;> omega) | decide) only [r_r, ↓reduceIte, Nat.reduceEqDiff, Nat.reduceAdd, D.fix, Int.reduceToNat, Nat.reduceMul, Nat.reduceBNe, Nat.reduceBEq, u8D, zc2, ← hx, hU1, zn3]
  refine hK10 _ _ ?_
  refine zao fun K11 hK11 => ?_
  have hJ11 : ∀ τ' H', (∃ τ1 H1, ∃ (p : Nat × Nat), (p = zy7 left x) ∧ H1 = [.cells (avs (l.map u8D)), .cells (avs (acc.flatMap shC))] ∧ τ1 = frL [(1, .op 0 0), (3, .os 2 1 0 i), (4, .d (iD left)), (5, .d (iD i)), (6, .d (iD p.1)), (7, .d (iD p.2))] ∧ Rt [] τ' H' τ1 H1) → K11 τ' H' := by
   rintro τ' H' ⟨_, _, p, hpx, rfl, rfl, hrt⟩
   refine hK11 _ _ (zb3 hp hrt ?_)
   clear hrt
   obtain ⟨k1, k2, k3⟩ := zt1 left x
   rw [← hpx] at k1 k2 k3
   have e1 : ((p.1 * p.2 : Nat) : Int) = (p.1 : Int) * (p.2 : Int) := by simp
   have e2 : 0 ≤ (p.1 : Int) * (p.2 : Int) := by omega
   have e3 : (p.1 : Int) * (p.2 : Int) ≤ left := by omega
   have e4 : (left : Int) - (p.1 : Int) * (p.2 : Int) = ((left - p.1 * p.2 : Nat) : Int) := by omega
   refine zac hp zak hc rfl fun K12 hK12 => ?_
   simp -dsimp -implicitDefEqProofs (disch := first | assumption | omega | (simp only [r_z, zae] <;> omega) | decide) only [r_r, ↓reduceIte, Nat.reduceEqDiff, Nat.reduceAdd, D.fix, Int.reduceToNat, Nat.reduceMul, Nat.reduceBNe, Nat.reduceBEq, u8D, e4, zn3]
   refine hK12 _ _ ?_
   refine zbt hp zak hc rfl fun K13 hK13 => ?_
   simp -dsimp -implicitDefEqProofs (disch := first | assumption | omega | (simp only [r_z, zae] <;> omega) | decide) only [r_r, ↓reduceIte, Nat.reduceEqDiff, Nat.reduceAdd, D.fix, Int.reduceToNat, Nat.reduceMul, Nat.reduceBNe, Nat.reduceBEq, u8D, zn3]
   refine hK13 _ _ (hK8 _ _ ?_)
   refine zbt hp zak hc rfl fun K14 hK14 => ?_
   simp -dsimp -implicitDefEqProofs (disch := first | assumption | omega | (simp only [r_z, zae] <;> omega) | decide) only [r_r, ↓reduceIte, Nat.reduceEqDiff, Nat.reduceAdd, D.fix, Int.reduceToNat, Nat.reduceMul, Nat.reduceBNe, Nat.reduceBEq, u8D, zn3]
   refine hK14 _ _ ⟨_, _, _, ?_, ⟨i + 1, acc ++ [p], left - p.1 * p.2, ⟨by omega, by simp [hal], by omega, by rw [hac, hdr, zs2, ← hpx]; simp⟩, rfl, rfl, rfl⟩, ?_⟩
   ·first | omega | (simp only [List.length_cons]; omega) | (dsimp only; omega)
   ·refine Rt.trans (Rt.gc (keep := [0,3]) (by decide) (by decide) (by simp [fzH, gcH])) ?_
    refine Rt.end (by repeat (first | exact zam _ | refine zai ?_ (by first | rfl | (simp [r_f, zae]; done) | simp [r_f, zae, *]))) ?_
    simp only [r_g, Nat.reduceAdd, ↓reduceIte, Nat.reduceEqDiff, u8D]; simp [shC, iD]
  refine zac hp zak hc rfl fun K15 hK15 => ?_
  simp -dsimp -implicitDefEqProofs (disch := first | assumption | omega | (simp only [r_z, zae] <;> omega) | decide) only [r_r, ↓reduceIte, Nat.reduceEqDiff, Nat.reduceAdd, D.fix, Int.reduceToNat, Nat.reduceMul, Nat.reduceBNe, Nat.reduceBEq, u8D, zn3]
  refine hK15 _ _ ?_
  refine zaq rfl (fun ht => ?_) (fun ht => ?_)
  ·have hgt : left < W * U := by
    have : ((W * U : Nat) : Int) = (W : Int) * (U : Int) := by simp
    simp at ht; omega
   have hmin : min (U : Int) (left : Int) = ((min U left : Nat) : Int) := by omega
   refine zac hp zak hc rfl fun K16 hK16 => ?_
   simp -dsimp -implicitDefEqProofs (disch := first | assumption | omega | (simp only [r_z, zae] <;> omega) | decide) only [r_r, ↓reduceIte, Nat.reduceEqDiff, Nat.reduceAdd, D.fix, Int.reduceToNat, Nat.reduceMul, Nat.reduceBNe, Nat.reduceBEq, u8D]
   refine hK16 _ _ ?_
   refine zbt hp zak hc rfl fun K17 hK17 => ?_
   simp -dsimp -implicitDefEqProofs (disch := first | assumption | omega | (simp only [r_z, zae] <;> omega) | decide) only [r_r, ↓reduceIte, Nat.reduceEqDiff, Nat.reduceAdd, D.fix, Int.reduceToNat, Nat.reduceMul, Nat.reduceBNe, Nat.reduceBEq, u8D, hmin, zn3]
   refine hK17 _ _ (hJ11 _ _ ⟨_, _, (1, min U left), by rw [zy7, ← hW, ← hU, if_pos hgt], rfl, rfl, ?_⟩)
   refine Rt.end (by repeat (first | exact zam _ | refine zai ?_ (by first | rfl | (simp [r_f, zae]; done) | simp [r_f, zae, *]))) ?_
   first | rfl | (simp only [r_g, Nat.reduceAdd, ↓reduceIte, Nat.reduceEqDiff, u8D]; first | done | rfl)
  ·have hgt : ¬ left < W * U := by
    have : ((W * U : Nat) : Int) = (W : Int) * (U : Int) := by simp
    simp at ht; omega
   refine zay (hJ11 _ _ ⟨_, _, (W, U), by rw [zy7, ← hW, ← hU, if_neg hgt], rfl, rfl, ?_⟩)
   refine Rt.end (by repeat (first | exact zam _ | refine zai ?_ (by first | rfl | (simp [r_f, zae]; done) | simp [r_f, zae, *]))) ?_
   first | rfl | (simp only [r_g, Nat.reduceAdd, ↓reduceIte, Nat.reduceEqDiff, u8D]; first | done | rfl)
 ·have hie : i = 3 := by simp at ht; omega
  have hfin : zs2 5 l = acc := by rw [hac, List.drop_eq_nil_of_le (by omega)]; simp [zs2]
  refine zbn (hK4 _ _ ?_)
  refine zac hp zak hc rfl fun K18 hK18 => ?_
  simp -dsimp -implicitDefEqProofs (disch := first | assumption | omega | (simp only [r_z, zae] <;> omega) | decide) only [r_r, ↓reduceIte, Nat.reduceEqDiff, Nat.reduceAdd, D.fix, Int.reduceToNat, Nat.reduceMul, Nat.reduceBNe, Nat.reduceBEq, u8D]
  refine hK18 _ _ ?_
  refine za4 ?_
  show closeA _ _ = _
  simp (disch := first | assumption | omega | (simp only [r_z, zae] <;> omega) | decide) only [r_c, Nat.reduceAdd, D.fix, ↓reduceIte, Nat.reduceEqDiff, u8D]
  rw [hfin, jqp, ← hal]; rfl
end Go.Proofs.Ytignimmnnccblaa

/- Equal diagrams; the chapter's examples. -/
set_option linter.unusedVariables false
set_option linter.unusedSimpArgs false
namespace Go.Proofs.Ytignimmnnccblaa
open Go Go.RowKit
end Go.Proofs.Ytignimmnnccblaa
