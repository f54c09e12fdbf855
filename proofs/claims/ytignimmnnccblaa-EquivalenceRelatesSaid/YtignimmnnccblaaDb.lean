/- netsim.Eval: the values of all nodes. -/
import Derived.Test.YtignimmnnccblaaQr
import Derived.Test.YtignimmnnccblaaDa
set_option linter.unusedVariables false
set_option linter.unusedSimpArgs false
set_option maxRecDepth 100000
set_option maxHeartbeats 4000000
namespace Go.Proofs.Ytignimmnnccblaa
open Go Go.RowKit
theorem zc0 : ((((((type_of% @zds) ∧ ((type_of% @zdt) ∧ (type_of% @zkr))) ∧ (((type_of% @zks) ∧ (type_of% @zkt)) ∧ ((type_of% @zku) ∧ (type_of% @jen)))) ∧ (((type_of% @jeo) ∧ ((type_of% @jpd) ∧ (type_of% @jpe))) ∧ (((type_of% @jpf) ∧ (type_of% @jph)) ∧ ((type_of% @jpg) ∧ (type_of% @zdu))))) ∧ ((((type_of% @zdv) ∧ ((type_of% @zg1) ∧ (type_of% @zg2))) ∧ (((type_of% @zg3) ∧ (type_of% @zg4)) ∧ ((type_of% @ze9) ∧ (type_of% @zfa)))) ∧ (((type_of% @zfc) ∧ ((type_of% @zjq) ∧ (type_of% @zjr))) ∧ (((type_of% @zl5) ∧ (type_of% @zl4)) ∧ ((type_of% @zgm) ∧ (type_of% @zgn)))))) ∧ (((((type_of% @zmn) ∧ ((type_of% @zmo) ∧ (type_of% @zgo))) ∧ (((type_of% @zgp) ∧ (type_of% @zgq)) ∧ ((type_of% @zgr) ∧ (type_of% @zii)))) ∧ (((type_of% @zij) ∧ ((type_of% @zlj) ∧ (type_of% @zlk))) ∧ (((type_of% @zn1) ∧ (type_of% @zn2)) ∧ ((type_of% @zn3) ∧ (type_of% @zn4))))) ∧ ((((type_of% @zhq) ∧ ((type_of% @zhr) ∧ (type_of% @jpi))) ∧ (((type_of% @jpj) ∧ (type_of% @jpk)) ∧ ((type_of% @jpl) ∧ (type_of% @jpm)))) ∧ (((type_of% @jpn) ∧ ((type_of% @jc7) ∧ (type_of% @jc8))) ∧ (((type_of% @jpb) ∧ (type_of% @jpc)) ∧ ((type_of% @jo9) ∧ (type_of% @jpa))))))) := ⟨⟨⟨⟨⟨@zds, ⟨@zdt, @zkr⟩⟩, ⟨⟨@zks, @zkt⟩, ⟨@zku, @jen⟩⟩⟩, ⟨⟨@jeo, ⟨@jpd, @jpe⟩⟩, ⟨⟨@jpf, @jph⟩, ⟨@jpg, @zdu⟩⟩⟩⟩, ⟨⟨⟨@zdv, ⟨@zg1, @zg2⟩⟩, ⟨⟨@zg3, @zg4⟩, ⟨@ze9, @zfa⟩⟩⟩, ⟨⟨@zfc, ⟨@zjq, @zjr⟩⟩, ⟨⟨@zl5, @zl4⟩, ⟨@zgm, @zgn⟩⟩⟩⟩⟩, ⟨⟨⟨⟨@zmn, ⟨@zmo, @zgo⟩⟩, ⟨⟨@zgp, @zgq⟩, ⟨@zgr, @zii⟩⟩⟩, ⟨⟨@zij, ⟨@zlj, @zlk⟩⟩, ⟨⟨@zn1, @zn2⟩, ⟨@zn3, @zn4⟩⟩⟩⟩, ⟨⟨⟨@zhq, ⟨@zhr, @jpi⟩⟩, ⟨⟨@jpj, @jpk⟩, ⟨@jpl, @jpm⟩⟩⟩, ⟨⟨@jpn, ⟨@jc7, @jc8⟩⟩, ⟨⟨@jpb, @jpc⟩, ⟨@jo9, @jpa⟩⟩⟩⟩⟩⟩
theorem za8 : opsC.length = 12 := rfl
structure GateOk (m : Nat) (g : Gate) : Prop where
 o1 : 1 ≤ g.op
 o2 : g.op ≤ 7
 a0 : 0 ≤ g.a
 a1 : g.a < m
 b0 : 0 ≤ g.b
 b1 : g.b < m
 c0 : 0 ≤ g.c
 c1 : g.c < m
 n0 : 0 ≤ g.n
 n1 : g.n < 1000000
def GatesOk (m : Nat) (l : List Gate) : Prop := ∀ k, k < l.length → GateOk (m + k) (nth l k)
def opN (mems : List (List Int)) (v : List Bool) (g : Gate) : Bool :=
 if g.op = 7 then zub mems g.n (jl4 (nth v g.a.toNat) (nth v g.b.toNat) (nth v g.c.toNat))
 else if g.op = 1 then !nth v g.a.toNat
 else if g.op = 2 then nth v g.a.toNat && nth v g.b.toNat
 else if g.op = 3 then nth v g.a.toNat || nth v g.b.toNat
 else if g.op = 4 then nth v g.a.toNat != nth v g.b.toNat
 else if g.op = 5 then if nth v g.a.toNat then nth v g.b.toNat else nth v g.c.toNat
 else nth v g.a.toNat && (nth v g.b.toNat || nth v g.c.toNat) || nth v g.b.toNat && nth v g.c.toNat
def zcs (mems : List (List Int)) (v : List Bool) (l : List Gate) : List Bool := l.foldl (fun v g => v ++ [opN mems v g]) v
def zta (gates : List Gate) (inp : List Bool) (mems : List (List Int)) : List Bool := zcs mems (false :: true :: inp) gates
theorem za5 (mems : List (List Int)) : ∀ (l : List Gate) (v : List Bool), (zcs mems v l).length = v.length + l.length
 | [], v => rfl
 | g :: l, v => by
  show (zcs mems (v ++ [opN mems v g]) l).length = _
  rw [za5 mems l]; simp; omega
theorem zc9 (mems : List (List Int)) (v : List Bool) {l : List Gate} {k : Nat} (h : k < l.length) : zcs mems v (l.take (k + 1)) = zcs mems v (l.take k) ++ [opN mems (zcs mems v (l.take k)) (nth l k)] := by
 rw [zee h]; simp [zcs]
theorem jqn (n : Net) (inp : List Bool) (mems : List (List Int)) (hg : GatesOk (2 + inp.length) n.gates) (h1 : inp.length ≤ 1000000) (h2 : n.gates.length ≤ 1000000) : zbf Try.prog 20 [zas n, boolsD inp, intssD mems] (.d (boolsD (zta n.gates inp mems))) := by
 refine zbi (fn := Try.f20) (by kernel_rfl) Try.func20 rfl (Nat.le_of_ble_eq_true rfl) fun c hc hp => ?_
 refine zbk (τ' := frL [(0, .d (zas n)), (1, .d (boolsD inp)), (2, .d (intssD mems))]) (by repeat (first | exact zal _ | refine zai ?_ (by first | rfl | (simp [r_f, zab, zaa, za5, za8]; done) | simp [r_f, zab, zaa, za5, za8, *]))) ?_
 refine zac hp zaj hc rfl fun K1 hK1 => ?_
 simp -dsimp -implicitDefEqProofs (disch := first | assumption | omega | (simp only [r_z, zab, zaa, za5, za8] <;> omega) | decide) only [r_r, ↓reduceIte, Nat.reduceEqDiff, Nat.reduceAdd, D.fix, Int.reduceToNat, Nat.reduceMul, Nat.reduceBNe, Nat.reduceBEq, zas, zaz, zaf, zag, zax, zay, za7, zar, zc0]
 refine hK1 _ _ ?_
 refine zac hp zaj hc rfl fun K2 hK2 => ?_
 simp -dsimp -implicitDefEqProofs (disch := first | assumption | omega | (simp only [r_z, zab, zaa, za5, za8] <;> omega) | decide) only [r_r, ↓reduceIte, Nat.reduceEqDiff, Nat.reduceAdd, D.fix, Int.reduceToNat, Nat.reduceMul, Nat.reduceBNe, Nat.reduceBEq, zas, zaz, zaf, zag, zax, zay, za7, zar, zc0]
 refine hK2 _ _ ?_
 refine zac hp zaj hc rfl fun K3 hK3 => ?_
 simp -dsimp -implicitDefEqProofs (disch := first | assumption | omega | (simp only [r_z, zab, zaa, za5, za8] <;> omega) | decide) only [r_r, ↓reduceIte, Nat.reduceEqDiff, Nat.reduceAdd, D.fix, Int.reduceToNat, Nat.reduceMul, Nat.reduceBNe, Nat.reduceBEq, zas, zaz, zaf, zag, zax, zay, za7, zar, opsC, zc0]
 refine zb8 (zuc) rfl ?_
 simp -dsimp -implicitDefEqProofs (disch := first | assumption | omega | (simp only [r_z, zab, zaa, za5, za8] <;> omega) | decide) only [r_r, ↓reduceIte, Nat.reduceEqDiff, Nat.reduceAdd, D.fix, Int.reduceToNat, Nat.reduceMul, Nat.reduceBNe, Nat.reduceBEq, zas, zaz, zaf, zag, zax, zay, za7, zar, opsC, zc0]
 refine hK3 _ _ ?_
 refine zan fun K4 hK4 => ?_
 refine zac hp zaj hc rfl fun K5 hK5 => ?_
 simp -dsimp -implicitDefEqProofs (disch := first | assumption | omega | (simp only [r_z, zab, zaa, za5, za8] <;> omega) | decide) only [r_r, ↓reduceIte, Nat.reduceEqDiff, Nat.reduceAdd, D.fix, Int.reduceToNat, Nat.reduceMul, Nat.reduceBNe, Nat.reduceBEq, zas, zaz, zaf, zag, zax, zay, za7, zar, zc0]
 refine hK5 _ _ ?_
 refine za1 ?_
 refine zbd hp (fun τ' H' mm => ∃ k, (k ≤ n.gates.length) ∧ mm = n.gates.length - k ∧ H' = [.cells (avs ((zcs mems (false :: true :: inp) (n.gates.take k)).map oD)), .cells (avs opsC)] ∧ τ' = frL [(2, .d (intssD mems)), (7, .os 1 0 0 (2 + inp.length + k)), (8, .op 1 0), (20, .d (zag n.gates)), (21, .d (iD n.gates.length)), (22, .d (iD k))]) (n.gates.length) ?_ ⟨0, Nat.zero_le _, rfl, rfl, rfl⟩ ?_
 ·refine Rt.trans (Rt.gc (keep := [2,3]) (by decide) (by decide) (by simp [fzH, gcH])) ?_
  refine Rt.end (by repeat (first | exact zal _ | refine zai ?_ (by first | rfl | (simp [r_f, zab, zaa, za5, za8]; done) | simp [r_f, zab, zaa, za5, za8, *]))) ?_
  first | rfl | (simp only [r_g, Nat.reduceAdd, ↓reduceIte, Nat.reduceEqDiff, zas, zaz, zaf, zag, zax, zay, za7, zar]; first | done | rfl)
 rintro τ' H' mm ⟨k, hk, rfl, rfl, rfl⟩
 refine zac hp zaj hc rfl fun K6 hK6 => ?_
 simp -dsimp -implicitDefEqProofs (disch := first | assumption | omega | (simp only [r_z, zab, zaa, za5, za8] <;> omega) | decide) only [r_r, ↓reduceIte, Nat.reduceEqDiff, Nat.reduceAdd, D.fix, Int.reduceToNat, Nat.reduceMul, Nat.reduceBNe, Nat.reduceBEq, zas, zaz, zaf, zag, zax, zay, za7, zar, zc0]
 refine hK6 _ _ ?_
 refine zan fun K7 hK7 => ?_
 refine zap rfl (fun ht => ?_) (fun ht => ?_)
 ·have hlt : k < n.gates.length := by simp at ht; omega
  refine za0 (hK7 _ _ ?_)
  refine zan fun K8 hK8 => ?_
  refine za1 ?_
  have ok := hg k hlt
  obtain ⟨o1, o2, a0, a1, b0, b1, c0, c1, n0, n1⟩ := ok
  have hl : (zcs mems (false :: true :: inp) (n.gates.take k)).length = 2 + inp.length + k := by rw [za5]; simp; omega
  refine zac hp zaj hc rfl fun K9 hK9 => ?_
  simp -dsimp -implicitDefEqProofs (disch := first | assumption | omega | (simp only [r_z, zab, zaa, za5, za8] <;> omega) | decide) only [r_r, ↓reduceIte, Nat.reduceEqDiff, Nat.reduceAdd, D.fix, Int.reduceToNat, Nat.reduceMul, Nat.reduceBNe, Nat.reduceBEq, zas, zaz, zaf, zag, zax, zay, za7, zar, zc0]
  refine hK9 _ _ ?_
  refine zbr zaj hc mixed rfl (q := 0) (by kernel_rfl) (by kernel_rfl) fun K10 hK10 => ?_
  simp -dsimp -implicitDefEqProofs (disch := first | assumption | omega | (simp only [r_z, zab, zaa, za5, za8] <;> omega) | decide) only [r_r, ↓reduceIte, Nat.reduceEqDiff, Nat.reduceAdd, D.fix, Int.reduceToNat, Nat.reduceMul, Nat.reduceBNe, Nat.reduceBEq, zas, zaz, zaf, zag, zax, zay, za7, zar, zc0]
  refine hK10 _ _ ?_
  refine zan fun K11 hK11 => ?_
  refine zac hp zaj hc rfl fun K12 hK12 => ?_
  simp -dsimp -implicitDefEqProofs (disch := first | assumption | omega | (simp only [r_z, zab, zaa, za5, za8] <;> omega) | decide) only [r_r, ↓reduceIte, Nat.reduceEqDiff, Nat.reduceAdd, D.fix, Int.reduceToNat, Nat.reduceMul, Nat.reduceBNe, Nat.reduceBEq, zas, zaz, zaf, zag, zax, zay, za7, zar, zc0]
  refine hK12 _ _ ?_
  refine zap rfl (fun ht => ?_) (fun ht => ?_)
  ·have h7 : (nth n.gates k).op = 7 := by simpa using ht
   refine zbr zaj hc mixed rfl (q := 3) (by kernel_rfl) (by kernel_rfl) fun K13 hK13 => ?_
   simp -dsimp -implicitDefEqProofs (disch := first | assumption | omega | (simp only [r_z, zab, zaa, za5, za8] <;> omega) | decide) only [r_r, ↓reduceIte, Nat.reduceEqDiff, Nat.reduceAdd, D.fix, Int.reduceToNat, Nat.reduceMul, Nat.reduceBNe, Nat.reduceBEq, zas, zaz, zaf, zag, zax, zay, za7, zar, zc0]
   refine zb8 (jgc _ _ _) rfl ?_
   simp -dsimp -implicitDefEqProofs (disch := first | assumption | omega | (simp only [r_z, zab, zaa, za5, za8] <;> omega) | decide) only [r_r, ↓reduceIte, Nat.reduceEqDiff, Nat.reduceAdd, D.fix, Int.reduceToNat, Nat.reduceMul, Nat.reduceBNe, Nat.reduceBEq, zas, zaz, zaf, zag, zax, zay, za7, zar, zc0]
   refine zb8 (jp6 _ _ _ n0 n1 (jp5 _ _ _).1) rfl ?_
   simp -dsimp -implicitDefEqProofs (disch := first | assumption | omega | (simp only [r_z, zab, zaa, za5, za8] <;> omega) | decide) only [r_r, ↓reduceIte, Nat.reduceEqDiff, Nat.reduceAdd, D.fix, Int.reduceToNat, Nat.reduceMul, Nat.reduceBNe, Nat.reduceBEq, zas, zaz, zaf, zag, zax, zay, za7, zar, zc0]
   refine hK13 _ _ ?_
   refine zbl (hK8 _ _ ?_)
   refine zbt hp zaj hc rfl fun K14 hK14 => ?_
   simp -dsimp -implicitDefEqProofs (disch := first | assumption | omega | (simp only [r_z, zab, zaa, za5, za8] <;> omega) | decide) only [r_r, ↓reduceIte, Nat.reduceEqDiff, Nat.reduceAdd, D.fix, Int.reduceToNat, Nat.reduceMul, Nat.reduceBNe, Nat.reduceBEq, zas, zaz, zaf, zag, zax, zay, za7, zar, zc0]
   refine hK14 _ _ ⟨_, _, _, ?_, ⟨k + 1, by omega, rfl, rfl, rfl⟩, ?_⟩
   ·first | omega | (simp only [List.length_cons]; omega) | (dsimp only; omega)
   ·refine Rt.trans (Rt.gc (keep := [5,1]) (by decide) (by decide) (by simp [fzH, gcH])) ?_
    refine Rt.end (by repeat (first | exact zal _ | refine zai ?_ (by first | rfl | (simp [r_f, zab, zaa, za5, za8]; done) | simp [r_f, zab, zaa, za5, za8, *]))) ?_
    simp only [r_g, Nat.reduceAdd, ↓reduceIte, Nat.reduceEqDiff, zas, zaz, zaf, zag, zax, zay, za7, zar]; simp [zc9 _ _ hlt, opN, h7, oD]
  ·have h7 : ¬ (nth n.gates k).op = 7 := by simpa using ht
   refine za0 (hK11 _ _ ?_)
   refine zac hp zaj hc rfl fun K15 hK15 => ?_
   rcases (show (nth n.gates k).op = 1 ∨ (nth n.gates k).op = 2 ∨ (nth n.gates k).op = 3 ∨ (nth n.gates k).op = 4 ∨ (nth n.gates k).op = 5 ∨ (nth n.gates k).op = 6 by omega) with ho | ho | ho | ho | ho | ho
   ·simp -dsimp -implicitDefEqProofs (disch := first | assumption | omega | (simp only [r_z, zab, zaa, za5, za8] <;> omega) | decide) only [r_r, ↓reduceIte, Nat.reduceEqDiff, Nat.reduceAdd, D.fix, Int.reduceToNat, Nat.reduceMul, Nat.reduceBNe, Nat.reduceBEq, zas, zaz, zaf, zag, zax, zay, za7, zar, ho, zc0]
    refine zfq (jp7 (nth n.gates k).a (nth n.gates k).b (nth n.gates k).c (nth n.gates k).n) ?_ ?_
    ·simp (disch := first | assumption | omega | (simp only [r_z, zab, zaa, za5, za8] <;> omega) | decide) only [r_c, Nat.reduceAdd, D.fix, ↓reduceIte, Nat.reduceEqDiff, zas, zaz, zaf, zag, zax, zay, za7, zar, zl6, opsC]
    simp -dsimp -implicitDefEqProofs (disch := first | assumption | omega | (simp only [r_z, zab, zaa, za5, za8] <;> omega) | decide) only [r_r, ↓reduceIte, Nat.reduceEqDiff, Nat.reduceAdd, D.fix, Int.reduceToNat, Nat.reduceMul, Nat.reduceBNe, Nat.reduceBEq, zas, zaz, zaf, zag, zax, zay, za7, zar, ho, zc0]
    refine hK15 _ _ ?_
    refine zbt hp zaj hc rfl fun K16 hK16 => ?_
    simp -dsimp -implicitDefEqProofs (disch := first | assumption | omega | (simp only [r_z, zab, zaa, za5, za8] <;> omega) | decide) only [r_r, ↓reduceIte, Nat.reduceEqDiff, Nat.reduceAdd, D.fix, Int.reduceToNat, Nat.reduceMul, Nat.reduceBNe, Nat.reduceBEq, zas, zaz, zaf, zag, zax, zay, za7, zar, ho, opsC, zc0]
    refine zb8 (jt1 _ _ _) rfl ?_
    simp -dsimp -implicitDefEqProofs (disch := first | assumption | omega | (simp only [r_z, zab, zaa, za5, za8] <;> omega) | decide) only [r_r, ↓reduceIte, Nat.reduceEqDiff, Nat.reduceAdd, D.fix, Int.reduceToNat, Nat.reduceMul, Nat.reduceBNe, Nat.reduceBEq, zas, zaz, zaf, zag, zax, zay, za7, zar, ho, opsC, zc0]
    refine hK16 _ _ (hK8 _ _ ?_)
    refine zbt hp zaj hc rfl fun K17 hK17 => ?_
    simp -dsimp -implicitDefEqProofs (disch := first | assumption | omega | (simp only [r_z, zab, zaa, za5, za8] <;> omega) | decide) only [r_r, ↓reduceIte, Nat.reduceEqDiff, Nat.reduceAdd, D.fix, Int.reduceToNat, Nat.reduceMul, Nat.reduceBNe, Nat.reduceBEq, zas, zaz, zaf, zag, zax, zay, za7, zar, zc0]
    refine hK17 _ _ ⟨_, _, _, ?_, ⟨k + 1, by omega, rfl, rfl, rfl⟩, ?_⟩
    ·first | omega | (simp only [List.length_cons]; omega) | (dsimp only; omega)
    ·refine Rt.trans (Rt.gc (keep := [4,1]) (by decide) (by decide) (by simp [fzH, gcH])) ?_
     refine Rt.end (by repeat (first | exact zal _ | refine zai ?_ (by first | rfl | (simp [r_f, zab, zaa, za5, za8]; done) | simp [r_f, zab, zaa, za5, za8, *]))) ?_
     simp only [r_g, Nat.reduceAdd, ↓reduceIte, Nat.reduceEqDiff, zas, zaz, zaf, zag, zax, zay, za7, zar]; simp [zc9 _ _ hlt, opN, ho, oD]; rfl
   ·simp -dsimp -implicitDefEqProofs (disch := first | assumption | omega | (simp only [r_z, zab, zaa, za5, za8] <;> omega) | decide) only [r_r, ↓reduceIte, Nat.reduceEqDiff, Nat.reduceAdd, D.fix, Int.reduceToNat, Nat.reduceMul, Nat.reduceBNe, Nat.reduceBEq, zas, zaz, zaf, zag, zax, zay, za7, zar, ho, zc0]
    refine zfq (jp8 (nth n.gates k).a (nth n.gates k).b (nth n.gates k).c (nth n.gates k).n) ?_ ?_
    ·simp (disch := first | assumption | omega | (simp only [r_z, zab, zaa, za5, za8] <;> omega) | decide) only [r_c, Nat.reduceAdd, D.fix, ↓reduceIte, Nat.reduceEqDiff, zas, zaz, zaf, zag, zax, zay, za7, zar, zl6, opsC]
    simp -dsimp -implicitDefEqProofs (disch := first | assumption | omega | (simp only [r_z, zab, zaa, za5, za8] <;> omega) | decide) only [r_r, ↓reduceIte, Nat.reduceEqDiff, Nat.reduceAdd, D.fix, Int.reduceToNat, Nat.reduceMul, Nat.reduceBNe, Nat.reduceBEq, zas, zaz, zaf, zag, zax, zay, za7, zar, ho, zc0]
    refine hK15 _ _ ?_
    refine zbt hp zaj hc rfl fun K18 hK18 => ?_
    simp -dsimp -implicitDefEqProofs (disch := first | assumption | omega | (simp only [r_z, zab, zaa, za5, za8] <;> omega) | decide) only [r_r, ↓reduceIte, Nat.reduceEqDiff, Nat.reduceAdd, D.fix, Int.reduceToNat, Nat.reduceMul, Nat.reduceBNe, Nat.reduceBEq, zas, zaz, zaf, zag, zax, zay, za7, zar, ho, opsC, zc0]
    refine zb8 (jt2 _ _ _) rfl ?_
    simp -dsimp -implicitDefEqProofs (disch := first | assumption | omega | (simp only [r_z, zab, zaa, za5, za8] <;> omega) | decide) only [r_r, ↓reduceIte, Nat.reduceEqDiff, Nat.reduceAdd, D.fix, Int.reduceToNat, Nat.reduceMul, Nat.reduceBNe, Nat.reduceBEq, zas, zaz, zaf, zag, zax, zay, za7, zar, ho, opsC, zc0]
    refine hK18 _ _ (hK8 _ _ ?_)
    refine zbt hp zaj hc rfl fun K19 hK19 => ?_
    simp -dsimp -implicitDefEqProofs (disch := first | assumption | omega | (simp only [r_z, zab, zaa, za5, za8] <;> omega) | decide) only [r_r, ↓reduceIte, Nat.reduceEqDiff, Nat.reduceAdd, D.fix, Int.reduceToNat, Nat.reduceMul, Nat.reduceBNe, Nat.reduceBEq, zas, zaz, zaf, zag, zax, zay, za7, zar, zc0]
    refine hK19 _ _ ⟨_, _, _, ?_, ⟨k + 1, by omega, rfl, rfl, rfl⟩, ?_⟩
    ·first | omega | (simp only [List.length_cons]; omega) | (dsimp only; omega)
    ·refine Rt.trans (Rt.gc (keep := [4,1]) (by decide) (by decide) (by simp [fzH, gcH])) ?_
     refine Rt.end (by repeat (first | exact zal _ | refine zai ?_ (by first | rfl | (simp [r_f, zab, zaa, za5, za8]; done) | simp [r_f, zab, zaa, za5, za8, *]))) ?_
     simp only [r_g, Nat.reduceAdd, ↓reduceIte, Nat.reduceEqDiff, zas, zaz, zaf, zag, zax, zay, za7, zar]; simp [zc9 _ _ hlt, opN, ho, oD]; rfl
   ·simp -dsimp -implicitDefEqProofs (disch := first | assumption | omega | (simp only [r_z, zab, zaa, za5, za8] <;> omega) | decide) only [r_r, ↓reduceIte, Nat.reduceEqDiff, Nat.reduceAdd, D.fix, Int.reduceToNat, Nat.reduceMul, Nat.reduceBNe, Nat.reduceBEq, zas, zaz, zaf, zag, zax, zay, za7, zar, ho, zc0]
    refine zfq (jp9 (nth n.gates k).a (nth n.gates k).b (nth n.gates k).c (nth n.gates k).n) ?_ ?_
    ·simp (disch := first | assumption | omega | (simp only [r_z, zab, zaa, za5, za8] <;> omega) | decide) only [r_c, Nat.reduceAdd, D.fix, ↓reduceIte, Nat.reduceEqDiff, zas, zaz, zaf, zag, zax, zay, za7, zar, zl6, opsC]
    simp -dsimp -implicitDefEqProofs (disch := first | assumption | omega | (simp only [r_z, zab, zaa, za5, za8] <;> omega) | decide) only [r_r, ↓reduceIte, Nat.reduceEqDiff, Nat.reduceAdd, D.fix, Int.reduceToNat, Nat.reduceMul, Nat.reduceBNe, Nat.reduceBEq, zas, zaz, zaf, zag, zax, zay, za7, zar, ho, zc0]
    refine hK15 _ _ ?_
    refine zbt hp zaj hc rfl fun K20 hK20 => ?_
    simp -dsimp -implicitDefEqProofs (disch := first | assumption | omega | (simp only [r_z, zab, zaa, za5, za8] <;> omega) | decide) only [r_r, ↓reduceIte, Nat.reduceEqDiff, Nat.reduceAdd, D.fix, Int.reduceToNat, Nat.reduceMul, Nat.reduceBNe, Nat.reduceBEq, zas, zaz, zaf, zag, zax, zay, za7, zar, ho, opsC, zc0]
    refine zb8 (jt3 _ _ _) rfl ?_
    simp -dsimp -implicitDefEqProofs (disch := first | assumption | omega | (simp only [r_z, zab, zaa, za5, za8] <;> omega) | decide) only [r_r, ↓reduceIte, Nat.reduceEqDiff, Nat.reduceAdd, D.fix, Int.reduceToNat, Nat.reduceMul, Nat.reduceBNe, Nat.reduceBEq, zas, zaz, zaf, zag, zax, zay, za7, zar, ho, opsC, zc0]
    refine hK20 _ _ (hK8 _ _ ?_)
    refine zbt hp zaj hc rfl fun K21 hK21 => ?_
    simp -dsimp -implicitDefEqProofs (disch := first | assumption | omega | (simp only [r_z, zab, zaa, za5, za8] <;> omega) | decide) only [r_r, ↓reduceIte, Nat.reduceEqDiff, Nat.reduceAdd, D.fix, Int.reduceToNat, Nat.reduceMul, Nat.reduceBNe, Nat.reduceBEq, zas, zaz, zaf, zag, zax, zay, za7, zar, zc0]
    refine hK21 _ _ ⟨_, _, _, ?_, ⟨k + 1, by omega, rfl, rfl, rfl⟩, ?_⟩
    ·first | omega | (simp only [List.length_cons]; omega) | (dsimp only; omega)
    ·refine Rt.trans (Rt.gc (keep := [4,1]) (by decide) (by decide) (by simp [fzH, gcH])) ?_
     refine Rt.end (by repeat (first | exact zal _ | refine zai ?_ (by first | rfl | (simp [r_f, zab, zaa, za5, za8]; done) | simp [r_f, zab, zaa, za5, za8, *]))) ?_
     simp only [r_g, Nat.reduceAdd, ↓reduceIte, Nat.reduceEqDiff, zas, zaz, zaf, zag, zax, zay, za7, zar]; simp [zc9 _ _ hlt, opN, ho, oD]; rfl
   ·simp -dsimp -implicitDefEqProofs (disch := first | assumption | omega | (simp only [r_z, zab, zaa, za5, za8] <;> omega) | decide) only [r_r, ↓reduceIte, Nat.reduceEqDiff, Nat.reduceAdd, D.fix, Int.reduceToNat, Nat.reduceMul, Nat.reduceBNe, Nat.reduceBEq, zas, zaz, zaf, zag, zax, zay, za7, zar, ho, zc0]
    refine zfq (jqa (nth n.gates k).a (nth n.gates k).b (nth n.gates k).c (nth n.gates k).n) ?_ ?_
    ·simp (disch := first | assumption | omega | (simp only [r_z, zab, zaa, za5, za8] <;> omega) | decide) only [r_c, Nat.reduceAdd, D.fix, ↓reduceIte, Nat.reduceEqDiff, zas, zaz, zaf, zag, zax, zay, za7, zar, zl6, opsC]
    simp -dsimp -implicitDefEqProofs (disch := first | assumption | omega | (simp only [r_z, zab, zaa, za5, za8] <;> omega) | decide) only [r_r, ↓reduceIte, Nat.reduceEqDiff, Nat.reduceAdd, D.fix, Int.reduceToNat, Nat.reduceMul, Nat.reduceBNe, Nat.reduceBEq, zas, zaz, zaf, zag, zax, zay, za7, zar, ho, zc0]
    refine hK15 _ _ ?_
    refine zbt hp zaj hc rfl fun K22 hK22 => ?_
    simp -dsimp -implicitDefEqProofs (disch := first | assumption | omega | (simp only [r_z, zab, zaa, za5, za8] <;> omega) | decide) only [r_r, ↓reduceIte, Nat.reduceEqDiff, Nat.reduceAdd, D.fix, Int.reduceToNat, Nat.reduceMul, Nat.reduceBNe, Nat.reduceBEq, zas, zaz, zaf, zag, zax, zay, za7, zar, ho, opsC, zc0]
    refine zb8 (jt4 _ _ _) rfl ?_
    simp -dsimp -implicitDefEqProofs (disch := first | assumption | omega | (simp only [r_z, zab, zaa, za5, za8] <;> omega) | decide) only [r_r, ↓reduceIte, Nat.reduceEqDiff, Nat.reduceAdd, D.fix, Int.reduceToNat, Nat.reduceMul, Nat.reduceBNe, Nat.reduceBEq, zas, zaz, zaf, zag, zax, zay, za7, zar, ho, opsC, zc0]
    refine hK22 _ _ (hK8 _ _ ?_)
    refine zbt hp zaj hc rfl fun K23 hK23 => ?_
    simp -dsimp -implicitDefEqProofs (disch := first | assumption | omega | (simp only [r_z, zab, zaa, za5, za8] <;> omega) | decide) only [r_r, ↓reduceIte, Nat.reduceEqDiff, Nat.reduceAdd, D.fix, Int.reduceToNat, Nat.reduceMul, Nat.reduceBNe, Nat.reduceBEq, zas, zaz, zaf, zag, zax, zay, za7, zar, zc0]
    refine hK23 _ _ ⟨_, _, _, ?_, ⟨k + 1, by omega, rfl, rfl, rfl⟩, ?_⟩
    ·first | omega | (simp only [List.length_cons]; omega) | (dsimp only; omega)
    ·refine Rt.trans (Rt.gc (keep := [4,1]) (by decide) (by decide) (by simp [fzH, gcH])) ?_
     refine Rt.end (by repeat (first | exact zal _ | refine zai ?_ (by first | rfl | (simp [r_f, zab, zaa, za5, za8]; done) | simp [r_f, zab, zaa, za5, za8, *]))) ?_
     simp only [r_g, Nat.reduceAdd, ↓reduceIte, Nat.reduceEqDiff, zas, zaz, zaf, zag, zax, zay, za7, zar]; simp [zc9 _ _ hlt, opN, ho, oD]; rfl
   ·simp -dsimp -implicitDefEqProofs (disch := first | assumption | omega | (simp only [r_z, zab, zaa, za5, za8] <;> omega) | decide) only [r_r, ↓reduceIte, Nat.reduceEqDiff, Nat.reduceAdd, D.fix, Int.reduceToNat, Nat.reduceMul, Nat.reduceBNe, Nat.reduceBEq, zas, zaz, zaf, zag, zax, zay, za7, zar, ho, zc0]
    refine zfq (jqb (nth n.gates k).a (nth n.gates k).b (nth n.gates k).c (nth n.gates k).n) ?_ ?_
    ·simp (disch := first | assumption | omega | (simp only [r_z, zab, zaa, za5, za8] <;> omega) | decide) only [r_c, Nat.reduceAdd, D.fix, ↓reduceIte, Nat.reduceEqDiff, zas, zaz, zaf, zag, zax, zay, za7, zar, zl6, opsC]
    simp -dsimp -implicitDefEqProofs (disch := first | assumption | omega | (simp only [r_z, zab, zaa, za5, za8] <;> omega) | decide) only [r_r, ↓reduceIte, Nat.reduceEqDiff, Nat.reduceAdd, D.fix, Int.reduceToNat, Nat.reduceMul, Nat.reduceBNe, Nat.reduceBEq, zas, zaz, zaf, zag, zax, zay, za7, zar, ho, zc0]
    refine hK15 _ _ ?_
    refine zbt hp zaj hc rfl fun K24 hK24 => ?_
    simp -dsimp -implicitDefEqProofs (disch := first | assumption | omega | (simp only [r_z, zab, zaa, za5, za8] <;> omega) | decide) only [r_r, ↓reduceIte, Nat.reduceEqDiff, Nat.reduceAdd, D.fix, Int.reduceToNat, Nat.reduceMul, Nat.reduceBNe, Nat.reduceBEq, zas, zaz, zaf, zag, zax, zay, za7, zar, ho, opsC, zc0]
    refine zb8 (jt5 _ _ _) rfl ?_
    simp -dsimp -implicitDefEqProofs (disch := first | assumption | omega | (simp only [r_z, zab, zaa, za5, za8] <;> omega) | decide) only [r_r, ↓reduceIte, Nat.reduceEqDiff, Nat.reduceAdd, D.fix, Int.reduceToNat, Nat.reduceMul, Nat.reduceBNe, Nat.reduceBEq, zas, zaz, zaf, zag, zax, zay, za7, zar, ho, opsC, zc0]
    refine hK24 _ _ (hK8 _ _ ?_)
    refine zbt hp zaj hc rfl fun K25 hK25 => ?_
    simp -dsimp -implicitDefEqProofs (disch := first | assumption | omega | (simp only [r_z, zab, zaa, za5, za8] <;> omega) | decide) only [r_r, ↓reduceIte, Nat.reduceEqDiff, Nat.reduceAdd, D.fix, Int.reduceToNat, Nat.reduceMul, Nat.reduceBNe, Nat.reduceBEq, zas, zaz, zaf, zag, zax, zay, za7, zar, zc0]
    refine hK25 _ _ ⟨_, _, _, ?_, ⟨k + 1, by omega, rfl, rfl, rfl⟩, ?_⟩
    ·first | omega | (simp only [List.length_cons]; omega) | (dsimp only; omega)
    ·refine Rt.trans (Rt.gc (keep := [4,1]) (by decide) (by decide) (by simp [fzH, gcH])) ?_
     refine Rt.end (by repeat (first | exact zal _ | refine zai ?_ (by first | rfl | (simp [r_f, zab, zaa, za5, za8]; done) | simp [r_f, zab, zaa, za5, za8, *]))) ?_
     simp only [r_g, Nat.reduceAdd, ↓reduceIte, Nat.reduceEqDiff, zas, zaz, zaf, zag, zax, zay, za7, zar]; simp [zc9 _ _ hlt, opN, ho, oD]; rfl
   ·simp -dsimp -implicitDefEqProofs (disch := first | assumption | omega | (simp only [r_z, zab, zaa, za5, za8] <;> omega) | decide) only [r_r, ↓reduceIte, Nat.reduceEqDiff, Nat.reduceAdd, D.fix, Int.reduceToNat, Nat.reduceMul, Nat.reduceBNe, Nat.reduceBEq, zas, zaz, zaf, zag, zax, zay, za7, zar, ho, zc0]
    refine zfq (jqc (nth n.gates k).a (nth n.gates k).b (nth n.gates k).c (nth n.gates k).n) ?_ ?_
    ·simp (disch := first | assumption | omega | (simp only [r_z, zab, zaa, za5, za8] <;> omega) | decide) only [r_c, Nat.reduceAdd, D.fix, ↓reduceIte, Nat.reduceEqDiff, zas, zaz, zaf, zag, zax, zay, za7, zar, zl6, opsC]
    simp -dsimp -implicitDefEqProofs (disch := first | assumption | omega | (simp only [r_z, zab, zaa, za5, za8] <;> omega) | decide) only [r_r, ↓reduceIte, Nat.reduceEqDiff, Nat.reduceAdd, D.fix, Int.reduceToNat, Nat.reduceMul, Nat.reduceBNe, Nat.reduceBEq, zas, zaz, zaf, zag, zax, zay, za7, zar, ho, zc0]
    refine hK15 _ _ ?_
    refine zbt hp zaj hc rfl fun K26 hK26 => ?_
    simp -dsimp -implicitDefEqProofs (disch := first | assumption | omega | (simp only [r_z, zab, zaa, za5, za8] <;> omega) | decide) only [r_r, ↓reduceIte, Nat.reduceEqDiff, Nat.reduceAdd, D.fix, Int.reduceToNat, Nat.reduceMul, Nat.reduceBNe, Nat.reduceBEq, zas, zaz, zaf, zag, zax, zay, za7, zar, ho, opsC, zc0]
    refine zb8 (jt6 _ _ _) rfl ?_
    simp -dsimp -implicitDefEqProofs (disch := first | assumption | omega | (simp only [r_z, zab, zaa, za5, za8] <;> omega) | decide) only [r_r, ↓reduceIte, Nat.reduceEqDiff, Nat.reduceAdd, D.fix, Int.reduceToNat, Nat.reduceMul, Nat.reduceBNe, Nat.reduceBEq, zas, zaz, zaf, zag, zax, zay, za7, zar, ho, opsC, zc0]
    refine hK26 _ _ (hK8 _ _ ?_)
    refine zbt hp zaj hc rfl fun K27 hK27 => ?_
    simp -dsimp -implicitDefEqProofs (disch := first | assumption | omega | (simp only [r_z, zab, zaa, za5, za8] <;> omega) | decide) only [r_r, ↓reduceIte, Nat.reduceEqDiff, Nat.reduceAdd, D.fix, Int.reduceToNat, Nat.reduceMul, Nat.reduceBNe, Nat.reduceBEq, zas, zaz, zaf, zag, zax, zay, za7, zar, zc0]
    refine hK27 _ _ ⟨_, _, _, ?_, ⟨k + 1, by omega, rfl, rfl, rfl⟩, ?_⟩
    ·first | omega | (simp only [List.length_cons]; omega) | (dsimp only; omega)
    ·refine Rt.trans (Rt.gc (keep := [4,1]) (by decide) (by decide) (by simp [fzH, gcH])) ?_
     refine Rt.end (by repeat (first | exact zal _ | refine zai ?_ (by first | rfl | (simp [r_f, zab, zaa, za5, za8]; done) | simp [r_f, zab, zaa, za5, za8, *]))) ?_
     simp only [r_g, Nat.reduceAdd, ↓reduceIte, Nat.reduceEqDiff, zas, zaz, zaf, zag, zax, zay, za7, zar]; simp [zc9 _ _ hlt, opN, ho, oD]; rfl
 ·have hge : k = n.gates.length := by simp at ht; omega
  refine zbl (hK4 _ _ ?_)
  refine zac hp zaj hc rfl fun K28 hK28 => ?_
  simp -dsimp -implicitDefEqProofs (disch := first | assumption | omega | (simp only [r_z, zab, zaa, za5, za8] <;> omega) | decide) only [r_r, ↓reduceIte, Nat.reduceEqDiff, Nat.reduceAdd, D.fix, Int.reduceToNat, Nat.reduceMul, Nat.reduceBNe, Nat.reduceBEq, zas, zaz, zaf, zag, zax, zay, za7, zar]
  refine hK28 _ _ ?_
  refine za6 ?_
  show closeA _ _ = _
  simp (disch := first | assumption | omega | (simp only [r_z, zab, zaa, za5, za8] <;> omega) | decide) only [r_c, Nat.reduceAdd, D.fix, ↓reduceIte, Nat.reduceEqDiff, zas, zaz, zaf, zag, zax, zay, za7, zar]
  rw [hge, List.take_length]; simp [zta, za5]; omega
end Go.Proofs.Ytignimmnnccblaa
