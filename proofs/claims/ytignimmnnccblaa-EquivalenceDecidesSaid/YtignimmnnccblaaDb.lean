/- netsim.Eval: the values of all nodes. -/
import Derived.Test.YtignimmnnccblaaQr
import Derived.Test.YtignimmnnccblaaDa
set_option linter.unusedVariables false
set_option linter.unusedSimpArgs false
set_option maxRecDepth 100000
set_option maxHeartbeats 4000000
namespace Go.Proofs.Ytignimmnnccblaa
open Go Go.RowKit
theorem zcx : ((((((type_of% @zd1) ∧ ((type_of% @zd2) ∧ (type_of% @zkg))) ∧ (((type_of% @zkh) ∧ (type_of% @zki)) ∧ ((type_of% @zkj) ∧ (type_of% @jer)))) ∧ (((type_of% @jes) ∧ ((type_of% @jpo) ∧ (type_of% @jpp))) ∧ (((type_of% @jpq) ∧ (type_of% @jps)) ∧ ((type_of% @jpr) ∧ (type_of% @zdq))))) ∧ ((((type_of% @zdr) ∧ ((type_of% @zgz) ∧ (type_of% @zg0))) ∧ (((type_of% @zg1) ∧ (type_of% @zg2)) ∧ ((type_of% @ze4) ∧ (type_of% @ze5)))) ∧ (((type_of% @ze7) ∧ ((type_of% @zjf) ∧ (type_of% @zjg))) ∧ (((type_of% @zl6) ∧ (type_of% @zl5)) ∧ ((type_of% @zgk) ∧ (type_of% @zgl)))))) ∧ (((((type_of% @znt) ∧ ((type_of% @znu) ∧ (type_of% @zgm))) ∧ (((type_of% @zgn) ∧ (type_of% @zgo)) ∧ ((type_of% @zgp) ∧ (type_of% @zif)))) ∧ (((type_of% @zig) ∧ ((type_of% @zlk) ∧ (type_of% @zll))) ∧ (((type_of% @zsc) ∧ (type_of% @zsd)) ∧ ((type_of% @zse) ∧ (type_of% @zsf))))) ∧ ((((type_of% @zhw) ∧ ((type_of% @zhx) ∧ (type_of% @jpt))) ∧ (((type_of% @jpu) ∧ (type_of% @jpv)) ∧ ((type_of% @jpw) ∧ (type_of% @jpx)))) ∧ (((type_of% @jpy) ∧ ((type_of% @jdg) ∧ (type_of% @jdh))) ∧ (((type_of% @jpm) ∧ (type_of% @jpn)) ∧ ((type_of% @jpk) ∧ (type_of% @jpl))))))) := ⟨⟨⟨⟨⟨@zd1, ⟨@zd2, @zkg⟩⟩, ⟨⟨@zkh, @zki⟩, ⟨@zkj, @jer⟩⟩⟩, ⟨⟨@jes, ⟨@jpo, @jpp⟩⟩, ⟨⟨@jpq, @jps⟩, ⟨@jpr, @zdq⟩⟩⟩⟩, ⟨⟨⟨@zdr, ⟨@zgz, @zg0⟩⟩, ⟨⟨@zg1, @zg2⟩, ⟨@ze4, @ze5⟩⟩⟩, ⟨⟨@ze7, ⟨@zjf, @zjg⟩⟩, ⟨⟨@zl6, @zl5⟩, ⟨@zgk, @zgl⟩⟩⟩⟩⟩, ⟨⟨⟨⟨@znt, ⟨@znu, @zgm⟩⟩, ⟨⟨@zgn, @zgo⟩, ⟨@zgp, @zif⟩⟩⟩, ⟨⟨@zig, ⟨@zlk, @zll⟩⟩, ⟨⟨@zsc, @zsd⟩, ⟨@zse, @zsf⟩⟩⟩⟩, ⟨⟨⟨@zhw, ⟨@zhx, @jpt⟩⟩, ⟨⟨@jpu, @jpv⟩, ⟨@jpw, @jpx⟩⟩⟩, ⟨⟨@jpy, ⟨@jdg, @jdh⟩⟩, ⟨⟨@jpm, @jpn⟩, ⟨@jpk, @jpl⟩⟩⟩⟩⟩⟩
theorem za5 : opsC.length = 12 := rfl
structure GateOk (m : Nat) (g : Gate) : Prop where
 o1 : 1 ≤ g.op
 o2 : g.op ≤ 7
 a0 : 0 ≤ g.a
 a1 : g.a < m
 b0 : 0 ≤ g.b
 b1 : g.b < m
 c0 : 0 ≤ g.c
 c1 : g.c < m
 n0 : 0 ≤ g.n
 n1 : g.n < 1000000
def GatesOk (m : Nat) (l : List Gate) : Prop := ∀ k, k < l.length → GateOk (m + k) (nth l k)
def opN (mems : List (List Int)) (v : List Bool) (g : Gate) : Bool :=
 if g.op = 7 then ztr mems g.n (jl9 (nth v g.a.toNat) (nth v g.b.toNat) (nth v g.c.toNat))
 else if g.op = 1 then !nth v g.a.toNat
 else if g.op = 2 then nth v g.a.toNat && nth v g.b.toNat
 else if g.op = 3 then nth v g.a.toNat || nth v g.b.toNat
 else if g.op = 4 then nth v g.a.toNat != nth v g.b.toNat
 else if g.op = 5 then if nth v g.a.toNat then nth v g.b.toNat else nth v g.c.toNat
 else nth v g.a.toNat && (nth v g.b.toNat || nth v g.c.toNat) || nth v g.b.toNat && nth v g.c.toNat
def zcq (mems : List (List Int)) (v : List Bool) (l : List Gate) : List Bool := l.foldl (fun v g => v ++ [opN mems v g]) v
def zty (gates : List Gate) (inp : List Bool) (mems : List (List Int)) : List Bool := zcq mems (false :: true :: inp) gates
theorem za2 (mems : List (List Int)) : ∀ (l : List Gate) (v : List Bool), (zcq mems v l).length = v.length + l.length
 | [], v => rfl
 | g :: l, v => by
  show (zcq mems (v ++ [opN mems v g]) l).length = _
  rw [za2 mems l]; simp; omega
theorem zc8 (mems : List (List Int)) (v : List Bool) {l : List Gate} {k : Nat} (h : k < l.length) : zcq mems v (l.take (k + 1)) = zcq mems v (l.take k) ++ [opN mems (zcq mems v (l.take k)) (nth l k)] := by
 rw [zdx h]; simp [zcq]
theorem jqy (n : Net) (inp : List Bool) (mems : List (List Int)) (hg : GatesOk (2 + inp.length) n.gates) (h1 : inp.length ≤ 1000000) (h2 : n.gates.length ≤ 1000000) : zbd Try.prog 20 [zaw n, boolsD inp, intssD mems] (.d (boolsD (zty n.gates inp mems))) := by
 refine zbg (fn := Try.f20) (by kernel_rfl) Try.func20 rfl (Nat.le_of_ble_eq_true rfl) fun c hc hp => ?_
 refine zbh (τ' := frL [(0, .d (zaw n)), (1, .d (boolsD inp)), (2, .d (intssD mems))]) (by repeat (first | exact zam _ | refine zai ?_ (by first | rfl | (simp [r_f, zab, zaa, za2, za5]; done) | simp [r_f, zab, zaa, za2, za5, *]))) ?_
 refine zac hp zak hc rfl fun K1 hK1 => ?_
 simp -dsimp -implicitDefEqProofs (disch := first | assumption | omega | (simp only [r_z, zab, zaa, za2, za5] <;> omega) | decide) only [r_r, ↓reduceIte, Nat.reduceEqDiff, Nat.reduceAdd, D.fix, Int.reduceToNat, Nat.reduceMul, Nat.reduceBNe, Nat.reduceBEq, zaw, zax, zaf, zag, zau, zav, za3, zar, zcx]
 refine hK1 _ _ ?_
 refine zac hp zak hc rfl fun K2 hK2 => ?_
 simp -dsimp -implicitDefEqProofs (disch := first | assumption | omega | (simp only [r_z, zab, zaa, za2, za5] <;> omega) | decide) only [r_r, ↓reduceIte, Nat.reduceEqDiff, Nat.reduceAdd, D.fix, Int.reduceToNat, Nat.reduceMul, Nat.reduceBNe, Nat.reduceBEq, zaw, zax, zaf, zag, zau, zav, za3, zar, zcx]
 refine hK2 _ _ ?_
 refine zac hp zak hc rfl fun K3 hK3 => ?_
 simp -dsimp -implicitDefEqProofs (disch := first | assumption | omega | (simp only [r_z, zab, zaa, za2, za5] <;> omega) | decide) only [r_r, ↓reduceIte, Nat.reduceEqDiff, Nat.reduceAdd, D.fix, Int.reduceToNat, Nat.reduceMul, Nat.reduceBNe, Nat.reduceBEq, zaw, zax, zaf, zag, zau, zav, za3, zar, opsC, zcx]
 refine zb8 (zts) rfl ?_
 simp -dsimp -implicitDefEqProofs (disch := first | assumption | omega | (simp only [r_z, zab, zaa, za2, za5] <;> omega) | decide) only [r_r, ↓reduceIte, Nat.reduceEqDiff, Nat.reduceAdd, D.fix, Int.reduceToNat, Nat.reduceMul, Nat.reduceBNe, Nat.reduceBEq, zaw, zax, zaf, zag, zau, zav, za3, zar, opsC, zcx]
 refine hK3 _ _ ?_
 refine zao fun K4 hK4 => ?_
 refine zac hp zak hc rfl fun K5 hK5 => ?_
 simp -dsimp -implicitDefEqProofs (disch := first | assumption | omega | (simp only [r_z, zab, zaa, za2, za5] <;> omega) | decide) only [r_r, ↓reduceIte, Nat.reduceEqDiff, Nat.reduceAdd, D.fix, Int.reduceToNat, Nat.reduceMul, Nat.reduceBNe, Nat.reduceBEq, zaw, zax, zaf, zag, zau, zav, za3, zar, zcx]
 refine hK5 _ _ ?_
 refine zaz ?_
 refine zbb hp (fun τ' H' mm => ∃ k, (k ≤ n.gates.length) ∧ mm = n.gates.length - k ∧ H' = [.cells (avs ((zcq mems (false :: true :: inp) (n.gates.take k)).map oD)), .cells (avs opsC)] ∧ τ' = frL [(2, .d (intssD mems)), (7, .os 1 0 0 (2 + inp.length + k)), (8, .op 1 0), (20, .d (zag n.gates)), (21, .d (iD n.gates.length)), (22, .d (iD k))]) (n.gates.length) ?_ ⟨0, Nat.zero_le _, rfl, rfl, rfl⟩ ?_
 ·refine Rt.trans (Rt.gc (keep := [2,3]) (by decide) (by decide) (by simp [fzH, gcH])) ?_
  refine Rt.end (by repeat (first | exact zam _ | refine zai ?_ (by first | rfl | (simp [r_f, zab, zaa, za2, za5]; done) | simp [r_f, zab, zaa, za2, za5, *]))) ?_
  first | rfl | (simp only [r_g, Nat.reduceAdd, ↓reduceIte, Nat.reduceEqDiff, zaw, zax, zaf, zag, zau, zav, za3, zar]; first | done | rfl)
 rintro τ' H' mm ⟨k, hk, rfl, rfl, rfl⟩
 refine zac hp zak hc rfl fun K6 hK6 => ?_
 simp -dsimp -implicitDefEqProofs (disch := first | assumption | omega | (simp only [r_z, zab, zaa, za2, za5] <;> omega) | decide) only [r_r, ↓reduceIte, Nat.reduceEqDiff, Nat.reduceAdd, D.fix, Int.reduceToNat, Nat.reduceMul, Nat.reduceBNe, Nat.reduceBEq, zaw, zax, zaf, zag, zau, zav, za3, zar, zcx]
 refine hK6 _ _ ?_
 refine zao fun K7 hK7 => ?_
 refine zaq rfl (fun ht => ?_) (fun ht => ?_)
 ·have hlt : k < n.gates.length := by simp at ht; omega
  refine zay (hK7 _ _ ?_)
  refine zao fun K8 hK8 => ?_
  refine zaz ?_
  have ok := hg k hlt
  obtain ⟨o1, o2, a0, a1, b0, b1, c0, c1, n0, n1⟩ := ok
  have hl : (zcq mems (false :: true :: inp) (n.gates.take k)).length = 2 + inp.length + k := by rw [za2]; simp; omega
  refine zac hp zak hc rfl fun K9 hK9 => ?_
  simp -dsimp -implicitDefEqProofs (disch := first | assumption | omega | (simp only [r_z, zab, zaa, za2, za5] <;> omega) | decide) only [r_r, ↓reduceIte, Nat.reduceEqDiff, Nat.reduceAdd, D.fix, Int.reduceToNat, Nat.reduceMul, Nat.reduceBNe, Nat.reduceBEq, zaw, zax, zaf, zag, zau, zav, za3, zar, zcx]
  refine hK9 _ _ ?_
  refine zbp zak hc mixed rfl (q := 0) (by kernel_rfl) (by kernel_rfl) fun K10 hK10 => ?_
  simp -dsimp -implicitDefEqProofs (disch := first | assumption | omega | (simp only [r_z, zab, zaa, za2, za5] <;> omega) | decide) only [r_r, ↓reduceIte, Nat.reduceEqDiff, Nat.reduceAdd, D.fix, Int.reduceToNat, Nat.reduceMul, Nat.reduceBNe, Nat.reduceBEq, zaw, zax, zaf, zag, zau, zav, za3, zar, zcx]
  refine hK10 _ _ ?_
  refine zao fun K11 hK11 => ?_
  refine zac hp zak hc rfl fun K12 hK12 => ?_
  simp -dsimp -implicitDefEqProofs (disch := first | assumption | omega | (simp only [r_z, zab, zaa, za2, za5] <;> omega) | decide) only [r_r, ↓reduceIte, Nat.reduceEqDiff, Nat.reduceAdd, D.fix, Int.reduceToNat, Nat.reduceMul, Nat.reduceBNe, Nat.reduceBEq, zaw, zax, zaf, zag, zau, zav, za3, zar, zcx]
  refine hK12 _ _ ?_
  refine zaq rfl (fun ht => ?_) (fun ht => ?_)
  ·have h7 : (nth n.gates k).op = 7 := by simpa using ht
   refine zbp zak hc mixed rfl (q := 3) (by kernel_rfl) (by kernel_rfl) fun K13 hK13 => ?_
   simp -dsimp -implicitDefEqProofs (disch := first | assumption | omega | (simp only [r_z, zab, zaa, za2, za5] <;> omega) | decide) only [r_r, ↓reduceIte, Nat.reduceEqDiff, Nat.reduceAdd, D.fix, Int.reduceToNat, Nat.reduceMul, Nat.reduceBNe, Nat.reduceBEq, zaw, zax, zaf, zag, zau, zav, za3, zar, zcx]
   refine zb8 (jf6 _ _ _) rfl ?_
   simp -dsimp -implicitDefEqProofs (disch := first | assumption | omega | (simp only [r_z, zab, zaa, za2, za5] <;> omega) | decide) only [r_r, ↓reduceIte, Nat.reduceEqDiff, Nat.reduceAdd, D.fix, Int.reduceToNat, Nat.reduceMul, Nat.reduceBNe, Nat.reduceBEq, zaw, zax, zaf, zag, zau, zav, za3, zar, zcx]
   refine zb8 (jqh _ _ _ n0 n1 (jqg _ _ _).1) rfl ?_
   simp -dsimp -implicitDefEqProofs (disch := first | assumption | omega | (simp only [r_z, zab, zaa, za2, za5] <;> omega) | decide) only [r_r, ↓reduceIte, Nat.reduceEqDiff, Nat.reduceAdd, D.fix, Int.reduceToNat, Nat.reduceMul, Nat.reduceBNe, Nat.reduceBEq, zaw, zax, zaf, zag, zau, zav, za3, zar, zcx]
   refine hK13 _ _ ?_
   refine zbn (hK8 _ _ ?_)
   refine zbt hp zak hc rfl fun K14 hK14 => ?_
   simp -dsimp -implicitDefEqProofs (disch := first | assumption | omega | (simp only [r_z, zab, zaa, za2, za5] <;> omega) | decide) only [r_r, ↓reduceIte, Nat.reduceEqDiff, Nat.reduceAdd, D.fix, Int.reduceToNat, Nat.reduceMul, Nat.reduceBNe, Nat.reduceBEq, zaw, zax, zaf, zag, zau, zav, za3, zar, zcx]
   refine hK14 _ _ ⟨_, _, _, ?_, ⟨k + 1, by omega, rfl, rfl, rfl⟩, ?_⟩
   ·first | omega | (simp only [List.length_cons]; omega) | (dsimp only; omega)
   ·refine Rt.trans (Rt.gc (keep := [5,1]) (by decide) (by decide) (by simp [fzH, gcH])) ?_
    refine Rt.end (by repeat (first | exact zam _ | refine zai ?_ (by first | rfl | (simp [r_f, zab, zaa, za2, za5]; done) | simp [r_f, zab, zaa, za2, za5, *]))) ?_
    simp only [r_g, Nat.reduceAdd, ↓reduceIte, Nat.reduceEqDiff, zaw, zax, zaf, zag, zau, zav, za3, zar]; simp [zc8 _ _ hlt, opN, h7, oD]
  ·have h7 : ¬ (nth n.gates k).op = 7 := by simpa using ht
   refine zay (hK11 _ _ ?_)
   refine zac hp zak hc rfl fun K15 hK15 => ?_
   rcases (show (nth n.gates k).op = 1 ∨ (nth n.gates k).op = 2 ∨ (nth n.gates k).op = 3 ∨ (nth n.gates k).op = 4 ∨ (nth n.gates k).op = 5 ∨ (nth n.gates k).op = 6 by omega) with ho | ho | ho | ho | ho | ho
   ·simp -dsimp -implicitDefEqProofs (disch := first | assumption | omega | (simp only [r_z, zab, zaa, za2, za5] <;> omega) | decide) only [r_r, ↓reduceIte, Nat.reduceEqDiff, Nat.reduceAdd, D.fix, Int.reduceToNat, Nat.reduceMul, Nat.reduceBNe, Nat.reduceBEq, zaw, zax, zaf, zag, zau, zav, za3, zar, ho, zcx]
    refine zfo (jqi (nth n.gates k).a (nth n.gates k).b (nth n.gates k).c (nth n.gates k).n) ?_ ?_
    ·simp (disch := first | assumption | omega | (simp only [r_z, zab, zaa, za2, za5] <;> omega) | decide) only [r_c, Nat.reduceAdd, D.fix, ↓reduceIte, Nat.reduceEqDiff, zaw, zax, zaf, zag, zau, zav, za3, zar, zl7, opsC]
    simp -dsimp -implicitDefEqProofs (disch := first | assumption | omega | (simp only [r_z, zab, zaa, za2, za5] <;> omega) | decide) only [r_r, ↓reduceIte, Nat.reduceEqDiff, Nat.reduceAdd, D.fix, Int.reduceToNat, Nat.reduceMul, Nat.reduceBNe, Nat.reduceBEq, zaw, zax, zaf, zag, zau, zav, za3, zar, ho, zcx]
    refine hK15 _ _ ?_
    refine zbt hp zak hc rfl fun K16 hK16 => ?_
    simp -dsimp -implicitDefEqProofs (disch := first | assumption | omega | (simp only [r_z, zab, zaa, za2, za5] <;> omega) | decide) only [r_r, ↓reduceIte, Nat.reduceEqDiff, Nat.reduceAdd, D.fix, Int.reduceToNat, Nat.reduceMul, Nat.reduceBNe, Nat.reduceBEq, zaw, zax, zaf, zag, zau, zav, za3, zar, ho, opsC, zcx]
    refine zb8 (jud _ _ _) rfl ?_
    simp -dsimp -implicitDefEqProofs (disch := first | assumption | omega | (simp only [r_z, zab, zaa, za2, za5] <;> omega) | decide) only [r_r, ↓reduceIte, Nat.reduceEqDiff, Nat.reduceAdd, D.fix, Int.reduceToNat, Nat.reduceMul, Nat.reduceBNe, Nat.reduceBEq, zaw, zax, zaf, zag, zau, zav, za3, zar, ho, opsC, zcx]
    refine hK16 _ _ (hK8 _ _ ?_)
    refine zbt hp zak hc rfl fun K17 hK17 => ?_
    simp -dsimp -implicitDefEqProofs (disch := first | assumption | omega | (simp only [r_z, zab, zaa, za2, za5] <;> omega) | decide) only [r_r, ↓reduceIte, Nat.reduceEqDiff, Nat.reduceAdd, D.fix, Int.reduceToNat, Nat.reduceMul, Nat.reduceBNe, Nat.reduceBEq, zaw, zax, zaf, zag, zau, zav, za3, zar, zcx]
    refine hK17 _ _ ⟨_, _, _, ?_, ⟨k + 1, by omega, rfl, rfl, rfl⟩, ?_⟩
    ·first | omega | (simp only [List.length_cons]; omega) | (dsimp only; omega)
    ·refine Rt.trans (Rt.gc (keep := [4,1]) (by decide) (by decide) (by simp [fzH, gcH])) ?_
     refine Rt.end (by repeat (first | exact zam _ | refine zai ?_ (by first | rfl | (simp [r_f, zab, zaa, za2, za5]; done) | simp [r_f, zab, zaa, za2, za5, *]))) ?_
     simp only [r_g, Nat.reduceAdd, ↓reduceIte, Nat.reduceEqDiff, zaw, zax, zaf, zag, zau, zav, za3, zar]; simp [zc8 _ _ hlt, opN, ho, oD]; rfl
   ·simp -dsimp -implicitDefEqProofs (disch := first | assumption | omega | (simp only [r_z, zab, zaa, za2, za5] <;> omega) | decide) only [r_r, ↓reduceIte, Nat.reduceEqDiff, Nat.reduceAdd, D.fix, Int.reduceToNat, Nat.reduceMul, Nat.reduceBNe, Nat.reduceBEq, zaw, zax, zaf, zag, zau, zav, za3, zar, ho, zcx]
    refine zfo (jqj (nth n.gates k).a (nth n.gates k).b (nth n.gates k).c (nth n.gates k).n) ?_ ?_
    ·simp (disch := first | assumption | omega | (simp only [r_z, zab, zaa, za2, za5] <;> omega) | decide) only [r_c, Nat.reduceAdd, D.fix, ↓reduceIte, Nat.reduceEqDiff, zaw, zax, zaf, zag, zau, zav, za3, zar, zl7, opsC]
    simp -dsimp -implicitDefEqProofs (disch := first | assumption | omega | (simp only [r_z, zab, zaa, za2, za5] <;> omega) | decide) only [r_r, ↓reduceIte, Nat.reduceEqDiff, Nat.reduceAdd, D.fix, Int.reduceToNat, Nat.reduceMul, Nat.reduceBNe, Nat.reduceBEq, zaw, zax, zaf, zag, zau, zav, za3, zar, ho, zcx]
    refine hK15 _ _ ?_
    refine zbt hp zak hc rfl fun K18 hK18 => ?_
    simp -dsimp -implicitDefEqProofs (disch := first | assumption | omega | (simp only [r_z, zab, zaa, za2, za5] <;> omega) | decide) only [r_r, ↓reduceIte, Nat.reduceEqDiff, Nat.reduceAdd, D.fix, Int.reduceToNat, Nat.reduceMul, Nat.reduceBNe, Nat.reduceBEq, zaw, zax, zaf, zag, zau, zav, za3, zar, ho, opsC, zcx]
    refine zb8 (jue _ _ _) rfl ?_
    simp -dsimp -implicitDefEqProofs (disch := first | assumption | omega | (simp only [r_z, zab, zaa, za2, za5] <;> omega) | decide) only [r_r, ↓reduceIte, Nat.reduceEqDiff, Nat.reduceAdd, D.fix, Int.reduceToNat, Nat.reduceMul, Nat.reduceBNe, Nat.reduceBEq, zaw, zax, zaf, zag, zau, zav, za3, zar, ho, opsC, zcx]
    refine hK18 _ _ (hK8 _ _ ?_)
    refine zbt hp zak hc rfl fun K19 hK19 => ?_
    simp -dsimp -implicitDefEqProofs (disch := first | assumption | omega | (simp only [r_z, zab, zaa, za2, za5] <;> omega) | decide) only [r_r, ↓reduceIte, Nat.reduceEqDiff, Nat.reduceAdd, D.fix, Int.reduceToNat, Nat.reduceMul, Nat.reduceBNe, Nat.reduceBEq, zaw, zax, zaf, zag, zau, zav, za3, zar, zcx]
    refine hK19 _ _ ⟨_, _, _, ?_, ⟨k + 1, by omega, rfl, rfl, rfl⟩, ?_⟩
    ·first | omega | (simp only [List.length_cons]; omega) | (dsimp only; omega)
    ·refine Rt.trans (Rt.gc (keep := [4,1]) (by decide) (by decide) (by simp [fzH, gcH])) ?_
     refine Rt.end (by repeat (first | exact zam _ | refine zai ?_ (by first | rfl | (simp [r_f, zab, zaa, za2, za5]; done) | simp [r_f, zab, zaa, za2, za5, *]))) ?_
     simp only [r_g, Nat.reduceAdd, ↓reduceIte, Nat.reduceEqDiff, zaw, zax, zaf, zag, zau, zav, za3, zar]; simp [zc8 _ _ hlt, opN, ho, oD]; rfl
   ·simp -dsimp -implicitDefEqProofs (disch := first | assumption | omega | (simp only [r_z, zab, zaa, za2, za5] <;> omega) | decide) only [r_r, ↓reduceIte, Nat.reduceEqDiff, Nat.reduceAdd, D.fix, Int.reduceToNat, Nat.reduceMul, Nat.reduceBNe, Nat.reduceBEq, zaw, zax, zaf, zag, zau, zav, za3, zar, ho, zcx]
    refine zfo (jqk (nth n.gates k).a (nth n.gates k).b (nth n.gates k).c (nth n.gates k).n) ?_ ?_
    ·simp (disch := first | assumption | omega | (simp only [r_z, zab, zaa, za2, za5] <;> omega) | decide) only [r_c, Nat.reduceAdd, D.fix, ↓reduceIte, Nat.reduceEqDiff, zaw, zax, zaf, zag, zau, zav, za3, zar, zl7, opsC]
    simp -dsimp -implicitDefEqProofs (disch := first | assumption | omega | (simp only [r_z, zab, zaa, za2, za5] <;> omega) | decide) only [r_r, ↓reduceIte, Nat.reduceEqDiff, Nat.reduceAdd, D.fix, Int.reduceToNat, Nat.reduceMul, Nat.reduceBNe, Nat.reduceBEq, zaw, zax, zaf, zag, zau, zav, za3, zar, ho, zcx]
    refine hK15 _ _ ?_
    refine zbt hp zak hc rfl fun K20 hK20 => ?_
    simp -dsimp -implicitDefEqProofs (disch := first | assumption | omega | (simp only [r_z, zab, zaa, za2, za5] <;> omega) | decide) only [r_r, ↓reduceIte, Nat.reduceEqDiff, Nat.reduceAdd, D.fix, Int.reduceToNat, Nat.reduceMul, Nat.reduceBNe, Nat.reduceBEq, zaw, zax, zaf, zag, zau, zav, za3, zar, ho, opsC, zcx]
    refine zb8 (juf _ _ _) rfl ?_
    simp -dsimp -implicitDefEqProofs (disch := first | assumption | omega | (simp only [r_z, zab, zaa, za2, za5] <;> omega) | decide) only [r_r, ↓reduceIte, Nat.reduceEqDiff, Nat.reduceAdd, D.fix, Int.reduceToNat, Nat.reduceMul, Nat.reduceBNe, Nat.reduceBEq, zaw, zax, zaf, zag, zau, zav, za3, zar, ho, opsC, zcx]
    refine hK20 _ _ (hK8 _ _ ?_)
    refine zbt hp zak hc rfl fun K21 hK21 => ?_
    simp -dsimp -implicitDefEqProofs (disch := first | assumption | omega | (simp only [r_z, zab, zaa, za2, za5] <;> omega) | decide) only [r_r, ↓reduceIte, Nat.reduceEqDiff, Nat.reduceAdd, D.fix, Int.reduceToNat, Nat.reduceMul, Nat.reduceBNe, Nat.reduceBEq, zaw, zax, zaf, zag, zau, zav, za3, zar, zcx]
    refine hK21 _ _ ⟨_, _, _, ?_, ⟨k + 1, by omega, rfl, rfl, rfl⟩, ?_⟩
    ·first | omega | (simp only [List.length_cons]; omega) | (dsimp only; omega)
    ·refine Rt.trans (Rt.gc (keep := [4,1]) (by decide) (by decide) (by simp [fzH, gcH])) ?_
     refine Rt.end (by repeat (first | exact zam _ | refine zai ?_ (by first | rfl | (simp [r_f, zab, zaa, za2, za5]; done) | simp [r_f, zab, zaa, za2, za5, *]))) ?_
     simp only [r_g, Nat.reduceAdd, ↓reduceIte, Nat.reduceEqDiff, zaw, zax, zaf, zag, zau, zav, za3, zar]; simp [zc8 _ _ hlt, opN, ho, oD]; rfl
   ·simp -dsimp -implicitDefEqProofs (disch := first | assumption | omega | (simp only [r_z, zab, zaa, za2, za5] <;> omega) | decide) only [r_r, ↓reduceIte, Nat.reduceEqDiff, Nat.reduceAdd, D.fix, Int.reduceToNat, Nat.reduceMul, Nat.reduceBNe, Nat.reduceBEq, zaw, zax, zaf, zag, zau, zav, za3, zar, ho, zcx]
    refine zfo (jql (nth n.gates k).a (nth n.gates k).b (nth n.gates k).c (nth n.gates k).n) ?_ ?_
    ·simp (disch := first | assumption | omega | (simp only [r_z, zab, zaa, za2, za5] <;> omega) | decide) only [r_c, Nat.reduceAdd, D.fix, ↓reduceIte, Nat.reduceEqDiff, zaw, zax, zaf, zag, zau, zav, za3, zar, zl7, opsC]
    simp -dsimp -implicitDefEqProofs (disch := first | assumption | omega | (simp only [r_z, zab, zaa, za2, za5] <;> omega) | decide) only [r_r, ↓reduceIte, Nat.reduceEqDiff, Nat.reduceAdd, D.fix, Int.reduceToNat, Nat.reduceMul, Nat.reduceBNe, Nat.reduceBEq, zaw, zax, zaf, zag, zau, zav, za3, zar, ho, zcx]
    refine hK15 _ _ ?_
    refine zbt hp zak hc rfl fun K22 hK22 => ?_
    simp -dsimp -implicitDefEqProofs (disch := first | assumption | omega | (simp only [r_z, zab, zaa, za2, za5] <;> omega) | decide) only [r_r, ↓reduceIte, Nat.reduceEqDiff, Nat.reduceAdd, D.fix, Int.reduceToNat, Nat.reduceMul, Nat.reduceBNe, Nat.reduceBEq, zaw, zax, zaf, zag, zau, zav, za3, zar, ho, opsC, zcx]
    refine zb8 (jug _ _ _) rfl ?_
    simp -dsimp -implicitDefEqProofs (disch := first | assumption | omega | (simp only [r_z, zab, zaa, za2, za5] <;> omega) | decide) only [r_r, ↓reduceIte, Nat.reduceEqDiff, Nat.reduceAdd, D.fix, Int.reduceToNat, Nat.reduceMul, Nat.reduceBNe, Nat.reduceBEq, zaw, zax, zaf, zag, zau, zav, za3, zar, ho, opsC, zcx]
    refine hK22 _ _ (hK8 _ _ ?_)
    refine zbt hp zak hc rfl fun K23 hK23 => ?_
    simp -dsimp -implicitDefEqProofs (disch := first | assumption | omega | (simp only [r_z, zab, zaa, za2, za5] <;> omega) | decide) only [r_r, ↓reduceIte, Nat.reduceEqDiff, Nat.reduceAdd, D.fix, Int.reduceToNat, Nat.reduceMul, Nat.reduceBNe, Nat.reduceBEq, zaw, zax, zaf, zag, zau, zav, za3, zar, zcx]
    refine hK23 _ _ ⟨_, _, _, ?_, ⟨k + 1, by omega, rfl, rfl, rfl⟩, ?_⟩
    ·first | omega | (simp only [List.length_cons]; omega) | (dsimp only; omega)
    ·refine Rt.trans (Rt.gc (keep := [4,1]) (by decide) (by decide) (by simp [fzH, gcH])) ?_
     refine Rt.end (by repeat (first | exact zam _ | refine zai ?_ (by first | rfl | (simp [r_f, zab, zaa, za2, za5]; done) | simp [r_f, zab, zaa, za2, za5, *]))) ?_
     simp only [r_g, Nat.reduceAdd, ↓reduceIte, Nat.reduceEqDiff, zaw, zax, zaf, zag, zau, zav, za3, zar]; simp [zc8 _ _ hlt, opN, ho, oD]; rfl
   ·simp -dsimp -implicitDefEqProofs (disch := first | assumption | omega | (simp only [r_z, zab, zaa, za2, za5] <;> omega) | decide) only [r_r, ↓reduceIte, Nat.reduceEqDiff, Nat.reduceAdd, D.fix, Int.reduceToNat, Nat.reduceMul, Nat.reduceBNe, Nat.reduceBEq, zaw, zax, zaf, zag, zau, zav, za3, zar, ho, zcx]
    refine zfo (jqm (nth n.gates k).a (nth n.gates k).b (nth n.gates k).c (nth n.gates k).n) ?_ ?_
    ·simp (disch := first | assumption | omega | (simp only [r_z, zab, zaa, za2, za5] <;> omega) | decide) only [r_c, Nat.reduceAdd, D.fix, ↓reduceIte, Nat.reduceEqDiff, zaw, zax, zaf, zag, zau, zav, za3, zar, zl7, opsC]
    simp -dsimp -implicitDefEqProofs (disch := first | assumption | omega | (simp only [r_z, zab, zaa, za2, za5] <;> omega) | decide) only [r_r, ↓reduceIte, Nat.reduceEqDiff, Nat.reduceAdd, D.fix, Int.reduceToNat, Nat.reduceMul, Nat.reduceBNe, Nat.reduceBEq, zaw, zax, zaf, zag, zau, zav, za3, zar, ho, zcx]
    refine hK15 _ _ ?_
    refine zbt hp zak hc rfl fun K24 hK24 => ?_
    simp -dsimp -implicitDefEqProofs (disch := first | assumption | omega | (simp only [r_z, zab, zaa, za2, za5] <;> omega) | decide) only [r_r, ↓reduceIte, Nat.reduceEqDiff, Nat.reduceAdd, D.fix, Int.reduceToNat, Nat.reduceMul, Nat.reduceBNe, Nat.reduceBEq, zaw, zax, zaf, zag, zau, zav, za3, zar, ho, opsC, zcx]
    refine zb8 (juh _ _ _) rfl ?_
    simp -dsimp -implicitDefEqProofs (disch := first | assumption | omega | (simp only [r_z, zab, zaa, za2, za5] <;> omega) | decide) only [r_r, ↓reduceIte, Nat.reduceEqDiff, Nat.reduceAdd, D.fix, Int.reduceToNat, Nat.reduceMul, Nat.reduceBNe, Nat.reduceBEq, zaw, zax, zaf, zag, zau, zav, za3, zar, ho, opsC, zcx]
    refine hK24 _ _ (hK8 _ _ ?_)
    refine zbt hp zak hc rfl fun K25 hK25 => ?_
    simp -dsimp -implicitDefEqProofs (disch := first | assumption | omega | (simp only [r_z, zab, zaa, za2, za5] <;> omega) | decide) only [r_r, ↓reduceIte, Nat.reduceEqDiff, Nat.reduceAdd, D.fix, Int.reduceToNat, Nat.reduceMul, Nat.reduceBNe, Nat.reduceBEq, zaw, zax, zaf, zag, zau, zav, za3, zar, zcx]
    refine hK25 _ _ ⟨_, _, _, ?_, ⟨k + 1, by omega, rfl, rfl, rfl⟩, ?_⟩
    ·first | omega | (simp only [List.length_cons]; omega) | (dsimp only; omega)
    ·refine Rt.trans (Rt.gc (keep := [4,1]) (by decide) (by decide) (by simp [fzH, gcH])) ?_
     refine Rt.end (by repeat (first | exact zam _ | refine zai ?_ (by first | rfl | (simp [r_f, zab, zaa, za2, za5]; done) | simp [r_f, zab, zaa, za2, za5, *]))) ?_
     simp only [r_g, Nat.reduceAdd, ↓reduceIte, Nat.reduceEqDiff, zaw, zax, zaf, zag, zau, zav, za3, zar]; simp [zc8 _ _ hlt, opN, ho, oD]; rfl
   ·simp -dsimp -implicitDefEqProofs (disch := first | assumption | omega | (simp only [r_z, zab, zaa, za2, za5] <;> omega) | decide) only [r_r, ↓reduceIte, Nat.reduceEqDiff, Nat.reduceAdd, D.fix, Int.reduceToNat, Nat.reduceMul, Nat.reduceBNe, Nat.reduceBEq, zaw, zax, zaf, zag, zau, zav, za3, zar, ho, zcx]
    refine zfo (jqn (nth n.gates k).a (nth n.gates k).b (nth n.gates k).c (nth n.gates k).n) ?_ ?_
    ·simp (disch := first | assumption | omega | (simp only [r_z, zab, zaa, za2, za5] <;> omega) | decide) only [r_c, Nat.reduceAdd, D.fix, ↓reduceIte, Nat.reduceEqDiff, zaw, zax, zaf, zag, zau, zav, za3, zar, zl7, opsC]
    simp -dsimp -implicitDefEqProofs (disch := first | assumption | omega | (simp only [r_z, zab, zaa, za2, za5] <;> omega) | decide) only [r_r, ↓reduceIte, Nat.reduceEqDiff, Nat.reduceAdd, D.fix, Int.reduceToNat, Nat.reduceMul, Nat.reduceBNe, Nat.reduceBEq, zaw, zax, zaf, zag, zau, zav, za3, zar, ho, zcx]
    refine hK15 _ _ ?_
    refine zbt hp zak hc rfl fun K26 hK26 => ?_
    simp -dsimp -implicitDefEqProofs (disch := first | assumption | omega | (simp only [r_z, zab, zaa, za2, za5] <;> omega) | decide) only [r_r, ↓reduceIte, Nat.reduceEqDiff, Nat.reduceAdd, D.fix, Int.reduceToNat, Nat.reduceMul, Nat.reduceBNe, Nat.reduceBEq, zaw, zax, zaf, zag, zau, zav, za3, zar, ho, opsC, zcx]
    refine zb8 (jui _ _ _) rfl ?_
    simp -dsimp -implicitDefEqProofs (disch := first | assumption | omega | (simp only [r_z, zab, zaa, za2, za5] <;> omega) | decide) only [r_r, ↓reduceIte, Nat.reduceEqDiff, Nat.reduceAdd, D.fix, Int.reduceToNat, Nat.reduceMul, Nat.reduceBNe, Nat.reduceBEq, zaw, zax, zaf, zag, zau, zav, za3, zar, ho, opsC, zcx]
    refine hK26 _ _ (hK8 _ _ ?_)
    refine zbt hp zak hc rfl fun K27 hK27 => ?_
    simp -dsimp -implicitDefEqProofs (disch := first | assumption | omega | (simp only [r_z, zab, zaa, za2, za5] <;> omega) | decide) only [r_r, ↓reduceIte, Nat.reduceEqDiff, Nat.reduceAdd, D.fix, Int.reduceToNat, Nat.reduceMul, Nat.reduceBNe, Nat.reduceBEq, zaw, zax, zaf, zag, zau, zav, za3, zar, zcx]
    refine hK27 _ _ ⟨_, _, _, ?_, ⟨k + 1, by omega, rfl, rfl, rfl⟩, ?_⟩
    ·first | omega | (simp only [List.length_cons]; omega) | (dsimp only; omega)
    ·refine Rt.trans (Rt.gc (keep := [4,1]) (by decide) (by decide) (by simp [fzH, gcH])) ?_
     refine Rt.end (by repeat (first | exact zam _ | refine zai ?_ (by first | rfl | (simp [r_f, zab, zaa, za2, za5]; done) | simp [r_f, zab, zaa, za2, za5, *]))) ?_
     simp only [r_g, Nat.reduceAdd, ↓reduceIte, Nat.reduceEqDiff, zaw, zax, zaf, zag, zau, zav, za3, zar]; simp [zc8 _ _ hlt, opN, ho, oD]; rfl
 ·have hge : k = n.gates.length := by simp at ht; omega
  refine zbn (hK4 _ _ ?_)
  refine zac hp zak hc rfl fun K28 hK28 => ?_
  simp -dsimp -implicitDefEqProofs (disch := first | assumption | omega | (simp only [r_z, zab, zaa, za2, za5] <;> omega) | decide) only [r_r, ↓reduceIte, Nat.reduceEqDiff, Nat.reduceAdd, D.fix, Int.reduceToNat, Nat.reduceMul, Nat.reduceBNe, Nat.reduceBEq, zaw, zax, zaf, zag, zau, zav, za3, zar]
  refine hK28 _ _ ?_
  refine za4 ?_
  show closeA _ _ = _
  simp (disch := first | assumption | omega | (simp only [r_z, zab, zaa, za2, za5] <;> omega) | decide) only [r_c, Nat.reduceAdd, D.fix, ↓reduceIte, Nat.reduceEqDiff, zaw, zax, zaf, zag, zau, zav, za3, zar]
  rw [hge, List.take_length]; simp [zty, za2]; omega
end Go.Proofs.Ytignimmnnccblaa
