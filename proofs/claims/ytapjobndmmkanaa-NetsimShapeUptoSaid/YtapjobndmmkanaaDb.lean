/- netsim.Eval: the values of all nodes. -/
import Derived.Test.YtapjobndmmkanaaQr
import Derived.Test.YtapjobndmmkanaaDa
set_option linter.unusedVariables false
set_option linter.unusedSimpArgs false
set_option maxRecDepth 100000
set_option maxHeartbeats 4000000
namespace Go.Proofs.Ytapjobndmmkanaa
open Go Go.RowKit
theorem zbo : ((((((type_of% @ze9) ∧ ((type_of% @zfa) ∧ (type_of% @zhv))) ∧ (((type_of% @zhw) ∧ (type_of% @zhx)) ∧ ((type_of% @zhy) ∧ (type_of% @jfz)))) ∧ (((type_of% @jf0) ∧ ((type_of% @zyy) ∧ (type_of% @zyz))) ∧ (((type_of% @zy0) ∧ (type_of% @zy2)) ∧ ((type_of% @zy1) ∧ (type_of% @zju))))) ∧ ((((type_of% @zjv) ∧ ((type_of% @zvy) ∧ (type_of% @zvz))) ∧ (((type_of% @zv0) ∧ (type_of% @zv1)) ∧ ((type_of% @zo8) ∧ (type_of% @zo9)))) ∧ (((type_of% @zpa) ∧ ((type_of% @zv7) ∧ (type_of% @zv8))) ∧ (((type_of% @zwa) ∧ (type_of% @zv9)) ∧ ((type_of% @zt7) ∧ (type_of% @zt8)))))) ∧ (((((type_of% @zuw) ∧ ((type_of% @zux) ∧ (type_of% @zkc))) ∧ (((type_of% @zkd) ∧ (type_of% @zke)) ∧ ((type_of% @zkf) ∧ (type_of% @zka)))) ∧ (((type_of% @zkb) ∧ ((type_of% @zkg) ∧ (type_of% @zkh))) ∧ (((type_of% @zhr) ∧ (type_of% @zhs)) ∧ ((type_of% @zht) ∧ (type_of% @zhu))))) ∧ ((((type_of% @jav) ∧ ((type_of% @jaw) ∧ (type_of% @zy3))) ∧ (((type_of% @zy4) ∧ (type_of% @zy5)) ∧ ((type_of% @zy6) ∧ (type_of% @zy7)))) ∧ (((type_of% @zy8) ∧ ((type_of% @zpd) ∧ (type_of% @zpe))) ∧ (((type_of% @zyw) ∧ (type_of% @zyx)) ∧ ((type_of% @zyu) ∧ (type_of% @zyv))))))) := ⟨⟨⟨⟨⟨@ze9, ⟨@zfa, @zhv⟩⟩, ⟨⟨@zhw, @zhx⟩, ⟨@zhy, @jfz⟩⟩⟩, ⟨⟨@jf0, ⟨@zyy, @zyz⟩⟩, ⟨⟨@zy0, @zy2⟩, ⟨@zy1, @zju⟩⟩⟩⟩, ⟨⟨⟨@zjv, ⟨@zvy, @zvz⟩⟩, ⟨⟨@zv0, @zv1⟩, ⟨@zo8, @zo9⟩⟩⟩, ⟨⟨@zpa, ⟨@zv7, @zv8⟩⟩, ⟨⟨@zwa, @zv9⟩, ⟨@zt7, @zt8⟩⟩⟩⟩⟩, ⟨⟨⟨⟨@zuw, ⟨@zux, @zkc⟩⟩, ⟨⟨@zkd, @zke⟩, ⟨@zkf, @zka⟩⟩⟩, ⟨⟨@zkb, ⟨@zkg, @zkh⟩⟩, ⟨⟨@zhr, @zhs⟩, ⟨@zht, @zhu⟩⟩⟩⟩, ⟨⟨⟨@jav, ⟨@jaw, @zy3⟩⟩, ⟨⟨@zy4, @zy5⟩, ⟨@zy6, @zy7⟩⟩⟩, ⟨⟨@zy8, ⟨@zpd, @zpe⟩⟩, ⟨⟨@zyw, @zyx⟩, ⟨@zyu, @zyv⟩⟩⟩⟩⟩⟩
theorem zax : opsC.length = 12 := rfl
structure GateOk (m : Nat) (g : Gate) : Prop where
 o1 : 1 ≤ g.op
 o2 : g.op ≤ 7
 a0 : 0 ≤ g.a
 a1 : g.a < m
 b0 : 0 ≤ g.b
 b1 : g.b < m
 c0 : 0 ≤ g.c
 c1 : g.c < m
 n0 : 0 ≤ g.n
 n1 : g.n < 1000000
def GatesOk (m : Nat) (l : List Gate) : Prop := ∀ k, k < l.length → GateOk (m + k) (nth l k)
def opN (mems : List (List Int)) (v : List Bool) (g : Gate) : Bool :=
 if g.op = 7 then zug mems g.n (jer (nth v g.a.toNat) (nth v g.b.toNat) (nth v g.c.toNat))
 else if g.op = 1 then !nth v g.a.toNat
 else if g.op = 2 then nth v g.a.toNat && nth v g.b.toNat
 else if g.op = 3 then nth v g.a.toNat || nth v g.b.toNat
 else if g.op = 4 then nth v g.a.toNat != nth v g.b.toNat
 else if g.op = 5 then if nth v g.a.toNat then nth v g.b.toNat else nth v g.c.toNat
 else nth v g.a.toNat && (nth v g.b.toNat || nth v g.c.toNat) || nth v g.b.toNat && nth v g.c.toNat
def zkj (mems : List (List Int)) (v : List Bool) (l : List Gate) : List Bool := l.foldl (fun v g => v ++ [opN mems v g]) v
def zmx (gates : List Gate) (inp : List Bool) (mems : List (List Int)) : List Bool := zkj mems (false :: true :: inp) gates
theorem zas (mems : List (List Int)) : ∀ (l : List Gate) (v : List Bool), (zkj mems v l).length = v.length + l.length
 | [], v => rfl
 | g :: l, v => by
  show (zkj mems (v ++ [opN mems v g]) l).length = _
  rw [zas mems l]; simp; omega
theorem zcj (mems : List (List Int)) (v : List Bool) {l : List Gate} {k : Nat} (h : k < l.length) : zkj mems v (l.take (k + 1)) = zkj mems v (l.take k) ++ [opN mems (zkj mems v (l.take k)) (nth l k)] := by
 rw [zgj h]; simp [zkj]
theorem jd4 (n : Net) (inp : List Bool) (mems : List (List Int)) (hg : GatesOk (2 + inp.length) n.gates) (h1 : inp.length ≤ 1000000) (h2 : n.gates.length ≤ 1000000) : zbh Try.prog 15 [za1 n, boolsD inp, intssD mems] (.d (boolsD (zmx n.gates inp mems))) := by
 refine zbv (fn := Try.f15) (by kernel_rfl) Try.func15 rfl (Nat.le_of_ble_eq_true rfl) fun c hc hp => ?_
 refine zb8 (τ' := frL [(0, .d (za1 n)), (1, .d (boolsD inp)), (2, .d (intssD mems))]) (by repeat (first | exact zat _ | refine zap ?_ (by first | rfl | (simp [r_f, zaa, zab, zas, zax]; done) | simp [r_f, zaa, zab, zas, zax, *]))) ?_
 refine zah hp zar hc rfl fun K1 hK1 => ?_
 simp -dsimp -implicitDefEqProofs (disch := first | assumption | omega | (simp only [r_z, zaa, zab, zas, zax] <;> omega) | decide) only [r_r, ↓reduceIte, Nat.reduceEqDiff, Nat.reduceAdd, D.fix, Int.reduceToNat, Nat.reduceMul, Nat.reduceBNe, Nat.reduceBEq, za1, za3, zad, zae, zaz, zau, zaf, za0, zbo]
 refine hK1 _ _ ?_
 refine zah hp zar hc rfl fun K2 hK2 => ?_
 simp -dsimp -implicitDefEqProofs (disch := first | assumption | omega | (simp only [r_z, zaa, zab, zas, zax] <;> omega) | decide) only [r_r, ↓reduceIte, Nat.reduceEqDiff, Nat.reduceAdd, D.fix, Int.reduceToNat, Nat.reduceMul, Nat.reduceBNe, Nat.reduceBEq, za1, za3, zad, zae, zaz, zau, zaf, za0, zbo]
 refine hK2 _ _ ?_
 refine zah hp zar hc rfl fun K3 hK3 => ?_
 simp -dsimp -implicitDefEqProofs (disch := first | assumption | omega | (simp only [r_z, zaa, zab, zas, zax] <;> omega) | decide) only [r_r, ↓reduceIte, Nat.reduceEqDiff, Nat.reduceAdd, D.fix, Int.reduceToNat, Nat.reduceMul, Nat.reduceBNe, Nat.reduceBEq, za1, za3, zad, zae, zaz, zau, zaf, za0, opsC, zbo]
 refine zdf (zmw) rfl ?_
 simp -dsimp -implicitDefEqProofs (disch := first | assumption | omega | (simp only [r_z, zaa, zab, zas, zax] <;> omega) | decide) only [r_r, ↓reduceIte, Nat.reduceEqDiff, Nat.reduceAdd, D.fix, Int.reduceToNat, Nat.reduceMul, Nat.reduceBNe, Nat.reduceBEq, za1, za3, zad, zae, zaz, zau, zaf, za0, opsC, zbo]
 refine hK3 _ _ ?_
 refine zav fun K4 hK4 => ?_
 refine zah hp zar hc rfl fun K5 hK5 => ?_
 simp -dsimp -implicitDefEqProofs (disch := first | assumption | omega | (simp only [r_z, zaa, zab, zas, zax] <;> omega) | decide) only [r_r, ↓reduceIte, Nat.reduceEqDiff, Nat.reduceAdd, D.fix, Int.reduceToNat, Nat.reduceMul, Nat.reduceBNe, Nat.reduceBEq, za1, za3, zad, zae, zaz, zau, zaf, za0, zbo]
 refine hK5 _ _ ?_
 refine za5 ?_
 refine zbc hp (fun τ' H' mm => ∃ k, (k ≤ n.gates.length) ∧ mm = n.gates.length - k ∧ H' = [.cells (avs ((zkj mems (false :: true :: inp) (n.gates.take k)).map oD)), .cells (avs opsC)] ∧ τ' = frL [(2, .d (intssD mems)), (7, .os 1 0 0 (2 + inp.length + k)), (8, .op 1 0), (20, .d (zae n.gates)), (21, .d (iD n.gates.length)), (22, .d (iD k))]) (n.gates.length) ?_ ⟨0, Nat.zero_le _, rfl, rfl, rfl⟩ ?_
 ·refine Rt.trans (Rt.gc (keep := [2,3]) (by decide) (by decide) (by simp [fzH, gcH])) ?_
  refine Rt.end (by repeat (first | exact zat _ | refine zap ?_ (by first | rfl | (simp [r_f, zaa, zab, zas, zax]; done) | simp [r_f, zaa, zab, zas, zax, *]))) ?_
  first | rfl | (simp only [r_g, Nat.reduceAdd, ↓reduceIte, Nat.reduceEqDiff, za1, za3, zad, zae, zaz, zau, zaf, za0]; first | done | rfl)
 rintro τ' H' mm ⟨k, hk, rfl, rfl, rfl⟩
 refine zah hp zar hc rfl fun K6 hK6 => ?_
 simp -dsimp -implicitDefEqProofs (disch := first | assumption | omega | (simp only [r_z, zaa, zab, zas, zax] <;> omega) | decide) only [r_r, ↓reduceIte, Nat.reduceEqDiff, Nat.reduceAdd, D.fix, Int.reduceToNat, Nat.reduceMul, Nat.reduceBNe, Nat.reduceBEq, za1, za3, zad, zae, zaz, zau, zaf, za0, zbo]
 refine hK6 _ _ ?_
 refine zav fun K7 hK7 => ?_
 refine zay rfl (fun ht => ?_) (fun ht => ?_)
 ·have hlt : k < n.gates.length := by simp at ht; omega
  refine za4 (hK7 _ _ ?_)
  refine zav fun K8 hK8 => ?_
  refine za5 ?_
  have ok := hg k hlt
  obtain ⟨o1, o2, a0, a1, b0, b1, c0, c1, n0, n1⟩ := ok
  have hl : (zkj mems (false :: true :: inp) (n.gates.take k)).length = 2 + inp.length + k := by rw [zas]; simp; omega
  refine zah hp zar hc rfl fun K9 hK9 => ?_
  simp -dsimp -implicitDefEqProofs (disch := first | assumption | omega | (simp only [r_z, zaa, zab, zas, zax] <;> omega) | decide) only [r_r, ↓reduceIte, Nat.reduceEqDiff, Nat.reduceAdd, D.fix, Int.reduceToNat, Nat.reduceMul, Nat.reduceBNe, Nat.reduceBEq, za1, za3, zad, zae, zaz, zau, zaf, za0, zbo]
  refine hK9 _ _ ?_
  refine zb3 zar hc zcb rfl (q := 0) (by kernel_rfl) (by kernel_rfl) fun K10 hK10 => ?_
  simp -dsimp -implicitDefEqProofs (disch := first | assumption | omega | (simp only [r_z, zaa, zab, zas, zax] <;> omega) | decide) only [r_r, ↓reduceIte, Nat.reduceEqDiff, Nat.reduceAdd, D.fix, Int.reduceToNat, Nat.reduceMul, Nat.reduceBNe, Nat.reduceBEq, za1, za3, zad, zae, zaz, zau, zaf, za0, zbo]
  refine hK10 _ _ ?_
  refine zav fun K11 hK11 => ?_
  refine zah hp zar hc rfl fun K12 hK12 => ?_
  simp -dsimp -implicitDefEqProofs (disch := first | assumption | omega | (simp only [r_z, zaa, zab, zas, zax] <;> omega) | decide) only [r_r, ↓reduceIte, Nat.reduceEqDiff, Nat.reduceAdd, D.fix, Int.reduceToNat, Nat.reduceMul, Nat.reduceBNe, Nat.reduceBEq, za1, za3, zad, zae, zaz, zau, zaf, za0, zbo]
  refine hK12 _ _ ?_
  refine zay rfl (fun ht => ?_) (fun ht => ?_)
  ·have h7 : (nth n.gates k).op = 7 := by simpa using ht
   refine zb3 zar hc zcb rfl (q := 3) (by kernel_rfl) (by kernel_rfl) fun K13 hK13 => ?_
   simp -dsimp -implicitDefEqProofs (disch := first | assumption | omega | (simp only [r_z, zaa, zab, zas, zax] <;> omega) | decide) only [r_r, ↓reduceIte, Nat.reduceEqDiff, Nat.reduceAdd, D.fix, Int.reduceToNat, Nat.reduceMul, Nat.reduceBNe, Nat.reduceBEq, za1, za3, zad, zae, zaz, zau, zaf, za0, zbo]
   refine zdf (zwb _ _ _) rfl ?_
   simp -dsimp -implicitDefEqProofs (disch := first | assumption | omega | (simp only [r_z, zaa, zab, zas, zax] <;> omega) | decide) only [r_r, ↓reduceIte, Nat.reduceEqDiff, Nat.reduceAdd, D.fix, Int.reduceToNat, Nat.reduceMul, Nat.reduceBNe, Nat.reduceBEq, za1, za3, zad, zae, zaz, zau, zaf, za0, zbo]
   refine zdf (jdx _ _ _ n0 n1 (jdw _ _ _).1) rfl ?_
   simp -dsimp -implicitDefEqProofs (disch := first | assumption | omega | (simp only [r_z, zaa, zab, zas, zax] <;> omega) | decide) only [r_r, ↓reduceIte, Nat.reduceEqDiff, Nat.reduceAdd, D.fix, Int.reduceToNat, Nat.reduceMul, Nat.reduceBNe, Nat.reduceBEq, za1, za3, zad, zae, zaz, zau, zaf, za0, zbo]
   refine hK13 _ _ ?_
   refine zbi (hK8 _ _ ?_)
   refine zba hp zar hc rfl fun K14 hK14 => ?_
   simp -dsimp -implicitDefEqProofs (disch := first | assumption | omega | (simp only [r_z, zaa, zab, zas, zax] <;> omega) | decide) only [r_r, ↓reduceIte, Nat.reduceEqDiff, Nat.reduceAdd, D.fix, Int.reduceToNat, Nat.reduceMul, Nat.reduceBNe, Nat.reduceBEq, za1, za3, zad, zae, zaz, zau, zaf, za0, zbo]
   refine hK14 _ _ ⟨_, _, _, ?_, ⟨k + 1, by omega, rfl, rfl, rfl⟩, ?_⟩
   ·first | omega | (simp only [List.length_cons]; omega) | (dsimp only; omega)
   ·refine Rt.trans (Rt.gc (keep := [5,1]) (by decide) (by decide) (by simp [fzH, gcH])) ?_
    refine Rt.end (by repeat (first | exact zat _ | refine zap ?_ (by first | rfl | (simp [r_f, zaa, zab, zas, zax]; done) | simp [r_f, zaa, zab, zas, zax, *]))) ?_
    simp only [r_g, Nat.reduceAdd, ↓reduceIte, Nat.reduceEqDiff, za1, za3, zad, zae, zaz, zau, zaf, za0]; simp [zcj _ _ hlt, opN, h7, oD]
  ·have h7 : ¬ (nth n.gates k).op = 7 := by simpa using ht
   refine za4 (hK11 _ _ ?_)
   refine zah hp zar hc rfl fun K15 hK15 => ?_
   rcases (show (nth n.gates k).op = 1 ∨ (nth n.gates k).op = 2 ∨ (nth n.gates k).op = 3 ∨ (nth n.gates k).op = 4 ∨ (nth n.gates k).op = 5 ∨ (nth n.gates k).op = 6 by omega) with ho | ho | ho | ho | ho | ho
   ·simp -dsimp -implicitDefEqProofs (disch := first | assumption | omega | (simp only [r_z, zaa, zab, zas, zax] <;> omega) | decide) only [r_r, ↓reduceIte, Nat.reduceEqDiff, Nat.reduceAdd, D.fix, Int.reduceToNat, Nat.reduceMul, Nat.reduceBNe, Nat.reduceBEq, za1, za3, zad, zae, zaz, zau, zaf, za0, ho, zbo]
    refine zih (jdy (nth n.gates k).a (nth n.gates k).b (nth n.gates k).c (nth n.gates k).n) ?_ ?_
    ·simp (disch := first | assumption | omega | (simp only [r_z, zaa, zab, zas, zax] <;> omega) | decide) only [r_c, Nat.reduceAdd, D.fix, ↓reduceIte, Nat.reduceEqDiff, za1, za3, zad, zae, zaz, zau, zaf, za0, zgb, opsC]
    simp -dsimp -implicitDefEqProofs (disch := first | assumption | omega | (simp only [r_z, zaa, zab, zas, zax] <;> omega) | decide) only [r_r, ↓reduceIte, Nat.reduceEqDiff, Nat.reduceAdd, D.fix, Int.reduceToNat, Nat.reduceMul, Nat.reduceBNe, Nat.reduceBEq, za1, za3, zad, zae, zaz, zau, zaf, za0, ho, zbo]
    refine hK15 _ _ ?_
    refine zba hp zar hc rfl fun K16 hK16 => ?_
    simp -dsimp -implicitDefEqProofs (disch := first | assumption | omega | (simp only [r_z, zaa, zab, zas, zax] <;> omega) | decide) only [r_r, ↓reduceIte, Nat.reduceEqDiff, Nat.reduceAdd, D.fix, Int.reduceToNat, Nat.reduceMul, Nat.reduceBNe, Nat.reduceBEq, za1, za3, zad, zae, zaz, zau, zaf, za0, ho, opsC, zbo]
    refine zdf (jge _ _ _) rfl ?_
    simp -dsimp -implicitDefEqProofs (disch := first | assumption | omega | (simp only [r_z, zaa, zab, zas, zax] <;> omega) | decide) only [r_r, ↓reduceIte, Nat.reduceEqDiff, Nat.reduceAdd, D.fix, Int.reduceToNat, Nat.reduceMul, Nat.reduceBNe, Nat.reduceBEq, za1, za3, zad, zae, zaz, zau, zaf, za0, ho, opsC, zbo]
    refine hK16 _ _ (hK8 _ _ ?_)
    refine zba hp zar hc rfl fun K17 hK17 => ?_
    simp -dsimp -implicitDefEqProofs (disch := first | assumption | omega | (simp only [r_z, zaa, zab, zas, zax] <;> omega) | decide) only [r_r, ↓reduceIte, Nat.reduceEqDiff, Nat.reduceAdd, D.fix, Int.reduceToNat, Nat.reduceMul, Nat.reduceBNe, Nat.reduceBEq, za1, za3, zad, zae, zaz, zau, zaf, za0, zbo]
    refine hK17 _ _ ⟨_, _, _, ?_, ⟨k + 1, by omega, rfl, rfl, rfl⟩, ?_⟩
    ·first | omega | (simp only [List.length_cons]; omega) | (dsimp only; omega)
    ·refine Rt.trans (Rt.gc (keep := [4,1]) (by decide) (by decide) (by simp [fzH, gcH])) ?_
     refine Rt.end (by repeat (first | exact zat _ | refine zap ?_ (by first | rfl | (simp [r_f, zaa, zab, zas, zax]; done) | simp [r_f, zaa, zab, zas, zax, *]))) ?_
     simp only [r_g, Nat.reduceAdd, ↓reduceIte, Nat.reduceEqDiff, za1, za3, zad, zae, zaz, zau, zaf, za0]; simp [zcj _ _ hlt, opN, ho, oD]; rfl
   ·simp -dsimp -implicitDefEqProofs (disch := first | assumption | omega | (simp only [r_z, zaa, zab, zas, zax] <;> omega) | decide) only [r_r, ↓reduceIte, Nat.reduceEqDiff, Nat.reduceAdd, D.fix, Int.reduceToNat, Nat.reduceMul, Nat.reduceBNe, Nat.reduceBEq, za1, za3, zad, zae, zaz, zau, zaf, za0, ho, zbo]
    refine zih (jdz (nth n.gates k).a (nth n.gates k).b (nth n.gates k).c (nth n.gates k).n) ?_ ?_
    ·simp (disch := first | assumption | omega | (simp only [r_z, zaa, zab, zas, zax] <;> omega) | decide) only [r_c, Nat.reduceAdd, D.fix, ↓reduceIte, Nat.reduceEqDiff, za1, za3, zad, zae, zaz, zau, zaf, za0, zgb, opsC]
    simp -dsimp -implicitDefEqProofs (disch := first | assumption | omega | (simp only [r_z, zaa, zab, zas, zax] <;> omega) | decide) only [r_r, ↓reduceIte, Nat.reduceEqDiff, Nat.reduceAdd, D.fix, Int.reduceToNat, Nat.reduceMul, Nat.reduceBNe, Nat.reduceBEq, za1, za3, zad, zae, zaz, zau, zaf, za0, ho, zbo]
    refine hK15 _ _ ?_
    refine zba hp zar hc rfl fun K18 hK18 => ?_
    simp -dsimp -implicitDefEqProofs (disch := first | assumption | omega | (simp only [r_z, zaa, zab, zas, zax] <;> omega) | decide) only [r_r, ↓reduceIte, Nat.reduceEqDiff, Nat.reduceAdd, D.fix, Int.reduceToNat, Nat.reduceMul, Nat.reduceBNe, Nat.reduceBEq, za1, za3, zad, zae, zaz, zau, zaf, za0, ho, opsC, zbo]
    refine zdf (jgf _ _ _) rfl ?_
    simp -dsimp -implicitDefEqProofs (disch := first | assumption | omega | (simp only [r_z, zaa, zab, zas, zax] <;> omega) | decide) only [r_r, ↓reduceIte, Nat.reduceEqDiff, Nat.reduceAdd, D.fix, Int.reduceToNat, Nat.reduceMul, Nat.reduceBNe, Nat.reduceBEq, za1, za3, zad, zae, zaz, zau, zaf, za0, ho, opsC, zbo]
    refine hK18 _ _ (hK8 _ _ ?_)
    refine zba hp zar hc rfl fun K19 hK19 => ?_
    simp -dsimp -implicitDefEqProofs (disch := first | assumption | omega | (simp only [r_z, zaa, zab, zas, zax] <;> omega) | decide) only [r_r, ↓reduceIte, Nat.reduceEqDiff, Nat.reduceAdd, D.fix, Int.reduceToNat, Nat.reduceMul, Nat.reduceBNe, Nat.reduceBEq, za1, za3, zad, zae, zaz, zau, zaf, za0, zbo]
    refine hK19 _ _ ⟨_, _, _, ?_, ⟨k + 1, by omega, rfl, rfl, rfl⟩, ?_⟩
    ·first | omega | (simp only [List.length_cons]; omega) | (dsimp only; omega)
    ·refine Rt.trans (Rt.gc (keep := [4,1]) (by decide) (by decide) (by simp [fzH, gcH])) ?_
     refine Rt.end (by repeat (first | exact zat _ | refine zap ?_ (by first | rfl | (simp [r_f, zaa, zab, zas, zax]; done) | simp [r_f, zaa, zab, zas, zax, *]))) ?_
     simp only [r_g, Nat.reduceAdd, ↓reduceIte, Nat.reduceEqDiff, za1, za3, zad, zae, zaz, zau, zaf, za0]; simp [zcj _ _ hlt, opN, ho, oD]; rfl
   ·simp -dsimp -implicitDefEqProofs (disch := first | assumption | omega | (simp only [r_z, zaa, zab, zas, zax] <;> omega) | decide) only [r_r, ↓reduceIte, Nat.reduceEqDiff, Nat.reduceAdd, D.fix, Int.reduceToNat, Nat.reduceMul, Nat.reduceBNe, Nat.reduceBEq, za1, za3, zad, zae, zaz, zau, zaf, za0, ho, zbo]
    refine zih (jd0 (nth n.gates k).a (nth n.gates k).b (nth n.gates k).c (nth n.gates k).n) ?_ ?_
    ·simp (disch := first | assumption | omega | (simp only [r_z, zaa, zab, zas, zax] <;> omega) | decide) only [r_c, Nat.reduceAdd, D.fix, ↓reduceIte, Nat.reduceEqDiff, za1, za3, zad, zae, zaz, zau, zaf, za0, zgb, opsC]
    simp -dsimp -implicitDefEqProofs (disch := first | assumption | omega | (simp only [r_z, zaa, zab, zas, zax] <;> omega) | decide) only [r_r, ↓reduceIte, Nat.reduceEqDiff, Nat.reduceAdd, D.fix, Int.reduceToNat, Nat.reduceMul, Nat.reduceBNe, Nat.reduceBEq, za1, za3, zad, zae, zaz, zau, zaf, za0, ho, zbo]
    refine hK15 _ _ ?_
    refine zba hp zar hc rfl fun K20 hK20 => ?_
    simp -dsimp -implicitDefEqProofs (disch := first | assumption | omega | (simp only [r_z, zaa, zab, zas, zax] <;> omega) | decide) only [r_r, ↓reduceIte, Nat.reduceEqDiff, Nat.reduceAdd, D.fix, Int.reduceToNat, Nat.reduceMul, Nat.reduceBNe, Nat.reduceBEq, za1, za3, zad, zae, zaz, zau, zaf, za0, ho, opsC, zbo]
    refine zdf (jgg _ _ _) rfl ?_
    simp -dsimp -implicitDefEqProofs (disch := first | assumption | omega | (simp only [r_z, zaa, zab, zas, zax] <;> omega) | decide) only [r_r, ↓reduceIte, Nat.reduceEqDiff, Nat.reduceAdd, D.fix, Int.reduceToNat, Nat.reduceMul, Nat.reduceBNe, Nat.reduceBEq, za1, za3, zad, zae, zaz, zau, zaf, za0, ho, opsC, zbo]
    refine hK20 _ _ (hK8 _ _ ?_)
    refine zba hp zar hc rfl fun K21 hK21 => ?_
    simp -dsimp -implicitDefEqProofs (disch := first | assumption | omega | (simp only [r_z, zaa, zab, zas, zax] <;> omega) | decide) only [r_r, ↓reduceIte, Nat.reduceEqDiff, Nat.reduceAdd, D.fix, Int.reduceToNat, Nat.reduceMul, Nat.reduceBNe, Nat.reduceBEq, za1, za3, zad, zae, zaz, zau, zaf, za0, zbo]
    refine hK21 _ _ ⟨_, _, _, ?_, ⟨k + 1, by omega, rfl, rfl, rfl⟩, ?_⟩
    ·first | omega | (simp only [List.length_cons]; omega) | (dsimp only; omega)
    ·refine Rt.trans (Rt.gc (keep := [4,1]) (by decide) (by decide) (by simp [fzH, gcH])) ?_
     refine Rt.end (by repeat (first | exact zat _ | refine zap ?_ (by first | rfl | (simp [r_f, zaa, zab, zas, zax]; done) | simp [r_f, zaa, zab, zas, zax, *]))) ?_
     simp only [r_g, Nat.reduceAdd, ↓reduceIte, Nat.reduceEqDiff, za1, za3, zad, zae, zaz, zau, zaf, za0]; simp [zcj _ _ hlt, opN, ho, oD]; rfl
   ·simp -dsimp -implicitDefEqProofs (disch := first | assumption | omega | (simp only [r_z, zaa, zab, zas, zax] <;> omega) | decide) only [r_r, ↓reduceIte, Nat.reduceEqDiff, Nat.reduceAdd, D.fix, Int.reduceToNat, Nat.reduceMul, Nat.reduceBNe, Nat.reduceBEq, za1, za3, zad, zae, zaz, zau, zaf, za0, ho, zbo]
    refine zih (jd1 (nth n.gates k).a (nth n.gates k).b (nth n.gates k).c (nth n.gates k).n) ?_ ?_
    ·simp (disch := first | assumption | omega | (simp only [r_z, zaa, zab, zas, zax] <;> omega) | decide) only [r_c, Nat.reduceAdd, D.fix, ↓reduceIte, Nat.reduceEqDiff, za1, za3, zad, zae, zaz, zau, zaf, za0, zgb, opsC]
    simp -dsimp -implicitDefEqProofs (disch := first | assumption | omega | (simp only [r_z, zaa, zab, zas, zax] <;> omega) | decide) only [r_r, ↓reduceIte, Nat.reduceEqDiff, Nat.reduceAdd, D.fix, Int.reduceToNat, Nat.reduceMul, Nat.reduceBNe, Nat.reduceBEq, za1, za3, zad, zae, zaz, zau, zaf, za0, ho, zbo]
    refine hK15 _ _ ?_
    refine zba hp zar hc rfl fun K22 hK22 => ?_
    simp -dsimp -implicitDefEqProofs (disch := first | assumption | omega | (simp only [r_z, zaa, zab, zas, zax] <;> omega) | decide) only [r_r, ↓reduceIte, Nat.reduceEqDiff, Nat.reduceAdd, D.fix, Int.reduceToNat, Nat.reduceMul, Nat.reduceBNe, Nat.reduceBEq, za1, za3, zad, zae, zaz, zau, zaf, za0, ho, opsC, zbo]
    refine zdf (jgh _ _ _) rfl ?_
    simp -dsimp -implicitDefEqProofs (disch := first | assumption | omega | (simp only [r_z, zaa, zab, zas, zax] <;> omega) | decide) only [r_r, ↓reduceIte, Nat.reduceEqDiff, Nat.reduceAdd, D.fix, Int.reduceToNat, Nat.reduceMul, Nat.reduceBNe, Nat.reduceBEq, za1, za3, zad, zae, zaz, zau, zaf, za0, ho, opsC, zbo]
    refine hK22 _ _ (hK8 _ _ ?_)
    refine zba hp zar hc rfl fun K23 hK23 => ?_
    simp -dsimp -implicitDefEqProofs (disch := first | assumption | omega | (simp only [r_z, zaa, zab, zas, zax] <;> omega) | decide) only [r_r, ↓reduceIte, Nat.reduceEqDiff, Nat.reduceAdd, D.fix, Int.reduceToNat, Nat.reduceMul, Nat.reduceBNe, Nat.reduceBEq, za1, za3, zad, zae, zaz, zau, zaf, za0, zbo]
    refine hK23 _ _ ⟨_, _, _, ?_, ⟨k + 1, by omega, rfl, rfl, rfl⟩, ?_⟩
    ·first | omega | (simp only [List.length_cons]; omega) | (dsimp only; omega)
    ·refine Rt.trans (Rt.gc (keep := [4,1]) (by decide) (by decide) (by simp [fzH, gcH])) ?_
     refine Rt.end (by repeat (first | exact zat _ | refine zap ?_ (by first | rfl | (simp [r_f, zaa, zab, zas, zax]; done) | simp [r_f, zaa, zab, zas, zax, *]))) ?_
     simp only [r_g, Nat.reduceAdd, ↓reduceIte, Nat.reduceEqDiff, za1, za3, zad, zae, zaz, zau, zaf, za0]; simp [zcj _ _ hlt, opN, ho, oD]; rfl
   ·simp -dsimp -implicitDefEqProofs (disch := first | assumption | omega | (simp only [r_z, zaa, zab, zas, zax] <;> omega) | decide) only [r_r, ↓reduceIte, Nat.reduceEqDiff, Nat.reduceAdd, D.fix, Int.reduceToNat, Nat.reduceMul, Nat.reduceBNe, Nat.reduceBEq, za1, za3, zad, zae, zaz, zau, zaf, za0, ho, zbo]
    refine zih (jd2 (nth n.gates k).a (nth n.gates k).b (nth n.gates k).c (nth n.gates k).n) ?_ ?_
    ·simp (disch := first | assumption | omega | (simp only [r_z, zaa, zab, zas, zax] <;> omega) | decide) only [r_c, Nat.reduceAdd, D.fix, ↓reduceIte, Nat.reduceEqDiff, za1, za3, zad, zae, zaz, zau, zaf, za0, zgb, opsC]
    simp -dsimp -implicitDefEqProofs (disch := first | assumption | omega | (simp only [r_z, zaa, zab, zas, zax] <;> omega) | decide) only [r_r, ↓reduceIte, Nat.reduceEqDiff, Nat.reduceAdd, D.fix, Int.reduceToNat, Nat.reduceMul, Nat.reduceBNe, Nat.reduceBEq, za1, za3, zad, zae, zaz, zau, zaf, za0, ho, zbo]
    refine hK15 _ _ ?_
    refine zba hp zar hc rfl fun K24 hK24 => ?_
    simp -dsimp -implicitDefEqProofs (disch := first | assumption | omega | (simp only [r_z, zaa, zab, zas, zax] <;> omega) | decide) only [r_r, ↓reduceIte, Nat.reduceEqDiff, Nat.reduceAdd, D.fix, Int.reduceToNat, Nat.reduceMul, Nat.reduceBNe, Nat.reduceBEq, za1, za3, zad, zae, zaz, zau, zaf, za0, ho, opsC, zbo]
    refine zdf (jgi _ _ _) rfl ?_
    simp -dsimp -implicitDefEqProofs (disch := first | assumption | omega | (simp only [r_z, zaa, zab, zas, zax] <;> omega) | decide) only [r_r, ↓reduceIte, Nat.reduceEqDiff, Nat.reduceAdd, D.fix, Int.reduceToNat, Nat.reduceMul, Nat.reduceBNe, Nat.reduceBEq, za1, za3, zad, zae, zaz, zau, zaf, za0, ho, opsC, zbo]
    refine hK24 _ _ (hK8 _ _ ?_)
    refine zba hp zar hc rfl fun K25 hK25 => ?_
    simp -dsimp -implicitDefEqProofs (disch := first | assumption | omega | (simp only [r_z, zaa, zab, zas, zax] <;> omega) | decide) only [r_r, ↓reduceIte, Nat.reduceEqDiff, Nat.reduceAdd, D.fix, Int.reduceToNat, Nat.reduceMul, Nat.reduceBNe, Nat.reduceBEq, za1, za3, zad, zae, zaz, zau, zaf, za0, zbo]
    refine hK25 _ _ ⟨_, _, _, ?_, ⟨k + 1, by omega, rfl, rfl, rfl⟩, ?_⟩
    ·first | omega | (simp only [List.length_cons]; omega) | (dsimp only; omega)
    ·refine Rt.trans (Rt.gc (keep := [4,1]) (by decide) (by decide) (by simp [fzH, gcH])) ?_
     refine Rt.end (by repeat (first | exact zat _ | refine zap ?_ (by first | rfl | (simp [r_f, zaa, zab, zas, zax]; done) | simp [r_f, zaa, zab, zas, zax, *]))) ?_
     simp only [r_g, Nat.reduceAdd, ↓reduceIte, Nat.reduceEqDiff, za1, za3, zad, zae, zaz, zau, zaf, za0]; simp [zcj _ _ hlt, opN, ho, oD]; rfl
   ·simp -dsimp -implicitDefEqProofs (disch := first | assumption | omega | (simp only [r_z, zaa, zab, zas, zax] <;> omega) | decide) only [r_r, ↓reduceIte, Nat.reduceEqDiff, Nat.reduceAdd, D.fix, Int.reduceToNat, Nat.reduceMul, Nat.reduceBNe, Nat.reduceBEq, za1, za3, zad, zae, zaz, zau, zaf, za0, ho, zbo]
    refine zih (jd3 (nth n.gates k).a (nth n.gates k).b (nth n.gates k).c (nth n.gates k).n) ?_ ?_
    ·simp (disch := first | assumption | omega | (simp only [r_z, zaa, zab, zas, zax] <;> omega) | decide) only [r_c, Nat.reduceAdd, D.fix, ↓reduceIte, Nat.reduceEqDiff, za1, za3, zad, zae, zaz, zau, zaf, za0, zgb, opsC]
    simp -dsimp -implicitDefEqProofs (disch := first | assumption | omega | (simp only [r_z, zaa, zab, zas, zax] <;> omega) | decide) only [r_r, ↓reduceIte, Nat.reduceEqDiff, Nat.reduceAdd, D.fix, Int.reduceToNat, Nat.reduceMul, Nat.reduceBNe, Nat.reduceBEq, za1, za3, zad, zae, zaz, zau, zaf, za0, ho, zbo]
    refine hK15 _ _ ?_
    refine zba hp zar hc rfl fun K26 hK26 => ?_
    simp -dsimp -implicitDefEqProofs (disch := first | assumption | omega | (simp only [r_z, zaa, zab, zas, zax] <;> omega) | decide) only [r_r, ↓reduceIte, Nat.reduceEqDiff, Nat.reduceAdd, D.fix, Int.reduceToNat, Nat.reduceMul, Nat.reduceBNe, Nat.reduceBEq, za1, za3, zad, zae, zaz, zau, zaf, za0, ho, opsC, zbo]
    refine zdf (jgj _ _ _) rfl ?_
    simp -dsimp -implicitDefEqProofs (disch := first | assumption | omega | (simp only [r_z, zaa, zab, zas, zax] <;> omega) | decide) only [r_r, ↓reduceIte, Nat.reduceEqDiff, Nat.reduceAdd, D.fix, Int.reduceToNat, Nat.reduceMul, Nat.reduceBNe, Nat.reduceBEq, za1, za3, zad, zae, zaz, zau, zaf, za0, ho, opsC, zbo]
    refine hK26 _ _ (hK8 _ _ ?_)
    refine zba hp zar hc rfl fun K27 hK27 => ?_
    simp -dsimp -implicitDefEqProofs (disch := first | assumption | omega | (simp only [r_z, zaa, zab, zas, zax] <;> omega) | decide) only [r_r, ↓reduceIte, Nat.reduceEqDiff, Nat.reduceAdd, D.fix, Int.reduceToNat, Nat.reduceMul, Nat.reduceBNe, Nat.reduceBEq, za1, za3, zad, zae, zaz, zau, zaf, za0, zbo]
    refine hK27 _ _ ⟨_, _, _, ?_, ⟨k + 1, by omega, rfl, rfl, rfl⟩, ?_⟩
    ·first | omega | (simp only [List.length_cons]; omega) | (dsimp only; omega)
    ·refine Rt.trans (Rt.gc (keep := [4,1]) (by decide) (by decide) (by simp [fzH, gcH])) ?_
     refine Rt.end (by repeat (first | exact zat _ | refine zap ?_ (by first | rfl | (simp [r_f, zaa, zab, zas, zax]; done) | simp [r_f, zaa, zab, zas, zax, *]))) ?_
     simp only [r_g, Nat.reduceAdd, ↓reduceIte, Nat.reduceEqDiff, za1, za3, zad, zae, zaz, zau, zaf, za0]; simp [zcj _ _ hlt, opN, ho, oD]; rfl
 ·have hge : k = n.gates.length := by simp at ht; omega
  refine zbi (hK4 _ _ ?_)
  refine zah hp zar hc rfl fun K28 hK28 => ?_
  simp -dsimp -implicitDefEqProofs (disch := first | assumption | omega | (simp only [r_z, zaa, zab, zas, zax] <;> omega) | decide) only [r_r, ↓reduceIte, Nat.reduceEqDiff, Nat.reduceAdd, D.fix, Int.reduceToNat, Nat.reduceMul, Nat.reduceBNe, Nat.reduceBEq, za1, za3, zad, zae, zaz, zau, zaf, za0]
  refine hK28 _ _ ?_
  refine zbr ?_
  show closeA _ _ = _
  simp (disch := first | assumption | omega | (simp only [r_z, zaa, zab, zas, zax] <;> omega) | decide) only [r_c, Nat.reduceAdd, D.fix, ↓reduceIte, Nat.reduceEqDiff, za1, za3, zad, zae, zaz, zau, zaf, za0]
  rw [hge, List.take_length]; simp [zmx, zas]; omega
end Go.Proofs.Ytapjobndmmkanaa
