/- netsim.Eval: the values of all nodes. -/
import Derived.Test.YtignimmnnccblaaQr
import Derived.Test.YtignimmnnccblaaDa
set_option linter.unusedVariables false
set_option linter.unusedSimpArgs false
set_option maxRecDepth 100000
set_option maxHeartbeats 4000000
namespace Go.Proofs.Ytignimmnnccblaa
open Go Go.RowKit
theorem zc1 : ((((((type_of% @zds) ∧ ((type_of% @zdt) ∧ (type_of% @zkk))) ∧ (((type_of% @zkl) ∧ (type_of% @zkm)) ∧ ((type_of% @zkn) ∧ (type_of% @je4)))) ∧ (((type_of% @je5) ∧ ((type_of% @jp4) ∧ (type_of% @jp5))) ∧ (((type_of% @jp6) ∧ (type_of% @jp8)) ∧ ((type_of% @jp7) ∧ (type_of% @zc6))))) ∧ ((((type_of% @zc7) ∧ ((type_of% @zfq) ∧ (type_of% @zfr))) ∧ (((type_of% @zfs) ∧ (type_of% @zft)) ∧ ((type_of% @zex) ∧ (type_of% @zey)))) ∧ (((type_of% @zfa) ∧ ((type_of% @zh1) ∧ (type_of% @zh2))) ∧ (((type_of% @zkv) ∧ (type_of% @zku)) ∧ ((type_of% @zfe) ∧ (type_of% @zff)))))) ∧ (((((type_of% @zmk) ∧ ((type_of% @zml) ∧ (type_of% @zfg))) ∧ (((type_of% @zfh) ∧ (type_of% @zfi)) ∧ ((type_of% @zfj) ∧ (type_of% @zgw)))) ∧ (((type_of% @zgx) ∧ ((type_of% @zir) ∧ (type_of% @zis))) ∧ (((type_of% @zsn) ∧ (type_of% @zso)) ∧ ((type_of% @zsp) ∧ (type_of% @zsq))))) ∧ ((((type_of% @zhq) ∧ ((type_of% @zhr) ∧ (type_of% @jp9))) ∧ (((type_of% @jqa) ∧ (type_of% @jqb)) ∧ ((type_of% @jqc) ∧ (type_of% @jqd)))) ∧ (((type_of% @jqe) ∧ ((type_of% @jdt) ∧ (type_of% @jdu))) ∧ (((type_of% @jp2) ∧ (type_of% @jp3)) ∧ ((type_of% @jp0) ∧ (type_of% @jp1))))))) := ⟨⟨⟨⟨⟨@zds, ⟨@zdt, @zkk⟩⟩, ⟨⟨@zkl, @zkm⟩, ⟨@zkn, @je4⟩⟩⟩, ⟨⟨@je5, ⟨@jp4, @jp5⟩⟩, ⟨⟨@jp6, @jp8⟩, ⟨@jp7, @zc6⟩⟩⟩⟩, ⟨⟨⟨@zc7, ⟨@zfq, @zfr⟩⟩, ⟨⟨@zfs, @zft⟩, ⟨@zex, @zey⟩⟩⟩, ⟨⟨@zfa, ⟨@zh1, @zh2⟩⟩, ⟨⟨@zkv, @zku⟩, ⟨@zfe, @zff⟩⟩⟩⟩⟩, ⟨⟨⟨⟨@zmk, ⟨@zml, @zfg⟩⟩, ⟨⟨@zfh, @zfi⟩, ⟨@zfj, @zgw⟩⟩⟩, ⟨⟨@zgx, ⟨@zir, @zis⟩⟩, ⟨⟨@zsn, @zso⟩, ⟨@zsp, @zsq⟩⟩⟩⟩, ⟨⟨⟨@zhq, ⟨@zhr, @jp9⟩⟩, ⟨⟨@jqa, @jqb⟩, ⟨@jqc, @jqd⟩⟩⟩, ⟨⟨@jqe, ⟨@jdt, @jdu⟩⟩, ⟨⟨@jp2, @jp3⟩, ⟨@jp0, @jp1⟩⟩⟩⟩⟩⟩
theorem za6 : opsC.length = 12 := rfl
structure GateOk (m : Nat) (g : Gate) : Prop where
 o1 : 1 ≤ g.op
 o2 : g.op ≤ 7
 a0 : 0 ≤ g.a
 a1 : g.a < m
 b0 : 0 ≤ g.b
 b1 : g.b < m
 c0 : 0 ≤ g.c
 c1 : g.c < m
 n0 : 0 ≤ g.n
 n1 : g.n < 1000000
def GatesOk (m : Nat) (l : List Gate) : Prop := ∀ k, k < l.length → GateOk (m + k) (nth l k)
def opN (mems : List (List Int)) (v : List Bool) (g : Gate) : Bool :=
 if g.op = 7 then zt3 mems g.n (jmq (nth v g.a.toNat) (nth v g.b.toNat) (nth v g.c.toNat))
 else if g.op = 1 then !nth v g.a.toNat
 else if g.op = 2 then nth v g.a.toNat && nth v g.b.toNat
 else if g.op = 3 then nth v g.a.toNat || nth v g.b.toNat
 else if g.op = 4 then nth v g.a.toNat != nth v g.b.toNat
 else if g.op = 5 then if nth v g.a.toNat then nth v g.b.toNat else nth v g.c.toNat
 else nth v g.a.toNat && (nth v g.b.toNat || nth v g.c.toNat) || nth v g.b.toNat && nth v g.c.toNat
def zcu (mems : List (List Int)) (v : List Bool) (l : List Gate) : List Bool := l.foldl (fun v g => v ++ [opN mems v g]) v
def zs2 (gates : List Gate) (inp : List Bool) (mems : List (List Int)) : List Bool := zcu mems (false :: true :: inp) gates
theorem za3 (mems : List (List Int)) : ∀ (l : List Gate) (v : List Bool), (zcu mems v l).length = v.length + l.length
 | [], v => rfl
 | g :: l, v => by
  show (zcu mems (v ++ [opN mems v g]) l).length = _
  rw [za3 mems l]; simp; omega
theorem zdb (mems : List (List Int)) (v : List Bool) {l : List Gate} {k : Nat} (h : k < l.length) : zcu mems v (l.take (k + 1)) = zcu mems v (l.take k) ++ [opN mems (zcu mems v (l.take k)) (nth l k)] := by
 rw [zdy h]; simp [zcu]
theorem jre (n : Net) (inp : List Bool) (mems : List (List Int)) (hg : GatesOk (2 + inp.length) n.gates) (h1 : inp.length ≤ 1000000) (h2 : n.gates.length ≤ 1000000) : za9 Try.prog 20 [zas n, boolsD inp, intssD mems] (.d (boolsD (zs2 n.gates inp mems))) := by
 refine zbc (fn := Try.f20) (by kernel_rfl) Try.func20 rfl (Nat.le_of_ble_eq_true rfl) fun c hc hp => ?_
 refine zbf (τ' := frL [(0, .d (zas n)), (1, .d (boolsD inp)), (2, .d (intssD mems))]) (by repeat (first | exact zak _ | refine zah ?_ (by first | rfl | (simp [r_f, zab, zaa, za3, za6]; done) | simp [r_f, zab, zaa, za3, za6, *]))) ?_
 refine zac hp zaj hc rfl fun K1 hK1 => ?_
 simp -dsimp -implicitDefEqProofs (disch := first | assumption | omega | (simp only [r_z, zab, zaa, za3, za6] <;> omega) | decide) only [r_r, ↓reduceIte, Nat.reduceEqDiff, Nat.reduceAdd, D.fix, Int.reduceToNat, Nat.reduceMul, Nat.reduceBNe, Nat.reduceBEq, zas, zax, zae, zaf, zav, zaw, za0, zap, zc1]
 refine hK1 _ _ ?_
 refine zac hp zaj hc rfl fun K2 hK2 => ?_
 simp -dsimp -implicitDefEqProofs (disch := first | assumption | omega | (simp only [r_z, zab, zaa, za3, za6] <;> omega) | decide) only [r_r, ↓reduceIte, Nat.reduceEqDiff, Nat.reduceAdd, D.fix, Int.reduceToNat, Nat.reduceMul, Nat.reduceBNe, Nat.reduceBEq, zas, zax, zae, zaf, zav, zaw, za0, zap, zc1]
 refine hK2 _ _ ?_
 refine zac hp zaj hc rfl fun K3 hK3 => ?_
 simp -dsimp -implicitDefEqProofs (disch := first | assumption | omega | (simp only [r_z, zab, zaa, za3, za6] <;> omega) | decide) only [r_r, ↓reduceIte, Nat.reduceEqDiff, Nat.reduceAdd, D.fix, Int.reduceToNat, Nat.reduceMul, Nat.reduceBNe, Nat.reduceBEq, zas, zax, zae, zaf, zav, zaw, za0, zap, opsC, zc1]
 refine zb4 (zt4) rfl ?_
 simp -dsimp -implicitDefEqProofs (disch := first | assumption | omega | (simp only [r_z, zab, zaa, za3, za6] <;> omega) | decide) only [r_r, ↓reduceIte, Nat.reduceEqDiff, Nat.reduceAdd, D.fix, Int.reduceToNat, Nat.reduceMul, Nat.reduceBNe, Nat.reduceBEq, zas, zax, zae, zaf, zav, zaw, za0, zap, opsC, zc1]
 refine hK3 _ _ ?_
 refine zam fun K4 hK4 => ?_
 refine zac hp zaj hc rfl fun K5 hK5 => ?_
 simp -dsimp -implicitDefEqProofs (disch := first | assumption | omega | (simp only [r_z, zab, zaa, za3, za6] <;> omega) | decide) only [r_r, ↓reduceIte, Nat.reduceEqDiff, Nat.reduceAdd, D.fix, Int.reduceToNat, Nat.reduceMul, Nat.reduceBNe, Nat.reduceBEq, zas, zax, zae, zaf, zav, zaw, za0, zap, zc1]
 refine hK5 _ _ ?_
 refine zaz ?_
 refine za7 hp (fun τ' H' mm => ∃ k, (k ≤ n.gates.length) ∧ mm = n.gates.length - k ∧ H' = [.cells (avs ((zcu mems (false :: true :: inp) (n.gates.take k)).map oD)), .cells (avs opsC)] ∧ τ' = frL [(2, .d (intssD mems)), (7, .os 1 0 0 (2 + inp.length + k)), (8, .op 1 0), (20, .d (zaf n.gates)), (21, .d (iD n.gates.length)), (22, .d (iD k))]) (n.gates.length) ?_ ⟨0, Nat.zero_le _, rfl, rfl, rfl⟩ ?_
 ·refine Rt.trans (Rt.gc (keep := [2,3]) (by decide) (by decide) (by simp [fzH, gcH])) ?_
  refine Rt.end (by repeat (first | exact zak _ | refine zah ?_ (by first | rfl | (simp [r_f, zab, zaa, za3, za6]; done) | simp [r_f, zab, zaa, za3, za6, *]))) ?_
  first | rfl | (simp only [r_g, Nat.reduceAdd, ↓reduceIte, Nat.reduceEqDiff, zas, zax, zae, zaf, zav, zaw, za0, zap]; first | done | rfl)
 rintro τ' H' mm ⟨k, hk, rfl, rfl, rfl⟩
 refine zac hp zaj hc rfl fun K6 hK6 => ?_
 simp -dsimp -implicitDefEqProofs (disch := first | assumption | omega | (simp only [r_z, zab, zaa, za3, za6] <;> omega) | decide) only [r_r, ↓reduceIte, Nat.reduceEqDiff, Nat.reduceAdd, D.fix, Int.reduceToNat, Nat.reduceMul, Nat.reduceBNe, Nat.reduceBEq, zas, zax, zae, zaf, zav, zaw, za0, zap, zc1]
 refine hK6 _ _ ?_
 refine zam fun K7 hK7 => ?_
 refine zaq rfl (fun ht => ?_) (fun ht => ?_)
 ·have hlt : k < n.gates.length := by simp at ht; omega
  refine zay (hK7 _ _ ?_)
  refine zam fun K8 hK8 => ?_
  refine zaz ?_
  have ok := hg k hlt
  obtain ⟨o1, o2, a0, a1, b0, b1, c0, c1, n0, n1⟩ := ok
  have hl : (zcu mems (false :: true :: inp) (n.gates.take k)).length = 2 + inp.length + k := by rw [za3]; simp; omega
  refine zac hp zaj hc rfl fun K9 hK9 => ?_
  simp -dsimp -implicitDefEqProofs (disch := first | assumption | omega | (simp only [r_z, zab, zaa, za3, za6] <;> omega) | decide) only [r_r, ↓reduceIte, Nat.reduceEqDiff, Nat.reduceAdd, D.fix, Int.reduceToNat, Nat.reduceMul, Nat.reduceBNe, Nat.reduceBEq, zas, zax, zae, zaf, zav, zaw, za0, zap, zc1]
  refine hK9 _ _ ?_
  refine zbn zaj hc mixed rfl (q := 0) (by kernel_rfl) (by kernel_rfl) fun K10 hK10 => ?_
  simp -dsimp -implicitDefEqProofs (disch := first | assumption | omega | (simp only [r_z, zab, zaa, za3, za6] <;> omega) | decide) only [r_r, ↓reduceIte, Nat.reduceEqDiff, Nat.reduceAdd, D.fix, Int.reduceToNat, Nat.reduceMul, Nat.reduceBNe, Nat.reduceBEq, zas, zax, zae, zaf, zav, zaw, za0, zap, zc1]
  refine hK10 _ _ ?_
  refine zam fun K11 hK11 => ?_
  refine zac hp zaj hc rfl fun K12 hK12 => ?_
  simp -dsimp -implicitDefEqProofs (disch := first | assumption | omega | (simp only [r_z, zab, zaa, za3, za6] <;> omega) | decide) only [r_r, ↓reduceIte, Nat.reduceEqDiff, Nat.reduceAdd, D.fix, Int.reduceToNat, Nat.reduceMul, Nat.reduceBNe, Nat.reduceBEq, zas, zax, zae, zaf, zav, zaw, za0, zap, zc1]
  refine hK12 _ _ ?_
  refine zaq rfl (fun ht => ?_) (fun ht => ?_)
  ·have h7 : (nth n.gates k).op = 7 := by simpa using ht
   refine zbn zaj hc mixed rfl (q := 3) (by kernel_rfl) (by kernel_rfl) fun K13 hK13 => ?_
   simp -dsimp -implicitDefEqProofs (disch := first | assumption | omega | (simp only [r_z, zab, zaa, za3, za6] <;> omega) | decide) only [r_r, ↓reduceIte, Nat.reduceEqDiff, Nat.reduceAdd, D.fix, Int.reduceToNat, Nat.reduceMul, Nat.reduceBNe, Nat.reduceBEq, zas, zax, zae, zaf, zav, zaw, za0, zap, zc1]
   refine zb4 (jgg _ _ _) rfl ?_
   simp -dsimp -implicitDefEqProofs (disch := first | assumption | omega | (simp only [r_z, zab, zaa, za3, za6] <;> omega) | decide) only [r_r, ↓reduceIte, Nat.reduceEqDiff, Nat.reduceAdd, D.fix, Int.reduceToNat, Nat.reduceMul, Nat.reduceBNe, Nat.reduceBEq, zas, zax, zae, zaf, zav, zaw, za0, zap, zc1]
   refine zb4 (jqx _ _ _ n0 n1 (jqw _ _ _).1) rfl ?_
   simp -dsimp -implicitDefEqProofs (disch := first | assumption | omega | (simp only [r_z, zab, zaa, za3, za6] <;> omega) | decide) only [r_r, ↓reduceIte, Nat.reduceEqDiff, Nat.reduceAdd, D.fix, Int.reduceToNat, Nat.reduceMul, Nat.reduceBNe, Nat.reduceBEq, zas, zax, zae, zaf, zav, zaw, za0, zap, zc1]
   refine hK13 _ _ ?_
   refine zbj (hK8 _ _ ?_)
   refine zbo hp zaj hc rfl fun K14 hK14 => ?_
   simp -dsimp -implicitDefEqProofs (disch := first | assumption | omega | (simp only [r_z, zab, zaa, za3, za6] <;> omega) | decide) only [r_r, ↓reduceIte, Nat.reduceEqDiff, Nat.reduceAdd, D.fix, Int.reduceToNat, Nat.reduceMul, Nat.reduceBNe, Nat.reduceBEq, zas, zax, zae, zaf, zav, zaw, za0, zap, zc1]
   refine hK14 _ _ ⟨_, _, _, ?_, ⟨k + 1, by omega, rfl, rfl, rfl⟩, ?_⟩
   ·first | omega | (simp only [List.length_cons]; omega) | (dsimp only; omega)
   ·refine Rt.trans (Rt.gc (keep := [5,1]) (by decide) (by decide) (by simp [fzH, gcH])) ?_
    refine Rt.end (by repeat (first | exact zak _ | refine zah ?_ (by first | rfl | (simp [r_f, zab, zaa, za3, za6]; done) | simp [r_f, zab, zaa, za3, za6, *]))) ?_
    simp only [r_g, Nat.reduceAdd, ↓reduceIte, Nat.reduceEqDiff, zas, zax, zae, zaf, zav, zaw, za0, zap]; simp [zdb _ _ hlt, opN, h7, oD]
  ·have h7 : ¬ (nth n.gates k).op = 7 := by simpa using ht
   refine zay (hK11 _ _ ?_)
   refine zac hp zaj hc rfl fun K15 hK15 => ?_
   rcases (show (nth n.gates k).op = 1 ∨ (nth n.gates k).op = 2 ∨ (nth n.gates k).op = 3 ∨ (nth n.gates k).op = 4 ∨ (nth n.gates k).op = 5 ∨ (nth n.gates k).op = 6 by omega) with ho | ho | ho | ho | ho | ho
   ·simp -dsimp -implicitDefEqProofs (disch := first | assumption | omega | (simp only [r_z, zab, zaa, za3, za6] <;> omega) | decide) only [r_r, ↓reduceIte, Nat.reduceEqDiff, Nat.reduceAdd, D.fix, Int.reduceToNat, Nat.reduceMul, Nat.reduceBNe, Nat.reduceBEq, zas, zax, zae, zaf, zav, zaw, za0, zap, ho, zc1]
    refine zfk (jqy (nth n.gates k).a (nth n.gates k).b (nth n.gates k).c (nth n.gates k).n) ?_ ?_
    ·simp (disch := first | assumption | omega | (simp only [r_z, zab, zaa, za3, za6] <;> omega) | decide) only [r_c, Nat.reduceAdd, D.fix, ↓reduceIte, Nat.reduceEqDiff, zas, zax, zae, zaf, zav, zaw, za0, zap, zl5, opsC]
    simp -dsimp -implicitDefEqProofs (disch := first | assumption | omega | (simp only [r_z, zab, zaa, za3, za6] <;> omega) | decide) only [r_r, ↓reduceIte, Nat.reduceEqDiff, Nat.reduceAdd, D.fix, Int.reduceToNat, Nat.reduceMul, Nat.reduceBNe, Nat.reduceBEq, zas, zax, zae, zaf, zav, zaw, za0, zap, ho, zc1]
    refine hK15 _ _ ?_
    refine zbo hp zaj hc rfl fun K16 hK16 => ?_
    simp -dsimp -implicitDefEqProofs (disch := first | assumption | omega | (simp only [r_z, zab, zaa, za3, za6] <;> omega) | decide) only [r_r, ↓reduceIte, Nat.reduceEqDiff, Nat.reduceAdd, D.fix, Int.reduceToNat, Nat.reduceMul, Nat.reduceBNe, Nat.reduceBEq, zas, zax, zae, zaf, zav, zaw, za0, zap, ho, opsC, zc1]
    refine zb4 (juv _ _ _) rfl ?_
    simp -dsimp -implicitDefEqProofs (disch := first | assumption | omega | (simp only [r_z, zab, zaa, za3, za6] <;> omega) | decide) only [r_r, ↓reduceIte, Nat.reduceEqDiff, Nat.reduceAdd, D.fix, Int.reduceToNat, Nat.reduceMul, Nat.reduceBNe, Nat.reduceBEq, zas, zax, zae, zaf, zav, zaw, za0, zap, ho, opsC, zc1]
    refine hK16 _ _ (hK8 _ _ ?_)
    refine zbo hp zaj hc rfl fun K17 hK17 => ?_
    simp -dsimp -implicitDefEqProofs (disch := first | assumption | omega | (simp only [r_z, zab, zaa, za3, za6] <;> omega) | decide) only [r_r, ↓reduceIte, Nat.reduceEqDiff, Nat.reduceAdd, D.fix, Int.reduceToNat, Nat.reduceMul, Nat.reduceBNe, Nat.reduceBEq, zas, zax, zae, zaf, zav, zaw, za0, zap, zc1]
    refine hK17 _ _ ⟨_, _, _, ?_, ⟨k + 1, by omega, rfl, rfl, rfl⟩, ?_⟩
    ·first | omega | (simp only [List.length_cons]; omega) | (dsimp only; omega)
    ·refine Rt.trans (Rt.gc (keep := [4,1]) (by decide) (by decide) (by simp [fzH, gcH])) ?_
     refine Rt.end (by repeat (first | exact zak _ | refine zah ?_ (by first | rfl | (simp [r_f, zab, zaa, za3, za6]; done) | simp [r_f, zab, zaa, za3, za6, *]))) ?_
     simp only [r_g, Nat.reduceAdd, ↓reduceIte, Nat.reduceEqDiff, zas, zax, zae, zaf, zav, zaw, za0, zap]; simp [zdb _ _ hlt, opN, ho, oD]; rfl
   ·simp -dsimp -implicitDefEqProofs (disch := first | assumption | omega | (simp only [r_z, zab, zaa, za3, za6] <;> omega) | decide) only [r_r, ↓reduceIte, Nat.reduceEqDiff, Nat.reduceAdd, D.fix, Int.reduceToNat, Nat.reduceMul, Nat.reduceBNe, Nat.reduceBEq, zas, zax, zae, zaf, zav, zaw, za0, zap, ho, zc1]
    refine zfk (jqz (nth n.gates k).a (nth n.gates k).b (nth n.gates k).c (nth n.gates k).n) ?_ ?_
    ·simp (disch := first | assumption | omega | (simp only [r_z, zab, zaa, za3, za6] <;> omega) | decide) only [r_c, Nat.reduceAdd, D.fix, ↓reduceIte, Nat.reduceEqDiff, zas, zax, zae, zaf, zav, zaw, za0, zap, zl5, opsC]
    simp -dsimp -implicitDefEqProofs (disch := first | assumption | omega | (simp only [r_z, zab, zaa, za3, za6] <;> omega) | decide) only [r_r, ↓reduceIte, Nat.reduceEqDiff, Nat.reduceAdd, D.fix, Int.reduceToNat, Nat.reduceMul, Nat.reduceBNe, Nat.reduceBEq, zas, zax, zae, zaf, zav, zaw, za0, zap, ho, zc1]
    refine hK15 _ _ ?_
    refine zbo hp zaj hc rfl fun K18 hK18 => ?_
    simp -dsimp -implicitDefEqProofs (disch := first | assumption | omega | (simp only [r_z, zab, zaa, za3, za6] <;> omega) | decide) only [r_r, ↓reduceIte, Nat.reduceEqDiff, Nat.reduceAdd, D.fix, Int.reduceToNat, Nat.reduceMul, Nat.reduceBNe, Nat.reduceBEq, zas, zax, zae, zaf, zav, zaw, za0, zap, ho, opsC, zc1]
    refine zb4 (juw _ _ _) rfl ?_
    simp -dsimp -implicitDefEqProofs (disch := first | assumption | omega | (simp only [r_z, zab, zaa, za3, za6] <;> omega) | decide) only [r_r, ↓reduceIte, Nat.reduceEqDiff, Nat.reduceAdd, D.fix, Int.reduceToNat, Nat.reduceMul, Nat.reduceBNe, Nat.reduceBEq, zas, zax, zae, zaf, zav, zaw, za0, zap, ho, opsC, zc1]
    refine hK18 _ _ (hK8 _ _ ?_)
    refine zbo hp zaj hc rfl fun K19 hK19 => ?_
    simp -dsimp -implicitDefEqProofs (disch := first | assumption | omega | (simp only [r_z, zab, zaa, za3, za6] <;> omega) | decide) only [r_r, ↓reduceIte, Nat.reduceEqDiff, Nat.reduceAdd, D.fix, Int.reduceToNat, Nat.reduceMul, Nat.reduceBNe, Nat.reduceBEq, zas, zax, zae, zaf, zav, zaw, za0, zap, zc1]
    refine hK19 _ _ ⟨_, _, _, ?_, ⟨k + 1, by omega, rfl, rfl, rfl⟩, ?_⟩
    ·first | omega | (simp only [List.length_cons]; omega) | (dsimp only; omega)
    ·refine Rt.trans (Rt.gc (keep := [4,1]) (by decide) (by decide) (by simp [fzH, gcH])) ?_
     refine Rt.end (by repeat (first | exact zak _ | refine zah ?_ (by first | rfl | (simp [r_f, zab, zaa, za3, za6]; done) | simp [r_f, zab, zaa, za3, za6, *]))) ?_
     simp only [r_g, Nat.reduceAdd, ↓reduceIte, Nat.reduceEqDiff, zas, zax, zae, zaf, zav, zaw, za0, zap]; simp [zdb _ _ hlt, opN, ho, oD]; rfl
   ·simp -dsimp -implicitDefEqProofs (disch := first | assumption | omega | (simp only [r_z, zab, zaa, za3, za6] <;> omega) | decide) only [r_r, ↓reduceIte, Nat.reduceEqDiff, Nat.reduceAdd, D.fix, Int.reduceToNat, Nat.reduceMul, Nat.reduceBNe, Nat.reduceBEq, zas, zax, zae, zaf, zav, zaw, za0, zap, ho, zc1]
    refine zfk (jq0 (nth n.gates k).a (nth n.gates k).b (nth n.gates k).c (nth n.gates k).n) ?_ ?_
    ·simp (disch := first | assumption | omega | (simp only [r_z, zab, zaa, za3, za6] <;> omega) | decide) only [r_c, Nat.reduceAdd, D.fix, ↓reduceIte, Nat.reduceEqDiff, zas, zax, zae, zaf, zav, zaw, za0, zap, zl5, opsC]
    simp -dsimp -implicitDefEqProofs (disch := first | assumption | omega | (simp only [r_z, zab, zaa, za3, za6] <;> omega) | decide) only [r_r, ↓reduceIte, Nat.reduceEqDiff, Nat.reduceAdd, D.fix, Int.reduceToNat, Nat.reduceMul, Nat.reduceBNe, Nat.reduceBEq, zas, zax, zae, zaf, zav, zaw, za0, zap, ho, zc1]
    refine hK15 _ _ ?_
    refine zbo hp zaj hc rfl fun K20 hK20 => ?_
    simp -dsimp -implicitDefEqProofs (disch := first | assumption | omega | (simp only [r_z, zab, zaa, za3, za6] <;> omega) | decide) only [r_r, ↓reduceIte, Nat.reduceEqDiff, Nat.reduceAdd, D.fix, Int.reduceToNat, Nat.reduceMul, Nat.reduceBNe, Nat.reduceBEq, zas, zax, zae, zaf, zav, zaw, za0, zap, ho, opsC, zc1]
    refine zb4 (jux _ _ _) rfl ?_
    simp -dsimp -implicitDefEqProofs (disch := first | assumption | omega | (simp only [r_z, zab, zaa, za3, za6] <;> omega) | decide) only [r_r, ↓reduceIte, Nat.reduceEqDiff, Nat.reduceAdd, D.fix, Int.reduceToNat, Nat.reduceMul, Nat.reduceBNe, Nat.reduceBEq, zas, zax, zae, zaf, zav, zaw, za0, zap, ho, opsC, zc1]
    refine hK20 _ _ (hK8 _ _ ?_)
    refine zbo hp zaj hc rfl fun K21 hK21 => ?_
    simp -dsimp -implicitDefEqProofs (disch := first | assumption | omega | (simp only [r_z, zab, zaa, za3, za6] <;> omega) | decide) only [r_r, ↓reduceIte, Nat.reduceEqDiff, Nat.reduceAdd, D.fix, Int.reduceToNat, Nat.reduceMul, Nat.reduceBNe, Nat.reduceBEq, zas, zax, zae, zaf, zav, zaw, za0, zap, zc1]
    refine hK21 _ _ ⟨_, _, _, ?_, ⟨k + 1, by omega, rfl, rfl, rfl⟩, ?_⟩
    ·first | omega | (simp only [List.length_cons]; omega) | (dsimp only; omega)
    ·refine Rt.trans (Rt.gc (keep := [4,1]) (by decide) (by decide) (by simp [fzH, gcH])) ?_
     refine Rt.end (by repeat (first | exact zak _ | refine zah ?_ (by first | rfl | (simp [r_f, zab, zaa, za3, za6]; done) | simp [r_f, zab, zaa, za3, za6, *]))) ?_
     simp only [r_g, Nat.reduceAdd, ↓reduceIte, Nat.reduceEqDiff, zas, zax, zae, zaf, zav, zaw, za0, zap]; simp [zdb _ _ hlt, opN, ho, oD]; rfl
   ·simp -dsimp -implicitDefEqProofs (disch := first | assumption | omega | (simp only [r_z, zab, zaa, za3, za6] <;> omega) | decide) only [r_r, ↓reduceIte, Nat.reduceEqDiff, Nat.reduceAdd, D.fix, Int.reduceToNat, Nat.reduceMul, Nat.reduceBNe, Nat.reduceBEq, zas, zax, zae, zaf, zav, zaw, za0, zap, ho, zc1]
    refine zfk (jq1 (nth n.gates k).a (nth n.gates k).b (nth n.gates k).c (nth n.gates k).n) ?_ ?_
    ·simp (disch := first | assumption | omega | (simp only [r_z, zab, zaa, za3, za6] <;> omega) | decide) only [r_c, Nat.reduceAdd, D.fix, ↓reduceIte, Nat.reduceEqDiff, zas, zax, zae, zaf, zav, zaw, za0, zap, zl5, opsC]
    simp -dsimp -implicitDefEqProofs (disch := first | assumption | omega | (simp only [r_z, zab, zaa, za3, za6] <;> omega) | decide) only [r_r, ↓reduceIte, Nat.reduceEqDiff, Nat.reduceAdd, D.fix, Int.reduceToNat, Nat.reduceMul, Nat.reduceBNe, Nat.reduceBEq, zas, zax, zae, zaf, zav, zaw, za0, zap, ho, zc1]
    refine hK15 _ _ ?_
    refine zbo hp zaj hc rfl fun K22 hK22 => ?_
    simp -dsimp -implicitDefEqProofs (disch := first | assumption | omega | (simp only [r_z, zab, zaa, za3, za6] <;> omega) | decide) only [r_r, ↓reduceIte, Nat.reduceEqDiff, Nat.reduceAdd, D.fix, Int.reduceToNat, Nat.reduceMul, Nat.reduceBNe, Nat.reduceBEq, zas, zax, zae, zaf, zav, zaw, za0, zap, ho, opsC, zc1]
    refine zb4 (juy _ _ _) rfl ?_
    simp -dsimp -implicitDefEqProofs (disch := first | assumption | omega | (simp only [r_z, zab, zaa, za3, za6] <;> omega) | decide) only [r_r, ↓reduceIte, Nat.reduceEqDiff, Nat.reduceAdd, D.fix, Int.reduceToNat, Nat.reduceMul, Nat.reduceBNe, Nat.reduceBEq, zas, zax, zae, zaf, zav, zaw, za0, zap, ho, opsC, zc1]
    refine hK22 _ _ (hK8 _ _ ?_)
    refine zbo hp zaj hc rfl fun K23 hK23 => ?_
    simp -dsimp -implicitDefEqProofs (disch := first | assumption | omega | (simp only [r_z, zab, zaa, za3, za6] <;> omega) | decide) only [r_r, ↓reduceIte, Nat.reduceEqDiff, Nat.reduceAdd, D.fix, Int.reduceToNat, Nat.reduceMul, Nat.reduceBNe, Nat.reduceBEq, zas, zax, zae, zaf, zav, zaw, za0, zap, zc1]
    refine hK23 _ _ ⟨_, _, _, ?_, ⟨k + 1, by omega, rfl, rfl, rfl⟩, ?_⟩
    ·first | omega | (simp only [List.length_cons]; omega) | (dsimp only; omega)
    ·refine Rt.trans (Rt.gc (keep := [4,1]) (by decide) (by decide) (by simp [fzH, gcH])) ?_
     refine Rt.end (by repeat (first | exact zak _ | refine zah ?_ (by first | rfl | (simp [r_f, zab, zaa, za3, za6]; done) | simp [r_f, zab, zaa, za3, za6, *]))) ?_
     simp only [r_g, Nat.reduceAdd, ↓reduceIte, Nat.reduceEqDiff, zas, zax, zae, zaf, zav, zaw, za0, zap]; simp [zdb _ _ hlt, opN, ho, oD]; rfl
   ·simp -dsimp -implicitDefEqProofs (disch := first | assumption | omega | (simp only [r_z, zab, zaa, za3, za6] <;> omega) | decide) only [r_r, ↓reduceIte, Nat.reduceEqDiff, Nat.reduceAdd, D.fix, Int.reduceToNat, Nat.reduceMul, Nat.reduceBNe, Nat.reduceBEq, zas, zax, zae, zaf, zav, zaw, za0, zap, ho, zc1]
    refine zfk (jq2 (nth n.gates k).a (nth n.gates k).b (nth n.gates k).c (nth n.gates k).n) ?_ ?_
    ·simp (disch := first | assumption | omega | (simp only [r_z, zab, zaa, za3, za6] <;> omega) | decide) only [r_c, Nat.reduceAdd, D.fix, ↓reduceIte, Nat.reduceEqDiff, zas, zax, zae, zaf, zav, zaw, za0, zap, zl5, opsC]
    simp -dsimp -implicitDefEqProofs (disch := first | assumption | omega | (simp only [r_z, zab, zaa, za3, za6] <;> omega) | decide) only [r_r, ↓reduceIte, Nat.reduceEqDiff, Nat.reduceAdd, D.fix, Int.reduceToNat, Nat.reduceMul, Nat.reduceBNe, Nat.reduceBEq, zas, zax, zae, zaf, zav, zaw, za0, zap, ho, zc1]
    refine hK15 _ _ ?_
    refine zbo hp zaj hc rfl fun K24 hK24 => ?_
    simp -dsimp -implicitDefEqProofs (disch := first | assumption | omega | (simp only [r_z, zab, zaa, za3, za6] <;> omega) | decide) only [r_r, ↓reduceIte, Nat.reduceEqDiff, Nat.reduceAdd, D.fix, Int.reduceToNat, Nat.reduceMul, Nat.reduceBNe, Nat.reduceBEq, zas, zax, zae, zaf, zav, zaw, za0, zap, ho, opsC, zc1]
    refine zb4 (juz _ _ _) rfl ?_
    simp -dsimp -implicitDefEqProofs (disch := first | assumption | omega | (simp only [r_z, zab, zaa, za3, za6] <;> omega) | decide) only [r_r, ↓reduceIte, Nat.reduceEqDiff, Nat.reduceAdd, D.fix, Int.reduceToNat, Nat.reduceMul, Nat.reduceBNe, Nat.reduceBEq, zas, zax, zae, zaf, zav, zaw, za0, zap, ho, opsC, zc1]
    refine hK24 _ _ (hK8 _ _ ?_)
    refine zbo hp zaj hc rfl fun K25 hK25 => ?_
    simp -dsimp -implicitDefEqProofs (disch := first | assumption | omega | (simp only [r_z, zab, zaa, za3, za6] <;> omega) | decide) only [r_r, ↓reduceIte, Nat.reduceEqDiff, Nat.reduceAdd, D.fix, Int.reduceToNat, Nat.reduceMul, Nat.reduceBNe, Nat.reduceBEq, zas, zax, zae, zaf, zav, zaw, za0, zap, zc1]
    refine hK25 _ _ ⟨_, _, _, ?_, ⟨k + 1, by omega, rfl, rfl, rfl⟩, ?_⟩
    ·first | omega | (simp only [List.length_cons]; omega) | (dsimp only; omega)
    ·refine Rt.trans (Rt.gc (keep := [4,1]) (by decide) (by decide) (by simp [fzH, gcH])) ?_
     refine Rt.end (by repeat (first | exact zak _ | refine zah ?_ (by first | rfl | (simp [r_f, zab, zaa, za3, za6]; done) | simp [r_f, zab, zaa, za3, za6, *]))) ?_
     simp only [r_g, Nat.reduceAdd, ↓reduceIte, Nat.reduceEqDiff, zas, zax, zae, zaf, zav, zaw, za0, zap]; simp [zdb _ _ hlt, opN, ho, oD]; rfl
   ·simp -dsimp -implicitDefEqProofs (disch := first | assumption | omega | (simp only [r_z, zab, zaa, za3, za6] <;> omega) | decide) only [r_r, ↓reduceIte, Nat.reduceEqDiff, Nat.reduceAdd, D.fix, Int.reduceToNat, Nat.reduceMul, Nat.reduceBNe, Nat.reduceBEq, zas, zax, zae, zaf, zav, zaw, za0, zap, ho, zc1]
    refine zfk (jq3 (nth n.gates k).a (nth n.gates k).b (nth n.gates k).c (nth n.gates k).n) ?_ ?_
    ·simp (disch := first | assumption | omega | (simp only [r_z, zab, zaa, za3, za6] <;> omega) | decide) only [r_c, Nat.reduceAdd, D.fix, ↓reduceIte, Nat.reduceEqDiff, zas, zax, zae, zaf, zav, zaw, za0, zap, zl5, opsC]
    simp -dsimp -implicitDefEqProofs (disch := first | assumption | omega | (simp only [r_z, zab, zaa, za3, za6] <;> omega) | decide) only [r_r, ↓reduceIte, Nat.reduceEqDiff, Nat.reduceAdd, D.fix, Int.reduceToNat, Nat.reduceMul, Nat.reduceBNe, Nat.reduceBEq, zas, zax, zae, zaf, zav, zaw, za0, zap, ho, zc1]
    refine hK15 _ _ ?_
    refine zbo hp zaj hc rfl fun K26 hK26 => ?_
    simp -dsimp -implicitDefEqProofs (disch := first | assumption | omega | (simp only [r_z, zab, zaa, za3, za6] <;> omega) | decide) only [r_r, ↓reduceIte, Nat.reduceEqDiff, Nat.reduceAdd, D.fix, Int.reduceToNat, Nat.reduceMul, Nat.reduceBNe, Nat.reduceBEq, zas, zax, zae, zaf, zav, zaw, za0, zap, ho, opsC, zc1]
    refine zb4 (ju0 _ _ _) rfl ?_
    simp -dsimp -implicitDefEqProofs (disch := first | assumption | omega | (simp only [r_z, zab, zaa, za3, za6] <;> omega) | decide) only [r_r, ↓reduceIte, Nat.reduceEqDiff, Nat.reduceAdd, D.fix, Int.reduceToNat, Nat.reduceMul, Nat.reduceBNe, Nat.reduceBEq, zas, zax, zae, zaf, zav, zaw, za0, zap, ho, opsC, zc1]
    refine hK26 _ _ (hK8 _ _ ?_)
    refine zbo hp zaj hc rfl fun K27 hK27 => ?_
    simp -dsimp -implicitDefEqProofs (disch := first | assumption | omega | (simp only [r_z, zab, zaa, za3, za6] <;> omega) | decide) only [r_r, ↓reduceIte, Nat.reduceEqDiff, Nat.reduceAdd, D.fix, Int.reduceToNat, Nat.reduceMul, Nat.reduceBNe, Nat.reduceBEq, zas, zax, zae, zaf, zav, zaw, za0, zap, zc1]
    refine hK27 _ _ ⟨_, _, _, ?_, ⟨k + 1, by omega, rfl, rfl, rfl⟩, ?_⟩
    ·first | omega | (simp only [List.length_cons]; omega) | (dsimp only; omega)
    ·refine Rt.trans (Rt.gc (keep := [4,1]) (by decide) (by decide) (by simp [fzH, gcH])) ?_
     refine Rt.end (by repeat (first | exact zak _ | refine zah ?_ (by first | rfl | (simp [r_f, zab, zaa, za3, za6]; done) | simp [r_f, zab, zaa, za3, za6, *]))) ?_
     simp only [r_g, Nat.reduceAdd, ↓reduceIte, Nat.reduceEqDiff, zas, zax, zae, zaf, zav, zaw, za0, zap]; simp [zdb _ _ hlt, opN, ho, oD]; rfl
 ·have hge : k = n.gates.length := by simp at ht; omega
  refine zbj (hK4 _ _ ?_)
  refine zac hp zaj hc rfl fun K28 hK28 => ?_
  simp -dsimp -implicitDefEqProofs (disch := first | assumption | omega | (simp only [r_z, zab, zaa, za3, za6] <;> omega) | decide) only [r_r, ↓reduceIte, Nat.reduceEqDiff, Nat.reduceAdd, D.fix, Int.reduceToNat, Nat.reduceMul, Nat.reduceBNe, Nat.reduceBEq, zas, zax, zae, zaf, zav, zaw, za0, zap]
  refine hK28 _ _ ?_
  refine za4 ?_
  show closeA _ _ = _
  simp (disch := first | assumption | omega | (simp only [r_z, zab, zaa, za3, za6] <;> omega) | decide) only [r_c, Nat.reduceAdd, D.fix, ↓reduceIte, Nat.reduceEqDiff, zas, zax, zae, zaf, zav, zaw, za0, zap]
  rw [hge, List.take_length]; simp [zs2, za3]; omega
end Go.Proofs.Ytignimmnnccblaa
