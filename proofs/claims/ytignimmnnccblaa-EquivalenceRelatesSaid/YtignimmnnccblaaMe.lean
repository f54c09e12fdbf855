/- What is built is determined; comparisons; classes. -/
import Derived.Test.YtignimmnnccblaaQr
import Derived.Test.YtignimmnnccblaaMc
set_option linter.unusedVariables false
set_option linter.unusedSimpArgs false
set_option maxRecDepth 100000
set_option maxHeartbeats 4000000
namespace Go.Proofs.Ytignimmnnccblaa
open Go Go.RowKit
theorem zdn : ((((((type_of% @zds) ∧ (type_of% @zdt)) ∧ ((type_of% @zdc) ∧ ((type_of% @zdd) ∧ (type_of% @zfw)))) ∧ (((type_of% @zfx) ∧ ((type_of% @zfy) ∧ (type_of% @zfz))) ∧ ((type_of% @ze4) ∧ ((type_of% @ze5) ∧ (type_of% @ze6))))) ∧ ((((type_of% @ze7) ∧ (type_of% @ze9)) ∧ ((type_of% @zfa) ∧ ((type_of% @zfc) ∧ (type_of% @zjn)))) ∧ (((type_of% @zjo) ∧ ((type_of% @zjp) ∧ (type_of% @zsy))) ∧ ((type_of% @zsx) ∧ ((type_of% @zlz) ∧ (type_of% @zl0)))))) ∧ (((((type_of% @zhq) ∧ (type_of% @zhr)) ∧ ((type_of% @zg6) ∧ ((type_of% @zg5) ∧ (type_of% @zjk)))) ∧ (((type_of% @zjl) ∧ ((type_of% @zjm) ∧ (type_of% @zmn))) ∧ ((type_of% @zmo) ∧ ((type_of% @zre) ∧ (type_of% @zgk))))) ∧ ((((type_of% @zgl) ∧ (type_of% @zdf)) ∧ ((type_of% @zdg) ∧ ((type_of% @zdh) ∧ (type_of% @zdq)))) ∧ (((type_of% @zei) ∧ ((type_of% @zej) ∧ (type_of% @zj1))) ∧ ((type_of% @zj0) ∧ ((type_of% @zi7) ∧ (type_of% @zi8))))))) := ⟨⟨⟨⟨⟨@zds, @zdt⟩, ⟨@zdc, ⟨@zdd, @zfw⟩⟩⟩, ⟨⟨@zfx, ⟨@zfy, @zfz⟩⟩, ⟨@ze4, ⟨@ze5, @ze6⟩⟩⟩⟩, ⟨⟨⟨@ze7, @ze9⟩, ⟨@zfa, ⟨@zfc, @zjn⟩⟩⟩, ⟨⟨@zjo, ⟨@zjp, @zsy⟩⟩, ⟨@zsx, ⟨@zlz, @zl0⟩⟩⟩⟩⟩, ⟨⟨⟨⟨@zhq, @zhr⟩, ⟨@zg6, ⟨@zg5, @zjk⟩⟩⟩, ⟨⟨@zjl, ⟨@zjm, @zmn⟩⟩, ⟨@zmo, ⟨@zre, @zgk⟩⟩⟩⟩, ⟨⟨⟨@zgl, @zdf⟩, ⟨@zdg, ⟨@zdh, @zdq⟩⟩⟩, ⟨⟨@zei, ⟨@zej, @zj1⟩⟩, ⟨@zj0, ⟨@zi7, @zi8⟩⟩⟩⟩⟩⟩
theorem ztg {n : Net} {sh : Sh} {nodes : List Int} {fs : List T} (hF : FsP (zci n.ins.length sh) n.ins.length sh n.gates n.gates.length fs) (hgo : GatesOk (2 + n.ins.length) n.gates) (hi : n.ins.length ≤ 100) (hb : BIn (zci n.ins.length sh) n sh nodes) (hbig : 3000 < (zem fs).length) :
  zbf Try.prog 48 [zas n, shD sh, intsD nodes] (.tup [.d (zby [] []), .d (iD 2)]) :=
 hb.build.det fun r h => by
  rcases h with ⟨j, f1, hj, h1, h2, rfl⟩ | ⟨f1, h1, hq, rfl⟩
  ·rfl
  ·have hc := jdz h1 (Nat.le_refl _) hF hgo
   have hl := hF.len
   rw [List.take_of_length_le (by omega)] at hc
   subst hc
   have := zzd hF hi hq
   omega
theorem zyi {n : Net} {sh : Sh} {nodes : List Int} {fs : List T} (hF : FsP (zci n.ins.length sh) n.ins.length sh n.gates n.gates.length fs) (hgo : GatesOk (2 + n.ins.length) n.gates) (hi : n.ins.length ≤ 100) (hb : BIn (zci n.ins.length sh) n sh nodes) (hbig : ¬ 3000 < (zem fs).length) :
  zbf Try.prog 48 [zas n, shD sh, intsD nodes] (.tup [.d (jsh (zft fs nodes)), .d (iD 0)]) :=
 hb.build.det fun r h => by
  rcases h with ⟨j, f1, hj, h1, h2, rfl⟩ | ⟨f1, h1, hq, rfl⟩
  ·have hc := jdz h1 hj hF hgo
   have hp := (zx3 (fs.take (2 + n.ins.length + j)) (fs.drop (2 + n.ins.length + j))).length_le
   rw [List.take_append_drop, ← hc] at hp
   omega
  ·have hc := jdz h1 (Nat.le_refl _) hF hgo
   have hl := hF.len
   rw [List.take_of_length_le (by omega)] at hc
   subst hc
   rfl
theorem jd5 (n : Net) (sh : Sh) (hsh : ShOk sh) (hi : n.ins.length ≤ 1000) : zbf Try.prog 47 [zas n, shD sh] (.tup [.d (iD (zci n.ins.length sh)), .d (oD true)]) := by
 have hs8 := hsh.len
 refine zbi (fn := Try.f47) (by kernel_rfl) Try.func47 rfl (Nat.le_of_ble_eq_true rfl) fun c hc hp => ?_
 refine zbk (τ' := frL [(0, .d (zas n)), (1, .d (shD sh))]) (by repeat (first | exact zal _ | refine zai ?_ (by first | rfl | (simp [r_f, zaa, zad, hfs1]; done) | simp [r_f, zaa, zad, hfs1, *]))) ?_
 refine zac hp zaj hc rfl fun K1 hK1 => ?_
 simp -dsimp -implicitDefEqProofs (disch := first | assumption | omega | (simp only [r_z, zaa, zad] <;> omega) | decide) only [r_r, ↓reduceIte, Nat.reduceEqDiff, Nat.reduceAdd, D.fix, Int.reduceToNat, Nat.reduceMul, Nat.reduceBNe, Nat.reduceBEq, zas, zaz, zaf, zag, shD, zdn]
 refine hK1 _ _ ?_
 refine zac hp zaj hc rfl fun K2 hK2 => ?_
 simp -dsimp -implicitDefEqProofs (disch := first | assumption | omega | (simp only [r_z, zaa, zad] <;> omega) | decide) only [r_r, ↓reduceIte, Nat.reduceEqDiff, Nat.reduceAdd, D.fix, Int.reduceToNat, Nat.reduceMul, Nat.reduceBNe, Nat.reduceBEq, zas, zaz, zaf, zag, shD, zdn]
 refine hK2 _ _ ?_
 refine zan fun K3 hK3 => ?_
 refine zac hp zaj hc rfl fun K4 hK4 => ?_
 simp -dsimp -implicitDefEqProofs (disch := first | assumption | omega | (simp only [r_z, zaa, zad] <;> omega) | decide) only [r_r, ↓reduceIte, Nat.reduceEqDiff, Nat.reduceAdd, D.fix, Int.reduceToNat, Nat.reduceMul, Nat.reduceBNe, Nat.reduceBEq, zas, zaz, zaf, zag, shD, zdn]
 refine hK4 _ _ ?_
 refine za1 ?_
 refine zbd hp (fun τ' H' mm => ∃ (k : Nat), (k ≤ sh.length) ∧ mm = sh.length - k ∧ H' = [] ∧ τ' = frL [(1, .d (shD sh)), (4, .d (iD 0)), (5, .d (oD false)), (6, .d (iD (zbw n.ins.length sh k))), (12, .d (shD sh)), (13, .d (iD sh.length)), (14, .d (iD k))]) (sh.length) ?_ ⟨0, Nat.zero_le _, rfl, rfl, rfl⟩ ?_
 ·refine Rt.trans (Rt.gc (keep := []) (by decide) (by decide) (by simp [fzH, gcH])) ?_
  refine Rt.end (by repeat (first | exact zal _ | refine zai ?_ (by first | rfl | (simp [r_f, zaa, zad, hfs1]; done) | simp [r_f, zaa, zad, hfs1, *]))) ?_
  first | rfl | (simp only [r_g, Nat.reduceAdd, ↓reduceIte, Nat.reduceEqDiff, zas, zaz, zaf, zag, shD]; first | done | rfl)
 rintro τ' H' mm ⟨k, hk, rfl, rfl, rfl⟩
 refine zac hp zaj hc rfl fun K5 hK5 => ?_
 simp -dsimp -implicitDefEqProofs (disch := first | assumption | omega | (simp only [r_z, zaa, zad] <;> omega) | decide) only [r_r, ↓reduceIte, Nat.reduceEqDiff, Nat.reduceAdd, D.fix, Int.reduceToNat, Nat.reduceMul, Nat.reduceBNe, Nat.reduceBEq, zas, zaz, zaf, zag, shD, zdn]
 refine hK5 _ _ ?_
 refine zan fun K6 hK6 => ?_
 refine zap rfl (fun ht => ?_) (fun ht => ?_)
 ·have hlt : k < sh.length := by simp at ht; omega
  have fb := znp (base := n.ins.length) hsh (k := k) (by omega)
  have hel := hsh.el k hlt
  have hib : ((nth sh k).1 : Int) * ((nth sh k).2 : Int) ≤ 64 := by
   have := Nat.mul_le_mul hel.1 hel.2
   omega
  have hib0 : 0 ≤ ((nth sh k).1 : Int) * ((nth sh k).2 : Int) := by
   have : (((nth sh k).1 * (nth sh k).2 : Nat) : Int) = ((nth sh k).1 : Int) * ((nth sh k).2 : Int) := by simp
   omega
  have hfs1 : (zbw n.ins.length sh (k + 1) : Int) = (zbw n.ins.length sh k : Int) + ((nth sh k).1 : Int) * ((nth sh k).2 : Int) := by rw [zes hlt]; simp
  have q1 : decide (((nth sh k).1 : Int) < 0) = false := decide_eq_false (by omega)
  have q2 : decide ((8 : Int) < (nth sh k).1) = false := by simp; omega
  have q3 : decide (((nth sh k).2 : Int) < 0) = false := decide_eq_false (by omega)
  have q4 : decide ((8 : Int) < (nth sh k).2) = false := by simp; omega
  refine za0 (hK6 _ _ ?_)
  refine zan fun K7 hK7 => ?_
  refine za1 ?_
  refine zac hp zaj hc rfl fun K8 hK8 => ?_
  simp -dsimp -implicitDefEqProofs (disch := first | assumption | omega | (simp only [r_z, zaa, zad] <;> omega) | decide) only [r_r, ↓reduceIte, Nat.reduceEqDiff, Nat.reduceAdd, D.fix, Int.reduceToNat, Nat.reduceMul, Nat.reduceBNe, Nat.reduceBEq, zas, zaz, zaf, zag, shD, jjp, jl5, shC, zdn]
  refine hK8 _ _ ?_
  refine zan fun K9 hK9 => ?_
  refine zac hp zaj hc rfl fun K10 hK10 => ?_
  simp -dsimp -implicitDefEqProofs (disch := first | assumption | omega | (simp only [r_z, zaa, zad] <;> omega) | decide) only [r_r, ↓reduceIte, Nat.reduceEqDiff, Nat.reduceAdd, D.fix, Int.reduceToNat, Nat.reduceMul, Nat.reduceBNe, Nat.reduceBEq, zas, zaz, zaf, zag, shD, q1, q2, q3, q4, zdn]
  refine hK10 _ _ ?_
  refine zap rfl (fun ht => ?_) (fun ht => ?_)
  ·cases ht
  ·refine za0 (hK9 _ _ ?_)
   refine zbt hp zaj hc rfl fun K11 hK11 => ?_
   simp -dsimp -implicitDefEqProofs (disch := first | assumption | omega | (simp only [r_z, zaa, zad] <;> omega) | decide) only [r_r, ↓reduceIte, Nat.reduceEqDiff, Nat.reduceAdd, D.fix, Int.reduceToNat, Nat.reduceMul, Nat.reduceBNe, Nat.reduceBEq, zas, zaz, zaf, zag, shD, zdn]
   refine hK11 _ _ (hK7 _ _ ?_)
   refine zbt hp zaj hc rfl fun K12 hK12 => ?_
   simp -dsimp -implicitDefEqProofs (disch := first | assumption | omega | (simp only [r_z, zaa, zad] <;> omega) | decide) only [r_r, ↓reduceIte, Nat.reduceEqDiff, Nat.reduceAdd, D.fix, Int.reduceToNat, Nat.reduceMul, Nat.reduceBNe, Nat.reduceBEq, zas, zaz, zaf, zag, shD, zdn]
   refine hK12 _ _ ⟨_, _, _, ?_, ⟨k + 1, by omega, rfl, rfl, rfl⟩, ?_⟩
   ·first | omega | (simp only [List.length_cons]; omega) | (dsimp only; omega)
   ·refine Rt.trans (Rt.gc (keep := []) (by decide) (by decide) (by simp [fzH, gcH])) ?_
    refine Rt.end (by repeat (first | exact zal _ | refine zai ?_ (by first | rfl | (simp [r_f, zaa, zad, hfs1]; done) | simp [r_f, zaa, zad, hfs1, *]))) ?_
    first | rfl | (simp only [r_g, Nat.reduceAdd, ↓reduceIte, Nat.reduceEqDiff, zas, zaz, zaf, zag, shD]; first | done | rfl)
 ·have hke : k = sh.length := by simp at ht; omega
  have q5 : decide ((sh.length : Int) ≤ 8) = true := by simp; omega
  refine zbl (hK3 _ _ ?_)
  refine zac hp zaj hc rfl fun K13 hK13 => ?_
  simp -dsimp -implicitDefEqProofs (disch := first | assumption | omega | (simp only [r_z, zaa, zad] <;> omega) | decide) only [r_r, ↓reduceIte, Nat.reduceEqDiff, Nat.reduceAdd, D.fix, Int.reduceToNat, Nat.reduceMul, Nat.reduceBNe, Nat.reduceBEq, zas, zaz, zaf, zag, shD, q5, zdn]
  refine hK13 _ _ ?_
  refine za6 ?_
  show closeA _ _ = _
  simp (disch := first | assumption | omega | (simp only [r_z, zaa, zad] <;> omega) | decide) only [r_c, Nat.reduceAdd, D.fix, ↓reduceIte, Nat.reduceEqDiff, zas, zaz, zaf, zag, shD]
  subst hke
  simp [zci]
theorem jlq (a b m : Net) (sh : Sh) (V : Nat) (h1 : zbf Try.prog 39 [zas a, zas b] (.tup [.d (zas m), .d (iD 0)])) (hsh : ShOk sh) (hi : m.ins.length ≤ 1000) (hV : zci m.ins.length sh = V) (hV60 : V ≤ 60) (h2 : zbf Try.prog 48 [zas m, shD sh, intsD m.drive] (.tup [.d (zby [] []), .d (iD 2)])) : zbf Try.prog 31 [zas a, zas b, shD sh] (.tup [.d (oD false), .d (boolsD []), .d (iD 2)]) := by
 have h3 := jd5 m sh hsh hi
 rw [hV] at h3
 have q1 : decide ((60 : Int) < V) = false := by simp; omega
 refine zbi (fn := Try.f31) (by kernel_rfl) Try.func31 rfl (Nat.le_of_ble_eq_true rfl) fun c hc hp => ?_
 refine zbk (τ' := frL [(0, .d (zas a)), (1, .d (zas b)), (2, .d (shD sh))]) (by repeat (first | exact zal _ | refine zai ?_ (by first | rfl | (simp [r_f, zaa, zad]; done) | simp [r_f, zaa, zad, *]))) ?_
 refine zac hp zaj hc rfl fun K1 hK1 => ?_
 simp -dsimp -implicitDefEqProofs (disch := first | assumption | omega | (simp only [r_z, zaa, zad] <;> omega) | decide) only [r_r, ↓reduceIte, Nat.reduceEqDiff, Nat.reduceAdd, D.fix, Int.reduceToNat, Nat.reduceMul, Nat.reduceBNe, Nat.reduceBEq, zas, zaz, zaf, zag, shD, zby, zb2, zdn]
 refine hK1 _ _ ?_
 refine zac hp zaj hc rfl fun K2 hK2 => ?_
 simp -dsimp -implicitDefEqProofs (disch := first | assumption | omega | (simp only [r_z, zaa, zad] <;> omega) | decide) only [r_r, ↓reduceIte, Nat.reduceEqDiff, Nat.reduceAdd, D.fix, Int.reduceToNat, Nat.reduceMul, Nat.reduceBNe, Nat.reduceBEq, zas, zaz, zaf, zag, shD, zby, zb2, zdn]
 refine zb8 (h1) rfl ?_
 simp -dsimp -implicitDefEqProofs (disch := first | assumption | omega | (simp only [r_z, zaa, zad] <;> omega) | decide) only [r_r, ↓reduceIte, Nat.reduceEqDiff, Nat.reduceAdd, D.fix, Int.reduceToNat, Nat.reduceMul, Nat.reduceBNe, Nat.reduceBEq, zas, zaz, zaf, zag, shD, zby, zb2, zdn]
 refine hK2 _ _ ?_
 refine zan fun K3 hK3 => ?_
 refine zac hp zaj hc rfl fun K4 hK4 => ?_
 simp -dsimp -implicitDefEqProofs (disch := first | assumption | omega | (simp only [r_z, zaa, zad] <;> omega) | decide) only [r_r, ↓reduceIte, Nat.reduceEqDiff, Nat.reduceAdd, D.fix, Int.reduceToNat, Nat.reduceMul, Nat.reduceBNe, Nat.reduceBEq, zas, zaz, zaf, zag, shD, zby, zb2, zdn]
 refine hK4 _ _ ?_
 refine zap rfl (fun ht => ?_) (fun ht => ?_)
 ·cases ht
 ·refine za0 (hK3 _ _ ?_)
  refine zac hp zaj hc rfl fun K5 hK5 => ?_
  simp -dsimp -implicitDefEqProofs (disch := first | assumption | omega | (simp only [r_z, zaa, zad] <;> omega) | decide) only [r_r, ↓reduceIte, Nat.reduceEqDiff, Nat.reduceAdd, D.fix, Int.reduceToNat, Nat.reduceMul, Nat.reduceBNe, Nat.reduceBEq, zas, zaz, zaf, zag, shD, zby, zb2, zdn]
  refine zb8 (h3) rfl ?_
  simp -dsimp -implicitDefEqProofs (disch := first | assumption | omega | (simp only [r_z, zaa, zad] <;> omega) | decide) only [r_r, ↓reduceIte, Nat.reduceEqDiff, Nat.reduceAdd, D.fix, Int.reduceToNat, Nat.reduceMul, Nat.reduceBNe, Nat.reduceBEq, zas, zaz, zaf, zag, shD, zby, zb2, zdn]
  refine hK5 _ _ ?_
  refine zan fun K6 hK6 => ?_
  refine za1 ?_
  refine zac hp zaj hc rfl fun K7 hK7 => ?_
  simp -dsimp -implicitDefEqProofs (disch := first | assumption | omega | (simp only [r_z, zaa, zad] <;> omega) | decide) only [r_r, ↓reduceIte, Nat.reduceEqDiff, Nat.reduceAdd, D.fix, Int.reduceToNat, Nat.reduceMul, Nat.reduceBNe, Nat.reduceBEq, zas, zaz, zaf, zag, shD, zby, zb2, zdn]
  refine hK7 _ _ ?_
  refine zap rfl (fun ht => ?_) (fun ht => ?_)
  ·cases ht
  ·refine zac hp zaj hc rfl fun K8 hK8 => ?_
   simp -dsimp -implicitDefEqProofs (disch := first | assumption | omega | (simp only [r_z, zaa, zad] <;> omega) | decide) only [r_r, ↓reduceIte, Nat.reduceEqDiff, Nat.reduceAdd, D.fix, Int.reduceToNat, Nat.reduceMul, Nat.reduceBNe, Nat.reduceBEq, zas, zaz, zaf, zag, shD, zby, zb2, q1, zdn]
   refine hK8 _ _ ?_
   refine zap rfl (fun ht => ?_) (fun ht => ?_)
   ·cases ht
   ·refine za0 (hK6 _ _ ?_)
    refine zac hp zaj hc rfl fun K9 hK9 => ?_
    simp -dsimp -implicitDefEqProofs (disch := first | assumption | omega | (simp only [r_z, zaa, zad] <;> omega) | decide) only [r_r, ↓reduceIte, Nat.reduceEqDiff, Nat.reduceAdd, D.fix, Int.reduceToNat, Nat.reduceMul, Nat.reduceBNe, Nat.reduceBEq, zas, zaz, zaf, zag, shD, zby, zb2, zdn]
    refine zb8 (h2) rfl ?_
    simp -dsimp -implicitDefEqProofs (disch := first | assumption | omega | (simp only [r_z, zaa, zad] <;> omega) | decide) only [r_r, ↓reduceIte, Nat.reduceEqDiff, Nat.reduceAdd, D.fix, Int.reduceToNat, Nat.reduceMul, Nat.reduceBNe, Nat.reduceBEq, zas, zaz, zaf, zag, shD, zby, zb2, zdn]
    refine hK9 _ _ ?_
    refine zan fun K10 hK10 => ?_
    refine zac hp zaj hc rfl fun K11 hK11 => ?_
    simp -dsimp -implicitDefEqProofs (disch := first | assumption | omega | (simp only [r_z, zaa, zad] <;> omega) | decide) only [r_r, ↓reduceIte, Nat.reduceEqDiff, Nat.reduceAdd, D.fix, Int.reduceToNat, Nat.reduceMul, Nat.reduceBNe, Nat.reduceBEq, zas, zaz, zaf, zag, shD, zby, zb2, zdn]
    refine hK11 _ _ ?_
    refine zap rfl (fun ht => ?_) (fun ht => ?_)
    ·refine zac hp zaj hc rfl fun K12 hK12 => ?_
     simp -dsimp -implicitDefEqProofs (disch := first | assumption | omega | (simp only [r_z, zaa, zad] <;> omega) | decide) only [r_r, ↓reduceIte, Nat.reduceEqDiff, Nat.reduceAdd, D.fix, Int.reduceToNat, Nat.reduceMul, Nat.reduceBNe, Nat.reduceBEq, zas, zaz, zaf, zag, shD, zby, zb2]
     refine hK12 _ _ ?_
     refine za6 ?_
     show closeA _ _ = _
     simp (disch := first | assumption | omega | (simp only [r_z, zaa, zad] <;> omega) | decide) only [r_c, Nat.reduceAdd, D.fix, ↓reduceIte, Nat.reduceEqDiff, zas, zaz, zaf, zag, shD, zby, zb2]
    ·cases ht
theorem jjz (a b m : Net) (sh : Sh) (V : Nat) (h1 : zbf Try.prog 39 [zas a, zas b] (.tup [.d (zas m), .d (iD 0)])) (hsh : ShOk sh) (hi : m.ins.length ≤ 1000) (hV : zci m.ins.length sh = V) (hV60 : V ≤ 60) (ns : List Nd) (r : Nat) (hnl : ns.length ≤ 1000000) (h2 : zbf Try.prog 48 [zas m, shD sh, intsD m.drive] (.tup [.d (zby ns [r]), .d (iD 0)])) (L : List Bool) (E : Int) (h4 : zbf Try.prog 49 [zby ns [r], iD r, iD V] (.tup [.d (boolsD L), .d (iD E)])) (hE : E = 4 ∧ L = [] ∨ E = 0) : zbf Try.prog 31 [zas a, zas b, shD sh] (.tup [.d (oD (E == 4)), .d (boolsD L), .d (iD 0)]) := by
 have h3 := jd5 m sh hsh hi
 rw [hV] at h3
 have q1 : decide ((60 : Int) < V) = false := by simp; omega
 refine zbi (fn := Try.f31) (by kernel_rfl) Try.func31 rfl (Nat.le_of_ble_eq_true rfl) fun c hc hp => ?_
 refine zbk (τ' := frL [(0, .d (zas a)), (1, .d (zas b)), (2, .d (shD sh))]) (by repeat (first | exact zal _ | refine zai ?_ (by first | rfl | (simp [r_f, zaa, zad, zae]; done) | simp [r_f, zaa, zad, zae, *]))) ?_
 refine zac hp zaj hc rfl fun K1 hK1 => ?_
 simp -dsimp -implicitDefEqProofs (disch := first | assumption | omega | (simp only [r_z, zaa, zad, zae] <;> omega) | decide) only [r_r, ↓reduceIte, Nat.reduceEqDiff, Nat.reduceAdd, D.fix, Int.reduceToNat, Nat.reduceMul, Nat.reduceBNe, Nat.reduceBEq, zas, zaz, zaf, zag, shD, zby, zb2, zdn]
 refine hK1 _ _ ?_
 refine zac hp zaj hc rfl fun K2 hK2 => ?_
 simp -dsimp -implicitDefEqProofs (disch := first | assumption | omega | (simp only [r_z, zaa, zad, zae] <;> omega) | decide) only [r_r, ↓reduceIte, Nat.reduceEqDiff, Nat.reduceAdd, D.fix, Int.reduceToNat, Nat.reduceMul, Nat.reduceBNe, Nat.reduceBEq, zas, zaz, zaf, zag, shD, zby, zb2, zdn]
 refine zb8 (h1) rfl ?_
 simp -dsimp -implicitDefEqProofs (disch := first | assumption | omega | (simp only [r_z, zaa, zad, zae] <;> omega) | decide) only [r_r, ↓reduceIte, Nat.reduceEqDiff, Nat.reduceAdd, D.fix, Int.reduceToNat, Nat.reduceMul, Nat.reduceBNe, Nat.reduceBEq, zas, zaz, zaf, zag, shD, zby, zb2, zdn]
 refine hK2 _ _ ?_
 refine zan fun K3 hK3 => ?_
 refine zac hp zaj hc rfl fun K4 hK4 => ?_
 simp -dsimp -implicitDefEqProofs (disch := first | assumption | omega | (simp only [r_z, zaa, zad, zae] <;> omega) | decide) only [r_r, ↓reduceIte, Nat.reduceEqDiff, Nat.reduceAdd, D.fix, Int.reduceToNat, Nat.reduceMul, Nat.reduceBNe, Nat.reduceBEq, zas, zaz, zaf, zag, shD, zby, zb2, zdn]
 refine hK4 _ _ ?_
 refine zap rfl (fun ht => ?_) (fun ht => ?_)
 ·cases ht
 ·refine za0 (hK3 _ _ ?_)
  refine zac hp zaj hc rfl fun K5 hK5 => ?_
  simp -dsimp -implicitDefEqProofs (disch := first | assumption | omega | (simp only [r_z, zaa, zad, zae] <;> omega) | decide) only [r_r, ↓reduceIte, Nat.reduceEqDiff, Nat.reduceAdd, D.fix, Int.reduceToNat, Nat.reduceMul, Nat.reduceBNe, Nat.reduceBEq, zas, zaz, zaf, zag, shD, zby, zb2, zdn]
  refine zb8 (h3) rfl ?_
  simp -dsimp -implicitDefEqProofs (disch := first | assumption | omega | (simp only [r_z, zaa, zad, zae] <;> omega) | decide) only [r_r, ↓reduceIte, Nat.reduceEqDiff, Nat.reduceAdd, D.fix, Int.reduceToNat, Nat.reduceMul, Nat.reduceBNe, Nat.reduceBEq, zas, zaz, zaf, zag, shD, zby, zb2, zdn]
  refine hK5 _ _ ?_
  refine zan fun K6 hK6 => ?_
  refine za1 ?_
  refine zac hp zaj hc rfl fun K7 hK7 => ?_
  simp -dsimp -implicitDefEqProofs (disch := first | assumption | omega | (simp only [r_z, zaa, zad, zae] <;> omega) | decide) only [r_r, ↓reduceIte, Nat.reduceEqDiff, Nat.reduceAdd, D.fix, Int.reduceToNat, Nat.reduceMul, Nat.reduceBNe, Nat.reduceBEq, zas, zaz, zaf, zag, shD, zby, zb2, zdn]
  refine hK7 _ _ ?_
  refine zap rfl (fun ht => ?_) (fun ht => ?_)
  ·cases ht
  ·refine zac hp zaj hc rfl fun K8 hK8 => ?_
   simp -dsimp -implicitDefEqProofs (disch := first | assumption | omega | (simp only [r_z, zaa, zad, zae] <;> omega) | decide) only [r_r, ↓reduceIte, Nat.reduceEqDiff, Nat.reduceAdd, D.fix, Int.reduceToNat, Nat.reduceMul, Nat.reduceBNe, Nat.reduceBEq, zas, zaz, zaf, zag, shD, zby, zb2, q1, zdn]
   refine hK8 _ _ ?_
   refine zap rfl (fun ht => ?_) (fun ht => ?_)
   ·cases ht
   ·refine za0 (hK6 _ _ ?_)
    refine zac hp zaj hc rfl fun K9 hK9 => ?_
    simp -dsimp -implicitDefEqProofs (disch := first | assumption | omega | (simp only [r_z, zaa, zad, zae] <;> omega) | decide) only [r_r, ↓reduceIte, Nat.reduceEqDiff, Nat.reduceAdd, D.fix, Int.reduceToNat, Nat.reduceMul, Nat.reduceBNe, Nat.reduceBEq, zas, zaz, zaf, zag, shD, zby, zb2, zdn]
    refine zb8 (h2) rfl ?_
    simp -dsimp -implicitDefEqProofs (disch := first | assumption | omega | (simp only [r_z, zaa, zad, zae] <;> omega) | decide) only [r_r, ↓reduceIte, Nat.reduceEqDiff, Nat.reduceAdd, D.fix, Int.reduceToNat, Nat.reduceMul, Nat.reduceBNe, Nat.reduceBEq, zas, zaz, zaf, zag, shD, zby, zb2, zdn]
    refine hK9 _ _ ?_
    refine zan fun K10 hK10 => ?_
    refine zac hp zaj hc rfl fun K11 hK11 => ?_
    simp -dsimp -implicitDefEqProofs (disch := first | assumption | omega | (simp only [r_z, zaa, zad, zae] <;> omega) | decide) only [r_r, ↓reduceIte, Nat.reduceEqDiff, Nat.reduceAdd, D.fix, Int.reduceToNat, Nat.reduceMul, Nat.reduceBNe, Nat.reduceBEq, zas, zaz, zaf, zag, shD, zby, zb2, zdn]
    refine hK11 _ _ ?_
    refine zap rfl (fun ht => ?_) (fun ht => ?_)
    ·cases ht
    ·refine za0 (hK10 _ _ ?_)
     refine zbr zaj hc mixed rfl (q := 0) (by kernel_rfl) (by kernel_rfl) fun K12 hK12 => ?_
     simp -dsimp -implicitDefEqProofs (disch := first | assumption | omega | (simp only [r_z, zaa, zad, zae] <;> omega) | decide) only [r_r, ↓reduceIte, Nat.reduceEqDiff, Nat.reduceAdd, D.fix, Int.reduceToNat, Nat.reduceMul, Nat.reduceBNe, Nat.reduceBEq, zas, zaz, zaf, zag, shD, zby, zb2, zb1, zdn]
     refine zb8 (h4) rfl ?_
     simp -dsimp -implicitDefEqProofs (disch := first | assumption | omega | (simp only [r_z, zaa, zad, zae] <;> omega) | decide) only [r_r, ↓reduceIte, Nat.reduceEqDiff, Nat.reduceAdd, D.fix, Int.reduceToNat, Nat.reduceMul, Nat.reduceBNe, Nat.reduceBEq, zas, zaz, zaf, zag, shD, zby, zb2, zb1, zdn]
     refine hK12 _ _ ?_
     refine zan fun K13 hK13 => ?_
     refine zac hp zaj hc rfl fun K14 hK14 => ?_
     rcases hE with ⟨rfl, rfl⟩ | rfl
     ·skip
      simp -dsimp -implicitDefEqProofs (disch := first | assumption | omega | (simp only [r_z, zaa, zad, zae] <;> omega) | decide) only [r_r, ↓reduceIte, Nat.reduceEqDiff, Nat.reduceAdd, D.fix, Int.reduceToNat, Nat.reduceMul, Nat.reduceBNe, Nat.reduceBEq, zas, zaz, zaf, zag, shD, zby, zb2, zdn]
      refine hK14 _ _ ?_
      refine zap rfl (fun ht => ?_) (fun ht => ?_)
      ·refine zac hp zaj hc rfl fun K15 hK15 => ?_
       simp -dsimp -implicitDefEqProofs (disch := first | assumption | omega | (simp only [r_z, zaa, zad, zae] <;> omega) | decide) only [r_r, ↓reduceIte, Nat.reduceEqDiff, Nat.reduceAdd, D.fix, Int.reduceToNat, Nat.reduceMul, Nat.reduceBNe, Nat.reduceBEq, zas, zaz, zaf, zag, shD, zby, zb2]
       refine hK15 _ _ ?_
       refine za6 ?_
       show closeA _ _ = _
       simp (disch := first | assumption | omega | (simp only [r_z, zaa, zad, zae] <;> omega) | decide) only [r_c, Nat.reduceAdd, D.fix, ↓reduceIte, Nat.reduceEqDiff, zas, zaz, zaf, zag, shD, zby, zb2]
       rfl
      ·cases ht
     ·skip
      simp -dsimp -implicitDefEqProofs (disch := first | assumption | omega | (simp only [r_z, zaa, zad, zae] <;> omega) | decide) only [r_r, ↓reduceIte, Nat.reduceEqDiff, Nat.reduceAdd, D.fix, Int.reduceToNat, Nat.reduceMul, Nat.reduceBNe, Nat.reduceBEq, zas, zaz, zaf, zag, shD, zby, zb2, zdn]
      refine hK14 _ _ ?_
      refine zap rfl (fun ht => ?_) (fun ht => ?_)
      ·cases ht
      ·refine za0 (hK13 _ _ ?_)
       refine zac hp zaj hc rfl fun K16 hK16 => ?_
       simp -dsimp -implicitDefEqProofs (disch := first | assumption | omega | (simp only [r_z, zaa, zad, zae] <;> omega) | decide) only [r_r, ↓reduceIte, Nat.reduceEqDiff, Nat.reduceAdd, D.fix, Int.reduceToNat, Nat.reduceMul, Nat.reduceBNe, Nat.reduceBEq, zas, zaz, zaf, zag, shD, zby, zb2]
       refine hK16 _ _ ?_
       refine za6 ?_
       show closeA _ _ = _
       simp (disch := first | assumption | omega | (simp only [r_z, zaa, zad, zae] <;> omega) | decide) only [r_c, Nat.reduceAdd, D.fix, ↓reduceIte, Nat.reduceEqDiff, zas, zaz, zaf, zag, shD, zby, zb2]
       rfl
end Go.Proofs.Ytignimmnnccblaa

/- The law's small functions. -/
set_option linter.unusedVariables false
set_option linter.unusedSimpArgs false
set_option maxRecDepth 100000
set_option maxHeartbeats 4000000
namespace Go.Proofs.Ytignimmnnccblaa
open Go Go.RowKit
theorem zha : (((((((type_of% @zds) ∧ (type_of% @zdt)) ∧ ((type_of% @znz) ∧ (type_of% @zn0))) ∧ (((type_of% @zsv) ∧ (type_of% @zsu)) ∧ ((type_of% @ze4) ∧ (type_of% @ze5)))) ∧ ((((type_of% @ze6) ∧ (type_of% @ze7)) ∧ ((type_of% @zlz) ∧ (type_of% @zl0))) ∧ (((type_of% @zhq) ∧ (type_of% @zhr)) ∧ ((type_of% @jen) ∧ ((type_of% @jeo) ∧ (type_of% @zsw)))))) ∧ (((((type_of% @zif) ∧ (type_of% @zig)) ∧ ((type_of% @zih) ∧ (type_of% @zqi))) ∧ (((type_of% @zqj) ∧ (type_of% @zmn)) ∧ ((type_of% @zmo) ∧ (type_of% @zre)))) ∧ ((((type_of% @zle) ∧ (type_of% @zlf)) ∧ ((type_of% @zjk) ∧ (type_of% @zjl))) ∧ (((type_of% @zjm) ∧ (type_of% @jcr)) ∧ ((type_of% @jcs) ∧ ((type_of% @zkr) ∧ (type_of% @zks))))))) ∧ ((((((type_of% @zkt) ∧ (type_of% @zku)) ∧ ((type_of% @zn1) ∧ (type_of% @zn2))) ∧ (((type_of% @zn3) ∧ (type_of% @zn4)) ∧ ((type_of% @zgk) ∧ (type_of% @zgl)))) ∧ ((((type_of% @zdf) ∧ (type_of% @zdg)) ∧ ((type_of% @zdh) ∧ (type_of% @zdq))) ∧ (((type_of% @ze9) ∧ (type_of% @zfa)) ∧ ((type_of% @zfc) ∧ ((type_of% @jfy) ∧ (type_of% @jfz)))))) ∧ (((((type_of% @jf0) ∧ (type_of% @jf1)) ∧ ((type_of% @jcv) ∧ (type_of% @jcw))) ∧ (((type_of% @jf6) ∧ (type_of% @jf5)) ∧ ((type_of% @zg6) ∧ ((type_of% @zg5) ∧ (type_of% @jo7))))) ∧ ((((type_of% @jcz) ∧ (type_of% @jc2)) ∧ ((type_of% @zt9) ∧ (type_of% @zua))) ∧ (((type_of% @zy3) ∧ (type_of% @zy2)) ∧ ((type_of% @jo6) ∧ ((type_of% @jct) ∧ (type_of% @jcu)))))))) := ⟨⟨⟨⟨⟨⟨@zds, @zdt⟩, ⟨@znz, @zn0⟩⟩, ⟨⟨@zsv, @zsu⟩, ⟨@ze4, @ze5⟩⟩⟩, ⟨⟨⟨@ze6, @ze7⟩, ⟨@zlz, @zl0⟩⟩, ⟨⟨@zhq, @zhr⟩, ⟨@jen, ⟨@jeo, @zsw⟩⟩⟩⟩⟩, ⟨⟨⟨⟨@zif, @zig⟩, ⟨@zih, @zqi⟩⟩, ⟨⟨@zqj, @zmn⟩, ⟨@zmo, @zre⟩⟩⟩, ⟨⟨⟨@zle, @zlf⟩, ⟨@zjk, @zjl⟩⟩, ⟨⟨@zjm, @jcr⟩, ⟨@jcs, ⟨@zkr, @zks⟩⟩⟩⟩⟩⟩, ⟨⟨⟨⟨⟨@zkt, @zku⟩, ⟨@zn1, @zn2⟩⟩, ⟨⟨@zn3, @zn4⟩, ⟨@zgk, @zgl⟩⟩⟩, ⟨⟨⟨@zdf, @zdg⟩, ⟨@zdh, @zdq⟩⟩, ⟨⟨@ze9, @zfa⟩, ⟨@zfc, ⟨@jfy, @jfz⟩⟩⟩⟩⟩, ⟨⟨⟨⟨@jf0, @jf1⟩, ⟨@jcv, @jcw⟩⟩, ⟨⟨@jf6, @jf5⟩, ⟨@zg6, ⟨@zg5, @jo7⟩⟩⟩⟩, ⟨⟨⟨@jcz, @jc2⟩, ⟨@zt9, @zua⟩⟩, ⟨⟨@zy3, @zy2⟩, ⟨@jo6, ⟨@jct, @jcu⟩⟩⟩⟩⟩⟩⟩
def zca (is : Bool) (L : List Bool) (E : Int) : D := .agg [oD is, boolsD L, iD E]
theorem zct (a b : Net) (sh : Sh) (is : Bool) (L : List Bool) (E : Int) (h : zbf Try.prog 31 [zas a, zas b, shD sh] (.tup [.d (oD is), .d (boolsD L), .d (iD E)])) : zbf Try.prog 11 [zas a, zas b, shD sh] (.d (zca is L E)) := by
 refine zbi (fn := Try.f11) (by kernel_rfl) Try.func11 rfl (Nat.le_of_ble_eq_true rfl) fun c hc hp => ?_
 refine zbk (τ' := frL [(0, .d (zas a)), (1, .d (zas b)), (2, .d (shD sh))]) (by repeat (first | exact zal _ | refine zai ?_ (by first | rfl | (simp [r_f, zaa, zad, zab]; done) | simp [r_f, zaa, zad, zab, *]))) ?_
 refine zac hp zaj hc rfl fun K1 hK1 => ?_
 simp -dsimp -implicitDefEqProofs (disch := first | assumption | omega | (simp only [r_z, zaa, zad, zab] <;> omega) | decide) only [r_r, ↓reduceIte, Nat.reduceEqDiff, Nat.reduceAdd, D.fix, Int.reduceToNat, Nat.reduceMul, Nat.reduceBNe, Nat.reduceBEq, zas, zaz, zaf, zag, shD, zca, zha]
 refine hK1 _ _ ?_
 refine zac hp zaj hc rfl fun K2 hK2 => ?_
 simp -dsimp -implicitDefEqProofs (disch := first | assumption | omega | (simp only [r_z, zaa, zad, zab] <;> omega) | decide) only [r_r, ↓reduceIte, Nat.reduceEqDiff, Nat.reduceAdd, D.fix, Int.reduceToNat, Nat.reduceMul, Nat.reduceBNe, Nat.reduceBEq, zas, zaz, zaf, zag, shD, zca, zha]
 refine zb8 (h) rfl ?_
 simp -dsimp -implicitDefEqProofs (disch := first | assumption | omega | (simp only [r_z, zaa, zad, zab] <;> omega) | decide) only [r_r, ↓reduceIte, Nat.reduceEqDiff, Nat.reduceAdd, D.fix, Int.reduceToNat, Nat.reduceMul, Nat.reduceBNe, Nat.reduceBEq, zas, zaz, zaf, zag, shD, zca, zha]
 refine hK2 _ _ ?_
 refine zac hp zaj hc rfl fun K3 hK3 => ?_
 simp -dsimp -implicitDefEqProofs (disch := first | assumption | omega | (simp only [r_z, zaa, zad, zab] <;> omega) | decide) only [r_r, ↓reduceIte, Nat.reduceEqDiff, Nat.reduceAdd, D.fix, Int.reduceToNat, Nat.reduceMul, Nat.reduceBNe, Nat.reduceBEq, zas, zaz, zaf, zag, shD, zca, zha]
 refine hK3 _ _ ?_
 refine za6 ?_
 try dsimp only [zji, zc2]
 refine zdo rfl ?_
 simp -dsimp -implicitDefEqProofs (disch := first | assumption | omega | (simp only [r_z, zaa, zad, zab] <;> omega) | decide) only [r_r, ↓reduceIte, Nat.reduceEqDiff, Nat.reduceAdd, D.fix, Int.reduceToNat, Nat.reduceMul, Nat.reduceBNe, Nat.reduceBEq, zas, zaz, zaf, zag, shD, zca, znz, zn0]
 show closeA _ _ = _
 simp (disch := first | assumption | omega | (simp only [r_z, zaa, zad, zab] <;> omega) | decide) only [r_c, Nat.reduceAdd, D.fix, ↓reduceIte, Nat.reduceEqDiff, zas, zaz, zaf, zag, shD, zca]
theorem jd6 (i1 i2 : Bool) (l1 l2 : List Bool) (e1 e2 : Int) (h1 : l1.length ≤ maxLen) : zbf Try.prog 12 [zca i1 l1 e1, zca i2 l2 e2] (.d (oD ((i1 == i2) && ((e1 == e2) && decide (l1 = l2))))) := by
 refine zbi (fn := Try.f12) (by kernel_rfl) Try.func12 rfl (Nat.le_of_ble_eq_true rfl) fun c hc hp => ?_
 refine zbk (τ' := frL [(0, .d (zca i1 l1 e1)), (1, .d (zca i2 l2 e2))]) (by repeat (first | exact zal _ | refine zai ?_ (by first | rfl | (simp [r_f]; done) | simp [r_f, *]))) ?_
 refine zac hp zaj hc rfl fun K1 hK1 => ?_
 simp -dsimp -implicitDefEqProofs (disch := first | assumption | omega | (simp only [r_z] <;> omega) | decide) only [r_r, ↓reduceIte, Nat.reduceEqDiff, Nat.reduceAdd, D.fix, Int.reduceToNat, Nat.reduceMul, Nat.reduceBNe, Nat.reduceBEq, zca, zha]
 refine hK1 _ _ ?_
 refine zac hp zaj hc rfl fun K2 hK2 => ?_
 rcases (show (i1 == i2) = false ∨ ((i1 == i2) = true ∧ (e1 == e2) = false) ∨ ((i1 == i2) = true ∧ (e1 == e2) = true) by cases (i1 == i2) <;> cases (e1 == e2) <;> simp) with q | ⟨q, q'⟩ | ⟨q, q'⟩
 ·have q' := q
  simp -dsimp -implicitDefEqProofs (disch := first | assumption | omega | (simp only [r_z] <;> omega) | decide) only [r_r, ↓reduceIte, Nat.reduceEqDiff, Nat.reduceAdd, D.fix, Int.reduceToNat, Nat.reduceMul, Nat.reduceBNe, Nat.reduceBEq, zca, q, q', zha]
  refine hK2 _ _ ?_
  refine za6 ?_
  show closeA _ _ = _
  simp (disch := first | assumption | omega | (simp only [r_z] <;> omega) | decide) only [r_c, Nat.reduceAdd, D.fix, ↓reduceIte, Nat.reduceEqDiff, zca]
  rw [q]; rfl
 ·skip
  simp -dsimp -implicitDefEqProofs (disch := first | assumption | omega | (simp only [r_z] <;> omega) | decide) only [r_r, ↓reduceIte, Nat.reduceEqDiff, Nat.reduceAdd, D.fix, Int.reduceToNat, Nat.reduceMul, Nat.reduceBNe, Nat.reduceBEq, zca, q, q', zha]
  refine hK2 _ _ ?_
  refine za6 ?_
  show closeA _ _ = _
  simp (disch := first | assumption | omega | (simp only [r_z] <;> omega) | decide) only [r_c, Nat.reduceAdd, D.fix, ↓reduceIte, Nat.reduceEqDiff, zca]
  rw [q, q']; rfl
 ·skip
  simp -dsimp -implicitDefEqProofs (disch := first | assumption | omega | (simp only [r_z] <;> omega) | decide) only [r_r, ↓reduceIte, Nat.reduceEqDiff, Nat.reduceAdd, D.fix, Int.reduceToNat, Nat.reduceMul, Nat.reduceBNe, Nat.reduceBEq, zca, q, q', zha]
  refine zb8 (jlb l1 l2 h1) rfl ?_
  simp -dsimp -implicitDefEqProofs (disch := first | assumption | omega | (simp only [r_z] <;> omega) | decide) only [r_r, ↓reduceIte, Nat.reduceEqDiff, Nat.reduceAdd, D.fix, Int.reduceToNat, Nat.reduceMul, Nat.reduceBNe, Nat.reduceBEq, zca, q, q', zha]
  refine hK2 _ _ ?_
  refine za6 ?_
  show closeA _ _ = _
  simp (disch := first | assumption | omega | (simp only [r_z] <;> omega) | decide) only [r_c, Nat.reduceAdd, D.fix, ↓reduceIte, Nat.reduceEqDiff, zca]
  rw [q, q']; simp
def jd7 (n : Net) (sh : Sh) (l : List Bool) : List Bool := zze (zta n.gates (zl9 n.ins.length l) (zg8 n.ins.length sh l)) n.drive
def zc5 (l : List (List Bool)) : D := .fs (l.map boolsD) l.length
def jl8 (l : List (List Bool)) (a b : Nat) : Bool := l.all fun r => nth r a == nth r b
theorem jg1 (l : List (List Bool)) (a b m : Nat) (hm : ∀ r ∈ l, r.length = m) (ha : a < m) (hb : b < m) (hm9 : m ≤ 100000) (hl : l.length ≤ maxLen) : zbf Try.prog 23 [zc5 l, iD a, iD b] (.d (oD (jl8 l a b))) := by
 unfold maxLen at hl
 refine zbi (fn := Try.f23) (by kernel_rfl) Try.func23 rfl (Nat.le_of_ble_eq_true rfl) fun c hc hp => ?_
 refine zbk (τ' := frL [(0, .d (zc5 l)), (1, .d (iD a)), (2, .d (iD b))]) (by repeat (first | exact zal _ | refine zai ?_ (by first | rfl | (simp [r_f]; done) | simp [r_f, *]))) ?_
 refine zac hp zaj hc rfl fun K1 hK1 => ?_
 simp -dsimp -implicitDefEqProofs (disch := first | assumption | omega | (simp only [r_z] <;> omega) | decide) only [r_r, ↓reduceIte, Nat.reduceEqDiff, Nat.reduceAdd, D.fix, Int.reduceToNat, Nat.reduceMul, Nat.reduceBNe, Nat.reduceBEq, zc5]
 refine hK1 _ _ ?_
 refine zan fun K2 hK2 => ?_
 refine zac hp zaj hc rfl fun K3 hK3 => ?_
 simp -dsimp -implicitDefEqProofs (disch := first | assumption | omega | (simp only [r_z] <;> omega) | decide) only [r_r, ↓reduceIte, Nat.reduceEqDiff, Nat.reduceAdd, D.fix, Int.reduceToNat, Nat.reduceMul, Nat.reduceBNe, Nat.reduceBEq, zc5]
 refine hK3 _ _ ?_
 refine za1 ?_
 refine zbd hp (fun τ' H' mm => ∃ (k : Nat), (k ≤ l.length ∧ ∀ j, j < k → nth (nth l j) a = nth (nth l j) b) ∧ mm = l.length - k ∧ H' = [] ∧ τ' = frL [(0, .d (zc5 l)), (1, .d (iD a)), (2, .d (iD b)), (7, .d (iD k))]) (l.length) ?_ ⟨0, ⟨Nat.zero_le _, fun j hj => by omega⟩, rfl, rfl, rfl⟩ ?_
 ·refine Rt.end (by repeat (first | exact zal _ | refine zai ?_ (by first | rfl | (simp [r_f]; done) | simp [r_f, *]))) ?_
  first | rfl | (simp only [r_g, Nat.reduceAdd, ↓reduceIte, Nat.reduceEqDiff, zc5]; first | done | rfl)
 rintro τ' H' mm ⟨k, ⟨hk, hall⟩, rfl, rfl, rfl⟩
 refine zan fun K4 hK4 => ?_
 refine zac hp zaj hc rfl fun K5 hK5 => ?_
 simp -dsimp -implicitDefEqProofs (disch := first | assumption | omega | (simp only [r_z] <;> omega) | decide) only [r_r, ↓reduceIte, Nat.reduceEqDiff, Nat.reduceAdd, D.fix, Int.reduceToNat, Nat.reduceMul, Nat.reduceBNe, Nat.reduceBEq, zc5, zha]
 refine hK5 _ _ ?_
 refine zap rfl (fun ht => ?_) (fun ht => ?_)
 ·have hlt : k < l.length := by simp at ht; omega
  have hrl := hm _ (zb6 hlt)
  refine za0 (hK4 _ _ ?_)
  refine zan fun K6 hK6 => ?_
  refine za1 ?_
  refine zbr zaj hc mixed rfl (q := 0) (by kernel_rfl) (by kernel_rfl) fun K7 hK7 => ?_
  simp -dsimp -implicitDefEqProofs (disch := first | assumption | omega | (simp only [r_z] <;> omega) | decide) only [r_r, ↓reduceIte, Nat.reduceEqDiff, Nat.reduceAdd, D.fix, Int.reduceToNat, Nat.reduceMul, Nat.reduceBNe, Nat.reduceBEq, zc5, zc4, zha]
  refine hK7 _ _ ?_
  refine zap rfl (fun ht => ?_) (fun ht => ?_)
  ·have hne : ¬ nth (nth l k) a = nth (nth l k) b := by simpa using ht
   refine zac hp zaj hc rfl fun K8 hK8 => ?_
   simp -dsimp -implicitDefEqProofs (disch := first | assumption | omega | (simp only [r_z] <;> omega) | decide) only [r_r, ↓reduceIte, Nat.reduceEqDiff, Nat.reduceAdd, D.fix, Int.reduceToNat, Nat.reduceMul, Nat.reduceBNe, Nat.reduceBEq, zc5]
   refine hK8 _ _ ?_
   refine za6 ?_
   show closeA _ _ = _
   simp (disch := first | assumption | omega | (simp only [r_z] <;> omega) | decide) only [r_c, Nat.reduceAdd, D.fix, ↓reduceIte, Nat.reduceEqDiff, zc5]
   unfold jl8
   rw [show (l.all fun r => nth r a == nth r b) = false from ?_]
   rw [List.all_eq_false]
   exact ⟨_, zb6 hlt, by simpa using hne⟩
  ·have heq : nth (nth l k) a = nth (nth l k) b := by simpa using ht
   refine za0 (hK6 _ _ ?_)
   refine zbt hp zaj hc rfl fun K9 hK9 => ?_
   simp -dsimp -implicitDefEqProofs (disch := first | assumption | omega | (simp only [r_z] <;> omega) | decide) only [r_r, ↓reduceIte, Nat.reduceEqDiff, Nat.reduceAdd, D.fix, Int.reduceToNat, Nat.reduceMul, Nat.reduceBNe, Nat.reduceBEq, zc5, zha]
   refine hK9 _ _ ⟨_, _, _, ?_, ⟨k + 1, ⟨by omega, fun j hj => by by_cases e : j = k; rw [e]; exact heq; exact hall j (by omega)⟩, rfl, rfl, rfl⟩, ?_⟩
   ·first | omega | (simp only [List.length_cons]; omega) | (dsimp only; omega)
   ·refine Rt.end (by repeat (first | exact zal _ | refine zai ?_ (by first | rfl | (simp [r_f]; done) | simp [r_f, *]))) ?_
    first | rfl | (simp only [r_g, Nat.reduceAdd, ↓reduceIte, Nat.reduceEqDiff, zc5]; first | done | rfl)
 ·have hke : k = l.length := by simp at ht; omega
  refine zbl (hK2 _ _ ?_)
  refine zac hp zaj hc rfl fun K10 hK10 => ?_
  simp -dsimp -implicitDefEqProofs (disch := first | assumption | omega | (simp only [r_z] <;> omega) | decide) only [r_r, ↓reduceIte, Nat.reduceEqDiff, Nat.reduceAdd, D.fix, Int.reduceToNat, Nat.reduceMul, Nat.reduceBNe, Nat.reduceBEq, zc5]
  refine hK10 _ _ ?_
  refine za6 ?_
  show closeA _ _ = _
  simp (disch := first | assumption | omega | (simp only [r_z] <;> omega) | decide) only [r_c, Nat.reduceAdd, D.fix, ↓reduceIte, Nat.reduceEqDiff, zc5]
  unfold jl8
  rw [show (l.all fun r => nth r a == nth r b) = true from ?_]
  rw [List.all_eq_true]
  intro r hr
  obtain ⟨j, hj, rfl⟩ := List.getElem_of_mem hr
  have := hall j (by omega)
  rw [zb9 hj] at this
  simpa using this
theorem jlr (a b m : Net) (h : zbf Try.prog 39 [zas a, zas b] (.tup [.d (zas m), .d (iD 0)])) : zbf Try.prog 24 [zas a, zas b] (.d (.agg (zaz m ++ [iD 0]))) := by
 refine zbi (fn := Try.f24) (by kernel_rfl) Try.func24 rfl (Nat.le_of_ble_eq_true rfl) fun c hc hp => ?_
 refine zbk (τ' := frL [(0, .d (zas a)), (1, .d (zas b))]) (by repeat (first | exact zal _ | refine zai ?_ (by first | rfl | (simp [r_f, zaa, zab]; done) | simp [r_f, zaa, zab, *]))) ?_
 refine zac hp zaj hc rfl fun K1 hK1 => ?_
 simp -dsimp -implicitDefEqProofs (disch := first | assumption | omega | (simp only [r_z, zaa, zab] <;> omega) | decide) only [r_r, ↓reduceIte, Nat.reduceEqDiff, Nat.reduceAdd, D.fix, Int.reduceToNat, Nat.reduceMul, Nat.reduceBNe, Nat.reduceBEq, zas, zaz, zaf, zag, List.cons_append, List.nil_append, zha]
 refine hK1 _ _ ?_
 refine zac hp zaj hc rfl fun K2 hK2 => ?_
 simp -dsimp -implicitDefEqProofs (disch := first | assumption | omega | (simp only [r_z, zaa, zab] <;> omega) | decide) only [r_r, ↓reduceIte, Nat.reduceEqDiff, Nat.reduceAdd, D.fix, Int.reduceToNat, Nat.reduceMul, Nat.reduceBNe, Nat.reduceBEq, zas, zaz, zaf, zag, List.cons_append, List.nil_append, zha]
 refine zb8 (h) rfl ?_
 simp -dsimp -implicitDefEqProofs (disch := first | assumption | omega | (simp only [r_z, zaa, zab] <;> omega) | decide) only [r_r, ↓reduceIte, Nat.reduceEqDiff, Nat.reduceAdd, D.fix, Int.reduceToNat, Nat.reduceMul, Nat.reduceBNe, Nat.reduceBEq, zas, zaz, zaf, zag, List.cons_append, List.nil_append, zha]
 refine hK2 _ _ ?_
 refine zac hp zaj hc rfl fun K3 hK3 => ?_
 simp -dsimp -implicitDefEqProofs (disch := first | assumption | omega | (simp only [r_z, zaa, zab] <;> omega) | decide) only [r_r, ↓reduceIte, Nat.reduceEqDiff, Nat.reduceAdd, D.fix, Int.reduceToNat, Nat.reduceMul, Nat.reduceBNe, Nat.reduceBEq, zas, zaz, zaf, zag, List.cons_append, List.nil_append, zha]
 refine hK3 _ _ ?_
 refine za6 ?_
 try dsimp only [zji, zc2]
 refine zdo rfl ?_
 simp -dsimp -implicitDefEqProofs (disch := first | assumption | omega | (simp only [r_z, zaa, zab] <;> omega) | decide) only [r_r, ↓reduceIte, Nat.reduceEqDiff, Nat.reduceAdd, D.fix, Int.reduceToNat, Nat.reduceMul, Nat.reduceBNe, Nat.reduceBEq, zas, zaz, zaf, zag, List.cons_append, List.nil_append, jcv, jcw]
 show closeA _ _ = _
 simp (disch := first | assumption | omega | (simp only [r_z, zaa, zab] <;> omega) | decide) only [r_c, Nat.reduceAdd, D.fix, ↓reduceIte, Nat.reduceEqDiff, zas, zaz, zaf, zag, List.cons_append, List.nil_append]
def clD (L : List Int) (E : Int) : D := .agg [intsD L, iD E]
theorem zth (n : Net) (sh : Sh) (L : List Int) (E : Int) (h : zbf Try.prog 32 [zas n, shD sh] (.tup [.d (intsD L), .d (iD E)])) : zbf Try.prog 17 [zas n, shD sh] (.d (clD L E)) := by
 refine zbi (fn := Try.f17) (by kernel_rfl) Try.func17 rfl (Nat.le_of_ble_eq_true rfl) fun c hc hp => ?_
 refine zbk (τ' := frL [(0, .d (zas n)), (1, .d (shD sh))]) (by repeat (first | exact zal _ | refine zai ?_ (by first | rfl | (simp [r_f, zaa, zad, zab]; done) | simp [r_f, zaa, zad, zab, *]))) ?_
 refine zac hp zaj hc rfl fun K1 hK1 => ?_
 simp -dsimp -implicitDefEqProofs (disch := first | assumption | omega | (simp only [r_z, zaa, zad, zab] <;> omega) | decide) only [r_r, ↓reduceIte, Nat.reduceEqDiff, Nat.reduceAdd, D.fix, Int.reduceToNat, Nat.reduceMul, Nat.reduceBNe, Nat.reduceBEq, zas, zaz, zaf, zag, shD, clD, zha]
 refine hK1 _ _ ?_
 refine zac hp zaj hc rfl fun K2 hK2 => ?_
 simp -dsimp -implicitDefEqProofs (disch := first | assumption | omega | (simp only [r_z, zaa, zad, zab] <;> omega) | decide) only [r_r, ↓reduceIte, Nat.reduceEqDiff, Nat.reduceAdd, D.fix, Int.reduceToNat, Nat.reduceMul, Nat.reduceBNe, Nat.reduceBEq, zas, zaz, zaf, zag, shD, clD, zha]
 refine zb8 (h) rfl ?_
 simp -dsimp -implicitDefEqProofs (disch := first | assumption | omega | (simp only [r_z, zaa, zad, zab] <;> omega) | decide) only [r_r, ↓reduceIte, Nat.reduceEqDiff, Nat.reduceAdd, D.fix, Int.reduceToNat, Nat.reduceMul, Nat.reduceBNe, Nat.reduceBEq, zas, zaz, zaf, zag, shD, clD, zha]
 refine hK2 _ _ ?_
 refine zac hp zaj hc rfl fun K3 hK3 => ?_
 simp -dsimp -implicitDefEqProofs (disch := first | assumption | omega | (simp only [r_z, zaa, zad, zab] <;> omega) | decide) only [r_r, ↓reduceIte, Nat.reduceEqDiff, Nat.reduceAdd, D.fix, Int.reduceToNat, Nat.reduceMul, Nat.reduceBNe, Nat.reduceBEq, zas, zaz, zaf, zag, shD, clD, zha]
 refine hK3 _ _ ?_
 refine za6 ?_
 try dsimp only [zji, zc2]
 refine zdo rfl ?_
 simp -dsimp -implicitDefEqProofs (disch := first | assumption | omega | (simp only [r_z, zaa, zad, zab] <;> omega) | decide) only [r_r, ↓reduceIte, Nat.reduceEqDiff, Nat.reduceAdd, D.fix, Int.reduceToNat, Nat.reduceMul, Nat.reduceBNe, Nat.reduceBEq, zas, zaz, zaf, zag, shD, clD, zt9, zua]
 show closeA _ _ = _
 simp (disch := first | assumption | omega | (simp only [r_z, zaa, zad, zab] <;> omega) | decide) only [r_c, Nat.reduceAdd, D.fix, ↓reduceIte, Nat.reduceEqDiff, zas, zaz, zaf, zag, shD, clD]
end Go.Proofs.Ytignimmnnccblaa
