/- What is built is determined; comparisons; classes. -/
import Derived.Test.YtignimmnnccblaaQr
import Derived.Test.YtignimmnnccblaaMc
set_option linter.unusedVariables false
set_option linter.unusedSimpArgs false
set_option maxRecDepth 100000
set_option maxHeartbeats 4000000
namespace Go.Proofs.Ytignimmnnccblaa
open Go Go.RowKit
theorem zdn : ((((((type_of% @zds) ∧ (type_of% @zdt)) ∧ ((type_of% @zcr) ∧ ((type_of% @zcs) ∧ (type_of% @ze4)))) ∧ (((type_of% @ze5) ∧ ((type_of% @ze6) ∧ (type_of% @ze7))) ∧ ((type_of% @zfu) ∧ ((type_of% @zfv) ∧ (type_of% @zfw))))) ∧ ((((type_of% @zfx) ∧ (type_of% @zex)) ∧ ((type_of% @zey) ∧ ((type_of% @zfa) ∧ (type_of% @zkr)))) ∧ (((type_of% @zks) ∧ ((type_of% @zkt) ∧ (type_of% @zy5))) ∧ ((type_of% @zy4) ∧ ((type_of% @zlz) ∧ (type_of% @zl0)))))) ∧ (((((type_of% @zhq) ∧ (type_of% @zhr)) ∧ ((type_of% @zh0) ∧ ((type_of% @zhz) ∧ (type_of% @zko)))) ∧ (((type_of% @zkp) ∧ ((type_of% @zkq) ∧ (type_of% @zmk))) ∧ ((type_of% @zml) ∧ ((type_of% @zq4) ∧ (type_of% @zfc))))) ∧ ((((type_of% @zfd) ∧ (type_of% @zde)) ∧ ((type_of% @zdf) ∧ ((type_of% @zdg) ∧ (type_of% @zdq)))) ∧ (((type_of% @zeg) ∧ ((type_of% @zeh) ∧ (type_of% @zju))) ∧ ((type_of% @zjt) ∧ ((type_of% @zi8) ∧ (type_of% @zi9))))))) := ⟨⟨⟨⟨⟨@zds, @zdt⟩, ⟨@zcr, ⟨@zcs, @ze4⟩⟩⟩, ⟨⟨@ze5, ⟨@ze6, @ze7⟩⟩, ⟨@zfu, ⟨@zfv, @zfw⟩⟩⟩⟩, ⟨⟨⟨@zfx, @zex⟩, ⟨@zey, ⟨@zfa, @zkr⟩⟩⟩, ⟨⟨@zks, ⟨@zkt, @zy5⟩⟩, ⟨@zy4, ⟨@zlz, @zl0⟩⟩⟩⟩⟩, ⟨⟨⟨⟨@zhq, @zhr⟩, ⟨@zh0, ⟨@zhz, @zko⟩⟩⟩, ⟨⟨@zkp, ⟨@zkq, @zmk⟩⟩, ⟨@zml, ⟨@zq4, @zfc⟩⟩⟩⟩, ⟨⟨⟨@zfd, @zde⟩, ⟨@zdf, ⟨@zdg, @zdq⟩⟩⟩, ⟨⟨@zeg, ⟨@zeh, @zju⟩⟩, ⟨@zjt, ⟨@zi8, @zi9⟩⟩⟩⟩⟩⟩
theorem zta {n : Net} {sh : Sh} {nodes : List Int} {fs : List T} (hF : FsP (zdm n.ins.length sh) n.ins.length sh n.gates n.gates.length fs) (hgo : GatesOk (2 + n.ins.length) n.gates) (hi : n.ins.length ≤ 100) (hb : BIn (zdm n.ins.length sh) n sh nodes) (hbig : 3000 < (zeq fs).length) :
  za9 Try.prog 48 [zas n, shD sh, intsD nodes] (.tup [.d (zbt [] []), .d (iD 2)]) :=
 hb.build.det fun r h => by
  rcases h with ⟨j, f1, hj, h1, h2, rfl⟩ | ⟨f1, h1, hq, rfl⟩
  ·rfl
  ·have hc := jek h1 (Nat.le_refl _) hF hgo
   have hl := hF.len
   rw [List.take_of_length_le (by omega)] at hc
   subst hc
   have := zzg hF hi hq
   omega
theorem zyd {n : Net} {sh : Sh} {nodes : List Int} {fs : List T} (hF : FsP (zdm n.ins.length sh) n.ins.length sh n.gates n.gates.length fs) (hgo : GatesOk (2 + n.ins.length) n.gates) (hi : n.ins.length ≤ 100) (hb : BIn (zdm n.ins.length sh) n sh nodes) (hbig : ¬ 3000 < (zeq fs).length) :
  za9 Try.prog 48 [zas n, shD sh, intsD nodes] (.tup [.d (js8 (zf6 fs nodes)), .d (iD 0)]) :=
 hb.build.det fun r h => by
  rcases h with ⟨j, f1, hj, h1, h2, rfl⟩ | ⟨f1, h1, hq, rfl⟩
  ·have hc := jek h1 hj hF hgo
   have hp := (zx0 (fs.take (2 + n.ins.length + j)) (fs.drop (2 + n.ins.length + j))).length_le
   rw [List.take_append_drop, ← hc] at hp
   omega
  ·have hc := jek h1 (Nat.le_refl _) hF hgo
   have hl := hF.len
   rw [List.take_of_length_le (by omega)] at hc
   subst hc
   rfl
theorem jeo (n : Net) (sh : Sh) (hsh : ShOk sh) (hi : n.ins.length ≤ 1000) : za9 Try.prog 47 [zas n, shD sh] (.tup [.d (iD (zdm n.ins.length sh)), .d (oD true)]) := by
 have hs8 := hsh.len
 refine zbc (fn := Try.f47) (by kernel_rfl) Try.func47 rfl (Nat.le_of_ble_eq_true rfl) fun c hc hp => ?_
 refine zbf (τ' := frL [(0, .d (zas n)), (1, .d (shD sh))]) (by repeat (first | exact zak _ | refine zah ?_ (by first | rfl | (simp [r_f, zaa, zag, hfs1]; done) | simp [r_f, zaa, zag, hfs1, *]))) ?_
 refine zac hp zaj hc rfl fun K1 hK1 => ?_
 simp -dsimp -implicitDefEqProofs (disch := first | assumption | omega | (simp only [r_z, zaa, zag] <;> omega) | decide) only [r_r, ↓reduceIte, Nat.reduceEqDiff, Nat.reduceAdd, D.fix, Int.reduceToNat, Nat.reduceMul, Nat.reduceBNe, Nat.reduceBEq, zas, zax, zae, zaf, shD, zdn]
 refine hK1 _ _ ?_
 refine zac hp zaj hc rfl fun K2 hK2 => ?_
 simp -dsimp -implicitDefEqProofs (disch := first | assumption | omega | (simp only [r_z, zaa, zag] <;> omega) | decide) only [r_r, ↓reduceIte, Nat.reduceEqDiff, Nat.reduceAdd, D.fix, Int.reduceToNat, Nat.reduceMul, Nat.reduceBNe, Nat.reduceBEq, zas, zax, zae, zaf, shD, zdn]
 refine hK2 _ _ ?_
 refine zam fun K3 hK3 => ?_
 refine zac hp zaj hc rfl fun K4 hK4 => ?_
 simp -dsimp -implicitDefEqProofs (disch := first | assumption | omega | (simp only [r_z, zaa, zag] <;> omega) | decide) only [r_r, ↓reduceIte, Nat.reduceEqDiff, Nat.reduceAdd, D.fix, Int.reduceToNat, Nat.reduceMul, Nat.reduceBNe, Nat.reduceBEq, zas, zax, zae, zaf, shD, zdn]
 refine hK4 _ _ ?_
 refine zaz ?_
 refine za7 hp (fun τ' H' mm => ∃ (k : Nat), (k ≤ sh.length) ∧ mm = sh.length - k ∧ H' = [] ∧ τ' = frL [(1, .d (shD sh)), (4, .d (iD 0)), (5, .d (oD false)), (6, .d (iD (zbz n.ins.length sh k))), (12, .d (shD sh)), (13, .d (iD sh.length)), (14, .d (iD k))]) (sh.length) ?_ ⟨0, Nat.zero_le _, rfl, rfl, rfl⟩ ?_
 ·refine Rt.trans (Rt.gc (keep := []) (by decide) (by decide) (by simp [fzH, gcH])) ?_
  refine Rt.end (by repeat (first | exact zak _ | refine zah ?_ (by first | rfl | (simp [r_f, zaa, zag, hfs1]; done) | simp [r_f, zaa, zag, hfs1, *]))) ?_
  first | rfl | (simp only [r_g, Nat.reduceAdd, ↓reduceIte, Nat.reduceEqDiff, zas, zax, zae, zaf, shD]; first | done | rfl)
 rintro τ' H' mm ⟨k, hk, rfl, rfl, rfl⟩
 refine zac hp zaj hc rfl fun K5 hK5 => ?_
 simp -dsimp -implicitDefEqProofs (disch := first | assumption | omega | (simp only [r_z, zaa, zag] <;> omega) | decide) only [r_r, ↓reduceIte, Nat.reduceEqDiff, Nat.reduceAdd, D.fix, Int.reduceToNat, Nat.reduceMul, Nat.reduceBNe, Nat.reduceBEq, zas, zax, zae, zaf, shD, zdn]
 refine hK5 _ _ ?_
 refine zam fun K6 hK6 => ?_
 refine zaq rfl (fun ht => ?_) (fun ht => ?_)
 ·have hlt : k < sh.length := by simp at ht; omega
  have fb := zqs (base := n.ins.length) hsh (k := k) (by omega)
  have hel := hsh.el k hlt
  have hib : ((nth sh k).1 : Int) * ((nth sh k).2 : Int) ≤ 64 := by
   have := Nat.mul_le_mul hel.1 hel.2
   omega
  have hib0 : 0 ≤ ((nth sh k).1 : Int) * ((nth sh k).2 : Int) := by
   have : (((nth sh k).1 * (nth sh k).2 : Nat) : Int) = ((nth sh k).1 : Int) * ((nth sh k).2 : Int) := by simp
   omega
  have hfs1 : (zbz n.ins.length sh (k + 1) : Int) = (zbz n.ins.length sh k : Int) + ((nth sh k).1 : Int) * ((nth sh k).2 : Int) := by rw [zf0 hlt]; simp
  have q1 : decide (((nth sh k).1 : Int) < 0) = false := decide_eq_false (by omega)
  have q2 : decide ((8 : Int) < (nth sh k).1) = false := by simp; omega
  have q3 : decide (((nth sh k).2 : Int) < 0) = false := decide_eq_false (by omega)
  have q4 : decide ((8 : Int) < (nth sh k).2) = false := by simp; omega
  refine zay (hK6 _ _ ?_)
  refine zam fun K7 hK7 => ?_
  refine zaz ?_
  refine zac hp zaj hc rfl fun K8 hK8 => ?_
  simp -dsimp -implicitDefEqProofs (disch := first | assumption | omega | (simp only [r_z, zaa, zag] <;> omega) | decide) only [r_r, ↓reduceIte, Nat.reduceEqDiff, Nat.reduceAdd, D.fix, Int.reduceToNat, Nat.reduceMul, Nat.reduceBNe, Nat.reduceBEq, zas, zax, zae, zaf, shD, jjs, jmr, shC, zdn]
  refine hK8 _ _ ?_
  refine zam fun K9 hK9 => ?_
  refine zac hp zaj hc rfl fun K10 hK10 => ?_
  simp -dsimp -implicitDefEqProofs (disch := first | assumption | omega | (simp only [r_z, zaa, zag] <;> omega) | decide) only [r_r, ↓reduceIte, Nat.reduceEqDiff, Nat.reduceAdd, D.fix, Int.reduceToNat, Nat.reduceMul, Nat.reduceBNe, Nat.reduceBEq, zas, zax, zae, zaf, shD, q1, q2, q3, q4, zdn]
  refine hK10 _ _ ?_
  refine zaq rfl (fun ht => ?_) (fun ht => ?_)
  ·cases ht
  ·refine zay (hK9 _ _ ?_)
   refine zbo hp zaj hc rfl fun K11 hK11 => ?_
   simp -dsimp -implicitDefEqProofs (disch := first | assumption | omega | (simp only [r_z, zaa, zag] <;> omega) | decide) only [r_r, ↓reduceIte, Nat.reduceEqDiff, Nat.reduceAdd, D.fix, Int.reduceToNat, Nat.reduceMul, Nat.reduceBNe, Nat.reduceBEq, zas, zax, zae, zaf, shD, zdn]
   refine hK11 _ _ (hK7 _ _ ?_)
   refine zbo hp zaj hc rfl fun K12 hK12 => ?_
   simp -dsimp -implicitDefEqProofs (disch := first | assumption | omega | (simp only [r_z, zaa, zag] <;> omega) | decide) only [r_r, ↓reduceIte, Nat.reduceEqDiff, Nat.reduceAdd, D.fix, Int.reduceToNat, Nat.reduceMul, Nat.reduceBNe, Nat.reduceBEq, zas, zax, zae, zaf, shD, zdn]
   refine hK12 _ _ ⟨_, _, _, ?_, ⟨k + 1, by omega, rfl, rfl, rfl⟩, ?_⟩
   ·first | omega | (simp only [List.length_cons]; omega) | (dsimp only; omega)
   ·refine Rt.trans (Rt.gc (keep := []) (by decide) (by decide) (by simp [fzH, gcH])) ?_
    refine Rt.end (by repeat (first | exact zak _ | refine zah ?_ (by first | rfl | (simp [r_f, zaa, zag, hfs1]; done) | simp [r_f, zaa, zag, hfs1, *]))) ?_
    first | rfl | (simp only [r_g, Nat.reduceAdd, ↓reduceIte, Nat.reduceEqDiff, zas, zax, zae, zaf, shD]; first | done | rfl)
 ·have hke : k = sh.length := by simp at ht; omega
  have q5 : decide ((sh.length : Int) ≤ 8) = true := by simp; omega
  refine zbj (hK3 _ _ ?_)
  refine zac hp zaj hc rfl fun K13 hK13 => ?_
  simp -dsimp -implicitDefEqProofs (disch := first | assumption | omega | (simp only [r_z, zaa, zag] <;> omega) | decide) only [r_r, ↓reduceIte, Nat.reduceEqDiff, Nat.reduceAdd, D.fix, Int.reduceToNat, Nat.reduceMul, Nat.reduceBNe, Nat.reduceBEq, zas, zax, zae, zaf, shD, q5, zdn]
  refine hK13 _ _ ?_
  refine za4 ?_
  show closeA _ _ = _
  simp (disch := first | assumption | omega | (simp only [r_z, zaa, zag] <;> omega) | decide) only [r_c, Nat.reduceAdd, D.fix, ↓reduceIte, Nat.reduceEqDiff, zas, zax, zae, zaf, shD]
  subst hke
  simp [zdm]
theorem jl0 (a b m : Net) (sh : Sh) (V : Nat) (h1 : za9 Try.prog 39 [zas a, zas b] (.tup [.d (zas m), .d (iD 0)])) (hsh : ShOk sh) (hi : m.ins.length ≤ 1000) (hV : zdm m.ins.length sh = V) (hV60 : V ≤ 60) (h2 : za9 Try.prog 48 [zas m, shD sh, intsD m.drive] (.tup [.d (zbt [] []), .d (iD 2)])) : za9 Try.prog 31 [zas a, zas b, shD sh] (.tup [.d (oD false), .d (boolsD []), .d (iD 2)]) := by
 have h3 := jeo m sh hsh hi
 rw [hV] at h3
 have q1 : decide ((60 : Int) < V) = false := by simp; omega
 refine zbc (fn := Try.f31) (by kernel_rfl) Try.func31 rfl (Nat.le_of_ble_eq_true rfl) fun c hc hp => ?_
 refine zbf (τ' := frL [(0, .d (zas a)), (1, .d (zas b)), (2, .d (shD sh))]) (by repeat (first | exact zak _ | refine zah ?_ (by first | rfl | (simp [r_f, zaa, zag]; done) | simp [r_f, zaa, zag, *]))) ?_
 refine zac hp zaj hc rfl fun K1 hK1 => ?_
 simp -dsimp -implicitDefEqProofs (disch := first | assumption | omega | (simp only [r_z, zaa, zag] <;> omega) | decide) only [r_r, ↓reduceIte, Nat.reduceEqDiff, Nat.reduceAdd, D.fix, Int.reduceToNat, Nat.reduceMul, Nat.reduceBNe, Nat.reduceBEq, zas, zax, zae, zaf, shD, zbt, zby, zdn]
 refine hK1 _ _ ?_
 refine zac hp zaj hc rfl fun K2 hK2 => ?_
 simp -dsimp -implicitDefEqProofs (disch := first | assumption | omega | (simp only [r_z, zaa, zag] <;> omega) | decide) only [r_r, ↓reduceIte, Nat.reduceEqDiff, Nat.reduceAdd, D.fix, Int.reduceToNat, Nat.reduceMul, Nat.reduceBNe, Nat.reduceBEq, zas, zax, zae, zaf, shD, zbt, zby, zdn]
 refine zb4 (h1) rfl ?_
 simp -dsimp -implicitDefEqProofs (disch := first | assumption | omega | (simp only [r_z, zaa, zag] <;> omega) | decide) only [r_r, ↓reduceIte, Nat.reduceEqDiff, Nat.reduceAdd, D.fix, Int.reduceToNat, Nat.reduceMul, Nat.reduceBNe, Nat.reduceBEq, zas, zax, zae, zaf, shD, zbt, zby, zdn]
 refine hK2 _ _ ?_
 refine zam fun K3 hK3 => ?_
 refine zac hp zaj hc rfl fun K4 hK4 => ?_
 simp -dsimp -implicitDefEqProofs (disch := first | assumption | omega | (simp only [r_z, zaa, zag] <;> omega) | decide) only [r_r, ↓reduceIte, Nat.reduceEqDiff, Nat.reduceAdd, D.fix, Int.reduceToNat, Nat.reduceMul, Nat.reduceBNe, Nat.reduceBEq, zas, zax, zae, zaf, shD, zbt, zby, zdn]
 refine hK4 _ _ ?_
 refine zaq rfl (fun ht => ?_) (fun ht => ?_)
 ·cases ht
 ·refine zay (hK3 _ _ ?_)
  refine zac hp zaj hc rfl fun K5 hK5 => ?_
  simp -dsimp -implicitDefEqProofs (disch := first | assumption | omega | (simp only [r_z, zaa, zag] <;> omega) | decide) only [r_r, ↓reduceIte, Nat.reduceEqDiff, Nat.reduceAdd, D.fix, Int.reduceToNat, Nat.reduceMul, Nat.reduceBNe, Nat.reduceBEq, zas, zax, zae, zaf, shD, zbt, zby, zdn]
  refine zb4 (h3) rfl ?_
  simp -dsimp -implicitDefEqProofs (disch := first | assumption | omega | (simp only [r_z, zaa, zag] <;> omega) | decide) only [r_r, ↓reduceIte, Nat.reduceEqDiff, Nat.reduceAdd, D.fix, Int.reduceToNat, Nat.reduceMul, Nat.reduceBNe, Nat.reduceBEq, zas, zax, zae, zaf, shD, zbt, zby, zdn]
  refine hK5 _ _ ?_
  refine zam fun K6 hK6 => ?_
  refine zaz ?_
  refine zac hp zaj hc rfl fun K7 hK7 => ?_
  simp -dsimp -implicitDefEqProofs (disch := first | assumption | omega | (simp only [r_z, zaa, zag] <;> omega) | decide) only [r_r, ↓reduceIte, Nat.reduceEqDiff, Nat.reduceAdd, D.fix, Int.reduceToNat, Nat.reduceMul, Nat.reduceBNe, Nat.reduceBEq, zas, zax, zae, zaf, shD, zbt, zby, zdn]
  refine hK7 _ _ ?_
  refine zaq rfl (fun ht => ?_) (fun ht => ?_)
  ·cases ht
  ·refine zac hp zaj hc rfl fun K8 hK8 => ?_
   simp -dsimp -implicitDefEqProofs (disch := first | assumption | omega | (simp only [r_z, zaa, zag] <;> omega) | decide) only [r_r, ↓reduceIte, Nat.reduceEqDiff, Nat.reduceAdd, D.fix, Int.reduceToNat, Nat.reduceMul, Nat.reduceBNe, Nat.reduceBEq, zas, zax, zae, zaf, shD, zbt, zby, q1, zdn]
   refine hK8 _ _ ?_
   refine zaq rfl (fun ht => ?_) (fun ht => ?_)
   ·cases ht
   ·refine zay (hK6 _ _ ?_)
    refine zac hp zaj hc rfl fun K9 hK9 => ?_
    simp -dsimp -implicitDefEqProofs (disch := first | assumption | omega | (simp only [r_z, zaa, zag] <;> omega) | decide) only [r_r, ↓reduceIte, Nat.reduceEqDiff, Nat.reduceAdd, D.fix, Int.reduceToNat, Nat.reduceMul, Nat.reduceBNe, Nat.reduceBEq, zas, zax, zae, zaf, shD, zbt, zby, zdn]
    refine zb4 (h2) rfl ?_
    simp -dsimp -implicitDefEqProofs (disch := first | assumption | omega | (simp only [r_z, zaa, zag] <;> omega) | decide) only [r_r, ↓reduceIte, Nat.reduceEqDiff, Nat.reduceAdd, D.fix, Int.reduceToNat, Nat.reduceMul, Nat.reduceBNe, Nat.reduceBEq, zas, zax, zae, zaf, shD, zbt, zby, zdn]
    refine hK9 _ _ ?_
    refine zam fun K10 hK10 => ?_
    refine zac hp zaj hc rfl fun K11 hK11 => ?_
    simp -dsimp -implicitDefEqProofs (disch := first | assumption | omega | (simp only [r_z, zaa, zag] <;> omega) | decide) only [r_r, ↓reduceIte, Nat.reduceEqDiff, Nat.reduceAdd, D.fix, Int.reduceToNat, Nat.reduceMul, Nat.reduceBNe, Nat.reduceBEq, zas, zax, zae, zaf, shD, zbt, zby, zdn]
    refine hK11 _ _ ?_
    refine zaq rfl (fun ht => ?_) (fun ht => ?_)
    ·refine zac hp zaj hc rfl fun K12 hK12 => ?_
     simp -dsimp -implicitDefEqProofs (disch := first | assumption | omega | (simp only [r_z, zaa, zag] <;> omega) | decide) only [r_r, ↓reduceIte, Nat.reduceEqDiff, Nat.reduceAdd, D.fix, Int.reduceToNat, Nat.reduceMul, Nat.reduceBNe, Nat.reduceBEq, zas, zax, zae, zaf, shD, zbt, zby]
     refine hK12 _ _ ?_
     refine za4 ?_
     show closeA _ _ = _
     simp (disch := first | assumption | omega | (simp only [r_z, zaa, zag] <;> omega) | decide) only [r_c, Nat.reduceAdd, D.fix, ↓reduceIte, Nat.reduceEqDiff, zas, zax, zae, zaf, shD, zbt, zby]
    ·cases ht
theorem jj5 (a b m : Net) (sh : Sh) (V : Nat) (h1 : za9 Try.prog 39 [zas a, zas b] (.tup [.d (zas m), .d (iD 0)])) (hsh : ShOk sh) (hi : m.ins.length ≤ 1000) (hV : zdm m.ins.length sh = V) (hV60 : V ≤ 60) (ns : List Nd) (r : Nat) (hnl : ns.length ≤ 1000000) (h2 : za9 Try.prog 48 [zas m, shD sh, intsD m.drive] (.tup [.d (zbt ns [r]), .d (iD 0)])) (L : List Bool) (E : Int) (h4 : za9 Try.prog 49 [zbt ns [r], iD r, iD V] (.tup [.d (boolsD L), .d (iD E)])) (hE : E = 4 ∧ L = [] ∨ E = 0) : za9 Try.prog 31 [zas a, zas b, shD sh] (.tup [.d (oD (E == 4)), .d (boolsD L), .d (iD 0)]) := by
 have h3 := jeo m sh hsh hi
 rw [hV] at h3
 have q1 : decide ((60 : Int) < V) = false := by simp; omega
 refine zbc (fn := Try.f31) (by kernel_rfl) Try.func31 rfl (Nat.le_of_ble_eq_true rfl) fun c hc hp => ?_
 refine zbf (τ' := frL [(0, .d (zas a)), (1, .d (zas b)), (2, .d (shD sh))]) (by repeat (first | exact zak _ | refine zah ?_ (by first | rfl | (simp [r_f, zaa, zag, zad]; done) | simp [r_f, zaa, zag, zad, *]))) ?_
 refine zac hp zaj hc rfl fun K1 hK1 => ?_
 simp -dsimp -implicitDefEqProofs (disch := first | assumption | omega | (simp only [r_z, zaa, zag, zad] <;> omega) | decide) only [r_r, ↓reduceIte, Nat.reduceEqDiff, Nat.reduceAdd, D.fix, Int.reduceToNat, Nat.reduceMul, Nat.reduceBNe, Nat.reduceBEq, zas, zax, zae, zaf, shD, zbt, zby, zdn]
 refine hK1 _ _ ?_
 refine zac hp zaj hc rfl fun K2 hK2 => ?_
 simp -dsimp -implicitDefEqProofs (disch := first | assumption | omega | (simp only [r_z, zaa, zag, zad] <;> omega) | decide) only [r_r, ↓reduceIte, Nat.reduceEqDiff, Nat.reduceAdd, D.fix, Int.reduceToNat, Nat.reduceMul, Nat.reduceBNe, Nat.reduceBEq, zas, zax, zae, zaf, shD, zbt, zby, zdn]
 refine zb4 (h1) rfl ?_
 simp -dsimp -implicitDefEqProofs (disch := first | assumption | omega | (simp only [r_z, zaa, zag, zad] <;> omega) | decide) only [r_r, ↓reduceIte, Nat.reduceEqDiff, Nat.reduceAdd, D.fix, Int.reduceToNat, Nat.reduceMul, Nat.reduceBNe, Nat.reduceBEq, zas, zax, zae, zaf, shD, zbt, zby, zdn]
 refine hK2 _ _ ?_
 refine zam fun K3 hK3 => ?_
 refine zac hp zaj hc rfl fun K4 hK4 => ?_
 simp -dsimp -implicitDefEqProofs (disch := first | assumption | omega | (simp only [r_z, zaa, zag, zad] <;> omega) | decide) only [r_r, ↓reduceIte, Nat.reduceEqDiff, Nat.reduceAdd, D.fix, Int.reduceToNat, Nat.reduceMul, Nat.reduceBNe, Nat.reduceBEq, zas, zax, zae, zaf, shD, zbt, zby, zdn]
 refine hK4 _ _ ?_
 refine zaq rfl (fun ht => ?_) (fun ht => ?_)
 ·cases ht
 ·refine zay (hK3 _ _ ?_)
  refine zac hp zaj hc rfl fun K5 hK5 => ?_
  simp -dsimp -implicitDefEqProofs (disch := first | assumption | omega | (simp only [r_z, zaa, zag, zad] <;> omega) | decide) only [r_r, ↓reduceIte, Nat.reduceEqDiff, Nat.reduceAdd, D.fix, Int.reduceToNat, Nat.reduceMul, Nat.reduceBNe, Nat.reduceBEq, zas, zax, zae, zaf, shD, zbt, zby, zdn]
  refine zb4 (h3) rfl ?_
  simp -dsimp -implicitDefEqProofs (disch := first | assumption | omega | (simp only [r_z, zaa, zag, zad] <;> omega) | decide) only [r_r, ↓reduceIte, Nat.reduceEqDiff, Nat.reduceAdd, D.fix, Int.reduceToNat, Nat.reduceMul, Nat.reduceBNe, Nat.reduceBEq, zas, zax, zae, zaf, shD, zbt, zby, zdn]
  refine hK5 _ _ ?_
  refine zam fun K6 hK6 => ?_
  refine zaz ?_
  refine zac hp zaj hc rfl fun K7 hK7 => ?_
  simp -dsimp -implicitDefEqProofs (disch := first | assumption | omega | (simp only [r_z, zaa, zag, zad] <;> omega) | decide) only [r_r, ↓reduceIte, Nat.reduceEqDiff, Nat.reduceAdd, D.fix, Int.reduceToNat, Nat.reduceMul, Nat.reduceBNe, Nat.reduceBEq, zas, zax, zae, zaf, shD, zbt, zby, zdn]
  refine hK7 _ _ ?_
  refine zaq rfl (fun ht => ?_) (fun ht => ?_)
  ·cases ht
  ·refine zac hp zaj hc rfl fun K8 hK8 => ?_
   simp -dsimp -implicitDefEqProofs (disch := first | assumption | omega | (simp only [r_z, zaa, zag, zad] <;> omega) | decide) only [r_r, ↓reduceIte, Nat.reduceEqDiff, Nat.reduceAdd, D.fix, Int.reduceToNat, Nat.reduceMul, Nat.reduceBNe, Nat.reduceBEq, zas, zax, zae, zaf, shD, zbt, zby, q1, zdn]
   refine hK8 _ _ ?_
   refine zaq rfl (fun ht => ?_) (fun ht => ?_)
   ·cases ht
   ·refine zay (hK6 _ _ ?_)
    refine zac hp zaj hc rfl fun K9 hK9 => ?_
    simp -dsimp -implicitDefEqProofs (disch := first | assumption | omega | (simp only [r_z, zaa, zag, zad] <;> omega) | decide) only [r_r, ↓reduceIte, Nat.reduceEqDiff, Nat.reduceAdd, D.fix, Int.reduceToNat, Nat.reduceMul, Nat.reduceBNe, Nat.reduceBEq, zas, zax, zae, zaf, shD, zbt, zby, zdn]
    refine zb4 (h2) rfl ?_
    simp -dsimp -implicitDefEqProofs (disch := first | assumption | omega | (simp only [r_z, zaa, zag, zad] <;> omega) | decide) only [r_r, ↓reduceIte, Nat.reduceEqDiff, Nat.reduceAdd, D.fix, Int.reduceToNat, Nat.reduceMul, Nat.reduceBNe, Nat.reduceBEq, zas, zax, zae, zaf, shD, zbt, zby, zdn]
    refine hK9 _ _ ?_
    refine zam fun K10 hK10 => ?_
    refine zac hp zaj hc rfl fun K11 hK11 => ?_
    simp -dsimp -implicitDefEqProofs (disch := first | assumption | omega | (simp only [r_z, zaa, zag, zad] <;> omega) | decide) only [r_r, ↓reduceIte, Nat.reduceEqDiff, Nat.reduceAdd, D.fix, Int.reduceToNat, Nat.reduceMul, Nat.reduceBNe, Nat.reduceBEq, zas, zax, zae, zaf, shD, zbt, zby, zdn]
    refine hK11 _ _ ?_
    refine zaq rfl (fun ht => ?_) (fun ht => ?_)
    ·cases ht
    ·refine zay (hK10 _ _ ?_)
     refine zbn zaj hc mixed rfl (q := 0) (by kernel_rfl) (by kernel_rfl) fun K12 hK12 => ?_
     simp -dsimp -implicitDefEqProofs (disch := first | assumption | omega | (simp only [r_z, zaa, zag, zad] <;> omega) | decide) only [r_r, ↓reduceIte, Nat.reduceEqDiff, Nat.reduceAdd, D.fix, Int.reduceToNat, Nat.reduceMul, Nat.reduceBNe, Nat.reduceBEq, zas, zax, zae, zaf, shD, zbt, zby, zbw, zdn]
     refine zb4 (h4) rfl ?_
     simp -dsimp -implicitDefEqProofs (disch := first | assumption | omega | (simp only [r_z, zaa, zag, zad] <;> omega) | decide) only [r_r, ↓reduceIte, Nat.reduceEqDiff, Nat.reduceAdd, D.fix, Int.reduceToNat, Nat.reduceMul, Nat.reduceBNe, Nat.reduceBEq, zas, zax, zae, zaf, shD, zbt, zby, zbw, zdn]
     refine hK12 _ _ ?_
     refine zam fun K13 hK13 => ?_
     refine zac hp zaj hc rfl fun K14 hK14 => ?_
     rcases hE with ⟨rfl, rfl⟩ | rfl
     ·skip
      simp -dsimp -implicitDefEqProofs (disch := first | assumption | omega | (simp only [r_z, zaa, zag, zad] <;> omega) | decide) only [r_r, ↓reduceIte, Nat.reduceEqDiff, Nat.reduceAdd, D.fix, Int.reduceToNat, Nat.reduceMul, Nat.reduceBNe, Nat.reduceBEq, zas, zax, zae, zaf, shD, zbt, zby, zdn]
      refine hK14 _ _ ?_
      refine zaq rfl (fun ht => ?_) (fun ht => ?_)
      ·refine zac hp zaj hc rfl fun K15 hK15 => ?_
       simp -dsimp -implicitDefEqProofs (disch := first | assumption | omega | (simp only [r_z, zaa, zag, zad] <;> omega) | decide) only [r_r, ↓reduceIte, Nat.reduceEqDiff, Nat.reduceAdd, D.fix, Int.reduceToNat, Nat.reduceMul, Nat.reduceBNe, Nat.reduceBEq, zas, zax, zae, zaf, shD, zbt, zby]
       refine hK15 _ _ ?_
       refine za4 ?_
       show closeA _ _ = _
       simp (disch := first | assumption | omega | (simp only [r_z, zaa, zag, zad] <;> omega) | decide) only [r_c, Nat.reduceAdd, D.fix, ↓reduceIte, Nat.reduceEqDiff, zas, zax, zae, zaf, shD, zbt, zby]
       rfl
      ·cases ht
     ·skip
      simp -dsimp -implicitDefEqProofs (disch := first | assumption | omega | (simp only [r_z, zaa, zag, zad] <;> omega) | decide) only [r_r, ↓reduceIte, Nat.reduceEqDiff, Nat.reduceAdd, D.fix, Int.reduceToNat, Nat.reduceMul, Nat.reduceBNe, Nat.reduceBEq, zas, zax, zae, zaf, shD, zbt, zby, zdn]
      refine hK14 _ _ ?_
      refine zaq rfl (fun ht => ?_) (fun ht => ?_)
      ·cases ht
      ·refine zay (hK13 _ _ ?_)
       refine zac hp zaj hc rfl fun K16 hK16 => ?_
       simp -dsimp -implicitDefEqProofs (disch := first | assumption | omega | (simp only [r_z, zaa, zag, zad] <;> omega) | decide) only [r_r, ↓reduceIte, Nat.reduceEqDiff, Nat.reduceAdd, D.fix, Int.reduceToNat, Nat.reduceMul, Nat.reduceBNe, Nat.reduceBEq, zas, zax, zae, zaf, shD, zbt, zby]
       refine hK16 _ _ ?_
       refine za4 ?_
       show closeA _ _ = _
       simp (disch := first | assumption | omega | (simp only [r_z, zaa, zag, zad] <;> omega) | decide) only [r_c, Nat.reduceAdd, D.fix, ↓reduceIte, Nat.reduceEqDiff, zas, zax, zae, zaf, shD, zbt, zby]
       rfl
end Go.Proofs.Ytignimmnnccblaa

/- The law's small functions. -/
set_option linter.unusedVariables false
set_option linter.unusedSimpArgs false
set_option maxRecDepth 100000
set_option maxHeartbeats 4000000
namespace Go.Proofs.Ytignimmnnccblaa
open Go Go.RowKit
theorem ze9 : (((((((type_of% @zds) ∧ (type_of% @zdt)) ∧ ((type_of% @zsk) ∧ (type_of% @zsl))) ∧ (((type_of% @zy2) ∧ (type_of% @zy1)) ∧ ((type_of% @zfu) ∧ (type_of% @zfv)))) ∧ ((((type_of% @zfw) ∧ (type_of% @zfx)) ∧ ((type_of% @zlz) ∧ (type_of% @zl0))) ∧ (((type_of% @zhq) ∧ (type_of% @zhr)) ∧ ((type_of% @je4) ∧ ((type_of% @je5) ∧ (type_of% @zy3)))))) ∧ (((((type_of% @zlg) ∧ (type_of% @zlh)) ∧ ((type_of% @zli) ∧ (type_of% @jc3))) ∧ (((type_of% @jc4) ∧ (type_of% @zmk)) ∧ ((type_of% @zml) ∧ (type_of% @zq4)))) ∧ ((((type_of% @zqc) ∧ (type_of% @zqd)) ∧ ((type_of% @zko) ∧ (type_of% @zkp))) ∧ (((type_of% @zkq) ∧ (type_of% @jc5)) ∧ ((type_of% @jc6) ∧ ((type_of% @zkk) ∧ (type_of% @zkl))))))) ∧ ((((((type_of% @zkm) ∧ (type_of% @zkn)) ∧ ((type_of% @zsn) ∧ (type_of% @zso))) ∧ (((type_of% @zsp) ∧ (type_of% @zsq)) ∧ ((type_of% @zfc) ∧ (type_of% @zfd)))) ∧ ((((type_of% @zde) ∧ (type_of% @zdf)) ∧ ((type_of% @zdg) ∧ (type_of% @zdq))) ∧ (((type_of% @zex) ∧ (type_of% @zey)) ∧ ((type_of% @zfa) ∧ ((type_of% @jps) ∧ (type_of% @jpt)))))) ∧ (((((type_of% @jpu) ∧ (type_of% @jpv)) ∧ ((type_of% @zt1) ∧ (type_of% @zt2))) ∧ (((type_of% @zy7) ∧ (type_of% @zy6)) ∧ ((type_of% @zh0) ∧ ((type_of% @zhz) ∧ (type_of% @jpz))))) ∧ ((((type_of% @jdp) ∧ (type_of% @jdq)) ∧ ((type_of% @jdh) ∧ (type_of% @jdi))) ∧ (((type_of% @jgb) ∧ (type_of% @jga)) ∧ ((type_of% @jpr) ∧ ((type_of% @jdl) ∧ (type_of% @jdo)))))))) := ⟨⟨⟨⟨⟨⟨@zds, @zdt⟩, ⟨@zsk, @zsl⟩⟩, ⟨⟨@zy2, @zy1⟩, ⟨@zfu, @zfv⟩⟩⟩, ⟨⟨⟨@zfw, @zfx⟩, ⟨@zlz, @zl0⟩⟩, ⟨⟨@zhq, @zhr⟩, ⟨@je4, ⟨@je5, @zy3⟩⟩⟩⟩⟩, ⟨⟨⟨⟨@zlg, @zlh⟩, ⟨@zli, @jc3⟩⟩, ⟨⟨@jc4, @zmk⟩, ⟨@zml, @zq4⟩⟩⟩, ⟨⟨⟨@zqc, @zqd⟩, ⟨@zko, @zkp⟩⟩, ⟨⟨@zkq, @jc5⟩, ⟨@jc6, ⟨@zkk, @zkl⟩⟩⟩⟩⟩⟩, ⟨⟨⟨⟨⟨@zkm, @zkn⟩, ⟨@zsn, @zso⟩⟩, ⟨⟨@zsp, @zsq⟩, ⟨@zfc, @zfd⟩⟩⟩, ⟨⟨⟨@zde, @zdf⟩, ⟨@zdg, @zdq⟩⟩, ⟨⟨@zex, @zey⟩, ⟨@zfa, ⟨@jps, @jpt⟩⟩⟩⟩⟩, ⟨⟨⟨⟨@jpu, @jpv⟩, ⟨@zt1, @zt2⟩⟩, ⟨⟨@zy7, @zy6⟩, ⟨@zh0, ⟨@zhz, @jpz⟩⟩⟩⟩, ⟨⟨⟨@jdp, @jdq⟩, ⟨@jdh, @jdi⟩⟩, ⟨⟨@jgb, @jga⟩, ⟨@jpr, ⟨@jdl, @jdo⟩⟩⟩⟩⟩⟩⟩
def zem (is : Bool) (L : List Bool) (E : Int) : D := .agg [oD is, boolsD L, iD E]
theorem zo5 (a b : Net) (sh : Sh) (is : Bool) (L : List Bool) (E : Int) (h : za9 Try.prog 31 [zas a, zas b, shD sh] (.tup [.d (oD is), .d (boolsD L), .d (iD E)])) : za9 Try.prog 11 [zas a, zas b, shD sh] (.d (zem is L E)) := by
 refine zbc (fn := Try.f11) (by kernel_rfl) Try.func11 rfl (Nat.le_of_ble_eq_true rfl) fun c hc hp => ?_
 refine zbf (τ' := frL [(0, .d (zas a)), (1, .d (zas b)), (2, .d (shD sh))]) (by repeat (first | exact zak _ | refine zah ?_ (by first | rfl | (simp [r_f, zaa, zag, zab]; done) | simp [r_f, zaa, zag, zab, *]))) ?_
 refine zac hp zaj hc rfl fun K1 hK1 => ?_
 simp -dsimp -implicitDefEqProofs (disch := first | assumption | omega | (simp only [r_z, zaa, zag, zab] <;> omega) | decide) only [r_r, ↓reduceIte, Nat.reduceEqDiff, Nat.reduceAdd, D.fix, Int.reduceToNat, Nat.reduceMul, Nat.reduceBNe, Nat.reduceBEq, zas, zax, zae, zaf, shD, zem, ze9]
 refine hK1 _ _ ?_
 refine zac hp zaj hc rfl fun K2 hK2 => ?_
 simp -dsimp -implicitDefEqProofs (disch := first | assumption | omega | (simp only [r_z, zaa, zag, zab] <;> omega) | decide) only [r_r, ↓reduceIte, Nat.reduceEqDiff, Nat.reduceAdd, D.fix, Int.reduceToNat, Nat.reduceMul, Nat.reduceBNe, Nat.reduceBEq, zas, zax, zae, zaf, shD, zem, ze9]
 refine zb4 (h) rfl ?_
 simp -dsimp -implicitDefEqProofs (disch := first | assumption | omega | (simp only [r_z, zaa, zag, zab] <;> omega) | decide) only [r_r, ↓reduceIte, Nat.reduceEqDiff, Nat.reduceAdd, D.fix, Int.reduceToNat, Nat.reduceMul, Nat.reduceBNe, Nat.reduceBEq, zas, zax, zae, zaf, shD, zem, ze9]
 refine hK2 _ _ ?_
 refine zac hp zaj hc rfl fun K3 hK3 => ?_
 simp -dsimp -implicitDefEqProofs (disch := first | assumption | omega | (simp only [r_z, zaa, zag, zab] <;> omega) | decide) only [r_r, ↓reduceIte, Nat.reduceEqDiff, Nat.reduceAdd, D.fix, Int.reduceToNat, Nat.reduceMul, Nat.reduceBNe, Nat.reduceBEq, zas, zax, zae, zaf, shD, zem, ze9]
 refine hK3 _ _ ?_
 refine za4 ?_
 try dsimp only [zjj, zc3]
 refine zdo rfl ?_
 simp -dsimp -implicitDefEqProofs (disch := first | assumption | omega | (simp only [r_z, zaa, zag, zab] <;> omega) | decide) only [r_r, ↓reduceIte, Nat.reduceEqDiff, Nat.reduceAdd, D.fix, Int.reduceToNat, Nat.reduceMul, Nat.reduceBNe, Nat.reduceBEq, zas, zax, zae, zaf, shD, zem, zsk, zsl]
 show closeA _ _ = _
 simp (disch := first | assumption | omega | (simp only [r_z, zaa, zag, zab] <;> omega) | decide) only [r_c, Nat.reduceAdd, D.fix, ↓reduceIte, Nat.reduceEqDiff, zas, zax, zae, zaf, shD, zem]
theorem jj6 (i1 i2 : Bool) (l1 l2 : List Bool) (e1 e2 : Int) (h1 : l1.length ≤ maxLen) : za9 Try.prog 12 [zem i1 l1 e1, zem i2 l2 e2] (.d (oD ((i1 == i2) && ((e1 == e2) && decide (l1 = l2))))) := by
 refine zbc (fn := Try.f12) (by kernel_rfl) Try.func12 rfl (Nat.le_of_ble_eq_true rfl) fun c hc hp => ?_
 refine zbf (τ' := frL [(0, .d (zem i1 l1 e1)), (1, .d (zem i2 l2 e2))]) (by repeat (first | exact zak _ | refine zah ?_ (by first | rfl | (simp [r_f]; done) | simp [r_f, *]))) ?_
 refine zac hp zaj hc rfl fun K1 hK1 => ?_
 simp -dsimp -implicitDefEqProofs (disch := first | assumption | omega | (simp only [r_z] <;> omega) | decide) only [r_r, ↓reduceIte, Nat.reduceEqDiff, Nat.reduceAdd, D.fix, Int.reduceToNat, Nat.reduceMul, Nat.reduceBNe, Nat.reduceBEq, zem, ze9]
 refine hK1 _ _ ?_
 refine zac hp zaj hc rfl fun K2 hK2 => ?_
 rcases (show (i1 == i2) = false ∨ ((i1 == i2) = true ∧ (e1 == e2) = false) ∨ ((i1 == i2) = true ∧ (e1 == e2) = true) by cases (i1 == i2) <;> cases (e1 == e2) <;> simp) with q | ⟨q, q'⟩ | ⟨q, q'⟩
 ·have q' := q
  simp -dsimp -implicitDefEqProofs (disch := first | assumption | omega | (simp only [r_z] <;> omega) | decide) only [r_r, ↓reduceIte, Nat.reduceEqDiff, Nat.reduceAdd, D.fix, Int.reduceToNat, Nat.reduceMul, Nat.reduceBNe, Nat.reduceBEq, zem, q, q', ze9]
  refine hK2 _ _ ?_
  refine za4 ?_
  show closeA _ _ = _
  simp (disch := first | assumption | omega | (simp only [r_z] <;> omega) | decide) only [r_c, Nat.reduceAdd, D.fix, ↓reduceIte, Nat.reduceEqDiff, zem]
  rw [q]; rfl
 ·skip
  simp -dsimp -implicitDefEqProofs (disch := first | assumption | omega | (simp only [r_z] <;> omega) | decide) only [r_r, ↓reduceIte, Nat.reduceEqDiff, Nat.reduceAdd, D.fix, Int.reduceToNat, Nat.reduceMul, Nat.reduceBNe, Nat.reduceBEq, zem, q, q', ze9]
  refine hK2 _ _ ?_
  refine za4 ?_
  show closeA _ _ = _
  simp (disch := first | assumption | omega | (simp only [r_z] <;> omega) | decide) only [r_c, Nat.reduceAdd, D.fix, ↓reduceIte, Nat.reduceEqDiff, zem]
  rw [q, q']; rfl
 ·skip
  simp -dsimp -implicitDefEqProofs (disch := first | assumption | omega | (simp only [r_z] <;> omega) | decide) only [r_r, ↓reduceIte, Nat.reduceEqDiff, Nat.reduceAdd, D.fix, Int.reduceToNat, Nat.reduceMul, Nat.reduceBNe, Nat.reduceBEq, zem, q, q', ze9]
  refine zb4 (jd7 l1 l2 h1) rfl ?_
  simp -dsimp -implicitDefEqProofs (disch := first | assumption | omega | (simp only [r_z] <;> omega) | decide) only [r_r, ↓reduceIte, Nat.reduceEqDiff, Nat.reduceAdd, D.fix, Int.reduceToNat, Nat.reduceMul, Nat.reduceBNe, Nat.reduceBEq, zem, q, q', ze9]
  refine hK2 _ _ ?_
  refine za4 ?_
  show closeA _ _ = _
  simp (disch := first | assumption | omega | (simp only [r_z] <;> omega) | decide) only [r_c, Nat.reduceAdd, D.fix, ↓reduceIte, Nat.reduceEqDiff, zem]
  rw [q, q']; simp
def zzh (n : Net) (sh : Sh) (l : List Bool) : List Bool := zqz (zs2 n.gates (zl2 n.ins.length l) (zgz n.ins.length sh l)) n.drive
theorem zcq (v : List Bool) (dr : List Int) : (zqz v dr).length = dr.length := by simp [zqz]
theorem jg4 (n : Net) (sh : Sh) (l : List Bool) : (zzh n sh l).length = n.drive.length := by simp [zzh, zqz]
theorem zns (n : Net) (sh : Sh) (l : List Bool) (hi : n.ins.length ≤ 9) (hg : n.gates.length ≤ 200) (hgo : GatesOk (2 + n.ins.length) n.gates) (hd : DriveOk (2 + n.ins.length + n.gates.length) n.drive) (hdl : n.drive.length ≤ 1000) (hsh : ShOk sh) (hl : l.length ≤ maxLen) : za9 Try.prog 15 [zas n, shD sh, boolsD l] (.d (boolsD (zzh n sh l))) := by
 have hvl := jec n n.ins.length l (zgz n.ins.length sh l)
 refine zbc (fn := Try.f15) (by kernel_rfl) Try.func15 rfl (Nat.le_of_ble_eq_true rfl) fun c hc hp => ?_
 refine zbf (τ' := frL [(0, .d (zas n)), (1, .d (shD sh)), (2, .d (boolsD l))]) (by repeat (first | exact zak _ | refine zah ?_ (by first | rfl | (simp [r_f, zaa, zag, zab, zcq]; done) | simp [r_f, zaa, zag, zab, zcq, *]))) ?_
 refine zac hp zaj hc rfl fun K1 hK1 => ?_
 simp -dsimp -implicitDefEqProofs (disch := first | assumption | omega | (simp only [r_z, zaa, zag, zab, zcq] <;> omega) | decide) only [r_r, ↓reduceIte, Nat.reduceEqDiff, Nat.reduceAdd, D.fix, Int.reduceToNat, Nat.reduceMul, Nat.reduceBNe, Nat.reduceBEq, zas, zax, zae, zaf, shD, ze9]
 refine hK1 _ _ ?_
 refine zbn zaj hc mixed rfl (q := 0) (by kernel_rfl) (by kernel_rfl) fun K2 hK2 => ?_
 simp -dsimp -implicitDefEqProofs (disch := first | assumption | omega | (simp only [r_z, zaa, zag, zab, zcq] <;> omega) | decide) only [r_r, ↓reduceIte, Nat.reduceEqDiff, Nat.reduceAdd, D.fix, Int.reduceToNat, Nat.reduceMul, Nat.reduceBNe, Nat.reduceBEq, zas, zax, zae, zaf, shD, ze9]
 refine zb4 (jgs n l hl (by omega) (by omega)) rfl ?_
 simp -dsimp -implicitDefEqProofs (disch := first | assumption | omega | (simp only [r_z, zaa, zag, zab, zcq] <;> omega) | decide) only [r_r, ↓reduceIte, Nat.reduceEqDiff, Nat.reduceAdd, D.fix, Int.reduceToNat, Nat.reduceMul, Nat.reduceBNe, Nat.reduceBEq, zas, zax, zae, zaf, shD, ze9]
 refine zb4 (jrg n sh l hsh hl (by omega)) rfl ?_
 simp -dsimp -implicitDefEqProofs (disch := first | assumption | omega | (simp only [r_z, zaa, zag, zab, zcq] <;> omega) | decide) only [r_r, ↓reduceIte, Nat.reduceEqDiff, Nat.reduceAdd, D.fix, Int.reduceToNat, Nat.reduceMul, Nat.reduceBNe, Nat.reduceBEq, zas, zax, zae, zaf, shD, ze9]
 refine zb4 (jre n (zl2 n.ins.length l) (zgz n.ins.length sh l) (by rw [zhm]; exact hgo) (by rw [zhm]; omega) (by omega)) rfl ?_
 simp -dsimp -implicitDefEqProofs (disch := first | assumption | omega | (simp only [r_z, zaa, zag, zab, zcq] <;> omega) | decide) only [r_r, ↓reduceIte, Nat.reduceEqDiff, Nat.reduceAdd, D.fix, Int.reduceToNat, Nat.reduceMul, Nat.reduceBNe, Nat.reduceBEq, zas, zax, zae, zaf, shD, ze9]
 obtain ⟨v, hv⟩ : ∃ v, v = zs2 n.gates (zl2 n.ins.length l) (zgz n.ins.length sh l) := ⟨_, rfl⟩
 have hres : zzh n sh l = zqz v n.drive := by rw [hv]; rfl
 rw [← hv] at hvl ⊢
 refine hK2 _ _ ?_
 refine zac hp zaj hc rfl fun K3 hK3 => ?_
 simp -dsimp -implicitDefEqProofs (disch := first | assumption | omega | (simp only [r_z, zaa, zag, zab, zcq] <;> omega) | decide) only [r_r, ↓reduceIte, Nat.reduceEqDiff, Nat.reduceAdd, D.fix, Int.reduceToNat, Nat.reduceMul, Nat.reduceBNe, Nat.reduceBEq, zas, zax, zae, zaf, shD, ze9]
 refine hK3 _ _ ?_
 refine zam fun K4 hK4 => ?_
 refine zac hp zaj hc rfl fun K5 hK5 => ?_
 simp -dsimp -implicitDefEqProofs (disch := first | assumption | omega | (simp only [r_z, zaa, zag, zab, zcq] <;> omega) | decide) only [r_r, ↓reduceIte, Nat.reduceEqDiff, Nat.reduceAdd, D.fix, Int.reduceToNat, Nat.reduceMul, Nat.reduceBNe, Nat.reduceBEq, zas, zax, zae, zaf, shD]
 refine hK5 _ _ ?_
 refine zaz ?_
 refine za7 hp (fun τ' H' mm => ∃ (k : Nat), (k ≤ n.drive.length) ∧ mm = n.drive.length - k ∧ H' = [.cells (avs (zax n)), .cells (avs ((zqz v (n.drive.take k)).map oD))] ∧ τ' = frL [(3, .op 0 0), (7, .d (boolsD v)), (8, .os 1 1 0 k), (9, .d (iD k))]) (n.drive.length) ?_ ⟨0, Nat.zero_le _, rfl, rfl, rfl⟩ ?_
 ·refine Rt.trans (Rt.gc (keep := [0,1]) (by decide) (by decide) (by simp [fzH, gcH])) ?_
  refine Rt.end (by repeat (first | exact zak _ | refine zah ?_ (by first | rfl | (simp [r_f, zaa, zag, zab, zcq]; done) | simp [r_f, zaa, zag, zab, zcq, *]))) ?_
  first | rfl | (simp only [r_g, Nat.reduceAdd, ↓reduceIte, Nat.reduceEqDiff, zas, zax, zae, zaf, shD]; first | done | rfl)
 rintro τ' H' mm ⟨k, hk, rfl, rfl, rfl⟩
 refine zam fun K6 hK6 => ?_
 refine zac hp zaj hc rfl fun K7 hK7 => ?_
 simp -dsimp -implicitDefEqProofs (disch := first | assumption | omega | (simp only [r_z, zaa, zag, zab, zcq] <;> omega) | decide) only [r_r, ↓reduceIte, Nat.reduceEqDiff, Nat.reduceAdd, D.fix, Int.reduceToNat, Nat.reduceMul, Nat.reduceBNe, Nat.reduceBEq, zas, zax, zae, zaf, shD, ze9]
 refine hK7 _ _ ?_
 refine zaq rfl (fun ht => ?_) (fun ht => ?_)
 ·have hlt : k < n.drive.length := by simp at ht; omega
  have hdk := hd k hlt
  have q1 : decide (nth n.drive k < (v.length : Int)) = true := by simp; omega
  refine zay (hK6 _ _ ?_)
  refine zam fun K8 hK8 => ?_
  refine zaz ?_
  refine zbo hp zaj hc rfl fun K9 hK9 => ?_
  simp -dsimp -implicitDefEqProofs (disch := first | assumption | omega | (simp only [r_z, zaa, zag, zab, zcq] <;> omega) | decide) only [r_r, ↓reduceIte, Nat.reduceEqDiff, Nat.reduceAdd, D.fix, Int.reduceToNat, Nat.reduceMul, Nat.reduceBNe, Nat.reduceBEq, zas, zax, zae, zaf, shD, zcc, q1, ze9]
  refine hK9 _ _ (hK8 _ _ ?_)
  refine zbo hp zaj hc rfl fun K10 hK10 => ?_
  simp -dsimp -implicitDefEqProofs (disch := first | assumption | omega | (simp only [r_z, zaa, zag, zab, zcq] <;> omega) | decide) only [r_r, ↓reduceIte, Nat.reduceEqDiff, Nat.reduceAdd, D.fix, Int.reduceToNat, Nat.reduceMul, Nat.reduceBNe, Nat.reduceBEq, zas, zax, zae, zaf, shD, ze9]
  refine hK10 _ _ ⟨_, _, _, ?_, ⟨k + 1, by omega, rfl, rfl, rfl⟩, ?_⟩
  ·first | omega | (simp only [List.length_cons]; omega) | (dsimp only; omega)
  ·refine Rt.trans (Rt.gc (keep := [0,3]) (by decide) (by decide) (by simp [fzH, gcH])) ?_
   refine Rt.end (by repeat (first | exact zak _ | refine zah ?_ (by first | rfl | (simp [r_f, zaa, zag, zab, zcq]; done) | simp [r_f, zaa, zag, zab, zcq, *]))) ?_
   simp only [r_g, Nat.reduceAdd, ↓reduceIte, Nat.reduceEqDiff, zas, zax, zae, zaf, shD]; rw [zdy hlt]; simp [zqz, oD]
 ·have hke : k = n.drive.length := by simp at ht; omega
  subst hke
  rw [List.take_length]
  refine zbj (hK4 _ _ ?_)
  refine zac hp zaj hc rfl fun K11 hK11 => ?_
  simp -dsimp -implicitDefEqProofs (disch := first | assumption | omega | (simp only [r_z, zaa, zag, zab, zcq] <;> omega) | decide) only [r_r, ↓reduceIte, Nat.reduceEqDiff, Nat.reduceAdd, D.fix, Int.reduceToNat, Nat.reduceMul, Nat.reduceBNe, Nat.reduceBEq, zas, zax, zae, zaf, shD]
  refine hK11 _ _ ?_
  refine za4 ?_
  show closeA _ _ = _
  simp (disch := first | assumption | omega | (simp only [r_z, zaa, zag, zab, zcq] <;> omega) | decide) only [r_c, Nat.reduceAdd, D.fix, ↓reduceIte, Nat.reduceEqDiff, zas, zax, zae, zaf, shD]
  rw [hres]; simp [boolsD, zcq]
theorem jep (a b m : Net) (h : za9 Try.prog 39 [zas a, zas b] (.tup [.d (zas m), .d (iD 0)])) : za9 Try.prog 24 [zas a, zas b] (.d (.agg (zax m ++ [iD 0]))) := by
 refine zbc (fn := Try.f24) (by kernel_rfl) Try.func24 rfl (Nat.le_of_ble_eq_true rfl) fun c hc hp => ?_
 refine zbf (τ' := frL [(0, .d (zas a)), (1, .d (zas b))]) (by repeat (first | exact zak _ | refine zah ?_ (by first | rfl | (simp [r_f, zaa, zab]; done) | simp [r_f, zaa, zab, *]))) ?_
 refine zac hp zaj hc rfl fun K1 hK1 => ?_
 simp -dsimp -implicitDefEqProofs (disch := first | assumption | omega | (simp only [r_z, zaa, zab] <;> omega) | decide) only [r_r, ↓reduceIte, Nat.reduceEqDiff, Nat.reduceAdd, D.fix, Int.reduceToNat, Nat.reduceMul, Nat.reduceBNe, Nat.reduceBEq, zas, zax, zae, zaf, List.cons_append, List.nil_append, ze9]
 refine hK1 _ _ ?_
 refine zac hp zaj hc rfl fun K2 hK2 => ?_
 simp -dsimp -implicitDefEqProofs (disch := first | assumption | omega | (simp only [r_z, zaa, zab] <;> omega) | decide) only [r_r, ↓reduceIte, Nat.reduceEqDiff, Nat.reduceAdd, D.fix, Int.reduceToNat, Nat.reduceMul, Nat.reduceBNe, Nat.reduceBEq, zas, zax, zae, zaf, List.cons_append, List.nil_append, ze9]
 refine zb4 (h) rfl ?_
 simp -dsimp -implicitDefEqProofs (disch := first | assumption | omega | (simp only [r_z, zaa, zab] <;> omega) | decide) only [r_r, ↓reduceIte, Nat.reduceEqDiff, Nat.reduceAdd, D.fix, Int.reduceToNat, Nat.reduceMul, Nat.reduceBNe, Nat.reduceBEq, zas, zax, zae, zaf, List.cons_append, List.nil_append, ze9]
 refine hK2 _ _ ?_
 refine zac hp zaj hc rfl fun K3 hK3 => ?_
 simp -dsimp -implicitDefEqProofs (disch := first | assumption | omega | (simp only [r_z, zaa, zab] <;> omega) | decide) only [r_r, ↓reduceIte, Nat.reduceEqDiff, Nat.reduceAdd, D.fix, Int.reduceToNat, Nat.reduceMul, Nat.reduceBNe, Nat.reduceBEq, zas, zax, zae, zaf, List.cons_append, List.nil_append, ze9]
 refine hK3 _ _ ?_
 refine za4 ?_
 try dsimp only [zjj, zc3]
 refine zdo rfl ?_
 simp -dsimp -implicitDefEqProofs (disch := first | assumption | omega | (simp only [r_z, zaa, zab] <;> omega) | decide) only [r_r, ↓reduceIte, Nat.reduceEqDiff, Nat.reduceAdd, D.fix, Int.reduceToNat, Nat.reduceMul, Nat.reduceBNe, Nat.reduceBEq, zas, zax, zae, zaf, List.cons_append, List.nil_append, zt1, zt2]
 show closeA _ _ = _
 simp (disch := first | assumption | omega | (simp only [r_z, zaa, zab] <;> omega) | decide) only [r_c, Nat.reduceAdd, D.fix, ↓reduceIte, Nat.reduceEqDiff, zas, zax, zae, zaf, List.cons_append, List.nil_append]
def clD (L : List Int) (E : Int) : D := .agg [intsD L, iD E]
theorem jeq (n : Net) (sh : Sh) (L : List Int) (E : Int) (h : za9 Try.prog 32 [zas n, shD sh] (.tup [.d (intsD L), .d (iD E)])) : za9 Try.prog 17 [zas n, shD sh] (.d (clD L E)) := by
 refine zbc (fn := Try.f17) (by kernel_rfl) Try.func17 rfl (Nat.le_of_ble_eq_true rfl) fun c hc hp => ?_
 refine zbf (τ' := frL [(0, .d (zas n)), (1, .d (shD sh))]) (by repeat (first | exact zak _ | refine zah ?_ (by first | rfl | (simp [r_f, zaa, zag, zab]; done) | simp [r_f, zaa, zag, zab, *]))) ?_
 refine zac hp zaj hc rfl fun K1 hK1 => ?_
 simp -dsimp -implicitDefEqProofs (disch := first | assumption | omega | (simp only [r_z, zaa, zag, zab] <;> omega) | decide) only [r_r, ↓reduceIte, Nat.reduceEqDiff, Nat.reduceAdd, D.fix, Int.reduceToNat, Nat.reduceMul, Nat.reduceBNe, Nat.reduceBEq, zas, zax, zae, zaf, shD, clD, ze9]
 refine hK1 _ _ ?_
 refine zac hp zaj hc rfl fun K2 hK2 => ?_
 simp -dsimp -implicitDefEqProofs (disch := first | assumption | omega | (simp only [r_z, zaa, zag, zab] <;> omega) | decide) only [r_r, ↓reduceIte, Nat.reduceEqDiff, Nat.reduceAdd, D.fix, Int.reduceToNat, Nat.reduceMul, Nat.reduceBNe, Nat.reduceBEq, zas, zax, zae, zaf, shD, clD, ze9]
 refine zb4 (h) rfl ?_
 simp -dsimp -implicitDefEqProofs (disch := first | assumption | omega | (simp only [r_z, zaa, zag, zab] <;> omega) | decide) only [r_r, ↓reduceIte, Nat.reduceEqDiff, Nat.reduceAdd, D.fix, Int.reduceToNat, Nat.reduceMul, Nat.reduceBNe, Nat.reduceBEq, zas, zax, zae, zaf, shD, clD, ze9]
 refine hK2 _ _ ?_
 refine zac hp zaj hc rfl fun K3 hK3 => ?_
 simp -dsimp -implicitDefEqProofs (disch := first | assumption | omega | (simp only [r_z, zaa, zag, zab] <;> omega) | decide) only [r_r, ↓reduceIte, Nat.reduceEqDiff, Nat.reduceAdd, D.fix, Int.reduceToNat, Nat.reduceMul, Nat.reduceBNe, Nat.reduceBEq, zas, zax, zae, zaf, shD, clD, ze9]
 refine hK3 _ _ ?_
 refine za4 ?_
 try dsimp only [zjj, zc3]
 refine zdo rfl ?_
 simp -dsimp -implicitDefEqProofs (disch := first | assumption | omega | (simp only [r_z, zaa, zag, zab] <;> omega) | decide) only [r_r, ↓reduceIte, Nat.reduceEqDiff, Nat.reduceAdd, D.fix, Int.reduceToNat, Nat.reduceMul, Nat.reduceBNe, Nat.reduceBEq, zas, zax, zae, zaf, shD, clD, jdh, jdi]
 show closeA _ _ = _
 simp (disch := first | assumption | omega | (simp only [r_z, zaa, zag, zab] <;> omega) | decide) only [r_c, Nat.reduceAdd, D.fix, ↓reduceIte, Nat.reduceEqDiff, zas, zax, zae, zaf, shD, clD]
end Go.Proofs.Ytignimmnnccblaa
