/- What is built is determined; comparisons; classes. -/
import Derived.Test.YtignimmnnccblaaQr
import Derived.Test.YtignimmnnccblaaMc
set_option linter.unusedVariables false
set_option linter.unusedSimpArgs false
set_option maxRecDepth 100000
set_option maxHeartbeats 4000000
namespace Go.Proofs.Ytignimmnnccblaa
open Go Go.RowKit
theorem zdj : ((((((type_of% @zd1) ∧ (type_of% @zd2)) ∧ ((type_of% @zda) ∧ ((type_of% @zdb) ∧ (type_of% @zfs)))) ∧ (((type_of% @zft) ∧ ((type_of% @zfu) ∧ (type_of% @zfv))) ∧ ((type_of% @zfd) ∧ ((type_of% @zfe) ∧ (type_of% @zff))))) ∧ ((((type_of% @zfg) ∧ (type_of% @ze4)) ∧ ((type_of% @ze5) ∧ ((type_of% @ze7) ∧ (type_of% @zkn)))) ∧ (((type_of% @zko) ∧ ((type_of% @zkp) ∧ (type_of% @zyy))) ∧ ((type_of% @zyx) ∧ ((type_of% @zl0) ∧ (type_of% @zl1)))))) ∧ (((((type_of% @zhw) ∧ (type_of% @zhx)) ∧ ((type_of% @zht) ∧ ((type_of% @zhs) ∧ (type_of% @zkk)))) ∧ (((type_of% @zkl) ∧ ((type_of% @zkm) ∧ (type_of% @znt))) ∧ ((type_of% @znu) ∧ ((type_of% @zs1) ∧ (type_of% @zgi))))) ∧ ((((type_of% @zgj) ∧ (type_of% @zdm)) ∧ ((type_of% @zdn) ∧ ((type_of% @zdo) ∧ (type_of% @zdv)))) ∧ (((type_of% @zeg) ∧ ((type_of% @zeh) ∧ (type_of% @zjq))) ∧ ((type_of% @zjp) ∧ ((type_of% @zi2) ∧ (type_of% @zi3))))))) := ⟨⟨⟨⟨⟨@zd1, @zd2⟩, ⟨@zda, ⟨@zdb, @zfs⟩⟩⟩, ⟨⟨@zft, ⟨@zfu, @zfv⟩⟩, ⟨@zfd, ⟨@zfe, @zff⟩⟩⟩⟩, ⟨⟨⟨@zfg, @ze4⟩, ⟨@ze5, ⟨@ze7, @zkn⟩⟩⟩, ⟨⟨@zko, ⟨@zkp, @zyy⟩⟩, ⟨@zyx, ⟨@zl0, @zl1⟩⟩⟩⟩⟩, ⟨⟨⟨⟨@zhw, @zhx⟩, ⟨@zht, ⟨@zhs, @zkk⟩⟩⟩, ⟨⟨@zkl, ⟨@zkm, @znt⟩⟩, ⟨@znu, ⟨@zs1, @zgi⟩⟩⟩⟩, ⟨⟨⟨@zgj, @zdm⟩, ⟨@zdn, ⟨@zdo, @zdv⟩⟩⟩, ⟨⟨@zeg, ⟨@zeh, @zjq⟩⟩, ⟨@zjp, ⟨@zi2, @zi3⟩⟩⟩⟩⟩⟩
theorem zsx {n : Net} {sh : Sh} {nodes : List Int} {fs : List T} (hF : FsP (zc3 n.ins.length sh) n.ins.length sh n.gates n.gates.length fs) (hgo : GatesOk (2 + n.ins.length) n.gates) (hi : n.ins.length ≤ 100) (hb : BIn (zc3 n.ins.length sh) n sh nodes) (hbig : 3000 < (zeq fs).length) :
  zbd Try.prog 48 [zaw n, shD sh, intsD nodes] (.tup [.d (zbw [] []), .d (iD 2)]) :=
 hb.build.det fun r h => by
  rcases h with ⟨j, f1, hj, h1, h2, rfl⟩ | ⟨f1, h1, hq, rfl⟩
  ·rfl
  ·have hc := jd5 h1 (Nat.le_refl _) hF hgo
   have hl := hF.len
   rw [List.take_of_length_le (by omega)] at hc
   subst hc
   have := zy8 hF hi hq
   omega
theorem zx8 {n : Net} {sh : Sh} {nodes : List Int} {fs : List T} (hF : FsP (zc3 n.ins.length sh) n.ins.length sh n.gates n.gates.length fs) (hgo : GatesOk (2 + n.ins.length) n.gates) (hi : n.ins.length ≤ 100) (hb : BIn (zc3 n.ins.length sh) n sh nodes) (hbig : ¬ 3000 < (zeq fs).length) :
  zbd Try.prog 48 [zaw n, shD sh, intsD nodes] (.tup [.d (jst (zfq fs nodes)), .d (iD 0)]) :=
 hb.build.det fun r h => by
  rcases h with ⟨j, f1, hj, h1, h2, rfl⟩ | ⟨f1, h1, hq, rfl⟩
  ·have hc := jd5 h1 hj hF hgo
   have hp := (zxt (fs.take (2 + n.ins.length + j)) (fs.drop (2 + n.ins.length + j))).length_le
   rw [List.take_append_drop, ← hc] at hp
   omega
  ·have hc := jd5 h1 (Nat.le_refl _) hF hgo
   have hl := hF.len
   rw [List.take_of_length_le (by omega)] at hc
   subst hc
   rfl
theorem jeb (n : Net) (sh : Sh) (hsh : ShOk sh) (hi : n.ins.length ≤ 1000) : zbd Try.prog 47 [zaw n, shD sh] (.tup [.d (iD (zc3 n.ins.length sh)), .d (oD true)]) := by
 have hs8 := hsh.len
 refine zbg (fn := Try.f47) (by kernel_rfl) Try.func47 rfl (Nat.le_of_ble_eq_true rfl) fun c hc hp => ?_
 refine zbh (τ' := frL [(0, .d (zaw n)), (1, .d (shD sh))]) (by repeat (first | exact zam _ | refine zai ?_ (by first | rfl | (simp [r_f, zaa, zae, hfs1]; done) | simp [r_f, zaa, zae, hfs1, *]))) ?_
 refine zac hp zak hc rfl fun K1 hK1 => ?_
 simp -dsimp -implicitDefEqProofs (disch := first | assumption | omega | (simp only [r_z, zaa, zae] <;> omega) | decide) only [r_r, ↓reduceIte, Nat.reduceEqDiff, Nat.reduceAdd, D.fix, Int.reduceToNat, Nat.reduceMul, Nat.reduceBNe, Nat.reduceBEq, zaw, zax, zaf, zag, shD, zdj]
 refine hK1 _ _ ?_
 refine zac hp zak hc rfl fun K2 hK2 => ?_
 simp -dsimp -implicitDefEqProofs (disch := first | assumption | omega | (simp only [r_z, zaa, zae] <;> omega) | decide) only [r_r, ↓reduceIte, Nat.reduceEqDiff, Nat.reduceAdd, D.fix, Int.reduceToNat, Nat.reduceMul, Nat.reduceBNe, Nat.reduceBEq, zaw, zax, zaf, zag, shD, zdj]
 refine hK2 _ _ ?_
 refine zao fun K3 hK3 => ?_
 refine zac hp zak hc rfl fun K4 hK4 => ?_
 simp -dsimp -implicitDefEqProofs (disch := first | assumption | omega | (simp only [r_z, zaa, zae] <;> omega) | decide) only [r_r, ↓reduceIte, Nat.reduceEqDiff, Nat.reduceAdd, D.fix, Int.reduceToNat, Nat.reduceMul, Nat.reduceBNe, Nat.reduceBEq, zaw, zax, zaf, zag, shD, zdj]
 refine hK4 _ _ ?_
 refine zaz ?_
 refine zbb hp (fun τ' H' mm => ∃ (k : Nat), (k ≤ sh.length) ∧ mm = sh.length - k ∧ H' = [] ∧ τ' = frL [(1, .d (shD sh)), (4, .d (iD 0)), (5, .d (oD false)), (6, .d (iD (zbv n.ins.length sh k))), (12, .d (shD sh)), (13, .d (iD sh.length)), (14, .d (iD k))]) (sh.length) ?_ ⟨0, Nat.zero_le _, rfl, rfl, rfl⟩ ?_
 ·refine Rt.trans (Rt.gc (keep := []) (by decide) (by decide) (by simp [fzH, gcH])) ?_
  refine Rt.end (by repeat (first | exact zam _ | refine zai ?_ (by first | rfl | (simp [r_f, zaa, zae, hfs1]; done) | simp [r_f, zaa, zae, hfs1, *]))) ?_
  first | rfl | (simp only [r_g, Nat.reduceAdd, ↓reduceIte, Nat.reduceEqDiff, zaw, zax, zaf, zag, shD]; first | done | rfl)
 rintro τ' H' mm ⟨k, hk, rfl, rfl, rfl⟩
 refine zac hp zak hc rfl fun K5 hK5 => ?_
 simp -dsimp -implicitDefEqProofs (disch := first | assumption | omega | (simp only [r_z, zaa, zae] <;> omega) | decide) only [r_r, ↓reduceIte, Nat.reduceEqDiff, Nat.reduceAdd, D.fix, Int.reduceToNat, Nat.reduceMul, Nat.reduceBNe, Nat.reduceBEq, zaw, zax, zaf, zag, shD, zdj]
 refine hK5 _ _ ?_
 refine zao fun K6 hK6 => ?_
 refine zaq rfl (fun ht => ?_) (fun ht => ?_)
 ·have hlt : k < sh.length := by simp at ht; omega
  have fb := znr (base := n.ins.length) hsh (k := k) (by omega)
  have hel := hsh.el k hlt
  have hib : ((nth sh k).1 : Int) * ((nth sh k).2 : Int) ≤ 64 := by
   have := Nat.mul_le_mul hel.1 hel.2
   omega
  have hib0 : 0 ≤ ((nth sh k).1 : Int) * ((nth sh k).2 : Int) := by
   have : (((nth sh k).1 * (nth sh k).2 : Nat) : Int) = ((nth sh k).1 : Int) * ((nth sh k).2 : Int) := by simp
   omega
  have hfs1 : (zbv n.ins.length sh (k + 1) : Int) = (zbv n.ins.length sh k : Int) + ((nth sh k).1 : Int) * ((nth sh k).2 : Int) := by rw [zep hlt]; simp
  have q1 : decide (((nth sh k).1 : Int) < 0) = false := decide_eq_false (by omega)
  have q2 : decide ((8 : Int) < (nth sh k).1) = false := by simp; omega
  have q3 : decide (((nth sh k).2 : Int) < 0) = false := decide_eq_false (by omega)
  have q4 : decide ((8 : Int) < (nth sh k).2) = false := by simp; omega
  refine zay (hK6 _ _ ?_)
  refine zao fun K7 hK7 => ?_
  refine zaz ?_
  refine zac hp zak hc rfl fun K8 hK8 => ?_
  simp -dsimp -implicitDefEqProofs (disch := first | assumption | omega | (simp only [r_z, zaa, zae] <;> omega) | decide) only [r_r, ↓reduceIte, Nat.reduceEqDiff, Nat.reduceAdd, D.fix, Int.reduceToNat, Nat.reduceMul, Nat.reduceBNe, Nat.reduceBEq, zaw, zax, zaf, zag, shD, jjl, jma, shC, zdj]
  refine hK8 _ _ ?_
  refine zao fun K9 hK9 => ?_
  refine zac hp zak hc rfl fun K10 hK10 => ?_
  simp -dsimp -implicitDefEqProofs (disch := first | assumption | omega | (simp only [r_z, zaa, zae] <;> omega) | decide) only [r_r, ↓reduceIte, Nat.reduceEqDiff, Nat.reduceAdd, D.fix, Int.reduceToNat, Nat.reduceMul, Nat.reduceBNe, Nat.reduceBEq, zaw, zax, zaf, zag, shD, q1, q2, q3, q4, zdj]
  refine hK10 _ _ ?_
  refine zaq rfl (fun ht => ?_) (fun ht => ?_)
  ·cases ht
  ·refine zay (hK9 _ _ ?_)
   refine zbt hp zak hc rfl fun K11 hK11 => ?_
   simp -dsimp -implicitDefEqProofs (disch := first | assumption | omega | (simp only [r_z, zaa, zae] <;> omega) | decide) only [r_r, ↓reduceIte, Nat.reduceEqDiff, Nat.reduceAdd, D.fix, Int.reduceToNat, Nat.reduceMul, Nat.reduceBNe, Nat.reduceBEq, zaw, zax, zaf, zag, shD, zdj]
   refine hK11 _ _ (hK7 _ _ ?_)
   refine zbt hp zak hc rfl fun K12 hK12 => ?_
   simp -dsimp -implicitDefEqProofs (disch := first | assumption | omega | (simp only [r_z, zaa, zae] <;> omega) | decide) only [r_r, ↓reduceIte, Nat.reduceEqDiff, Nat.reduceAdd, D.fix, Int.reduceToNat, Nat.reduceMul, Nat.reduceBNe, Nat.reduceBEq, zaw, zax, zaf, zag, shD, zdj]
   refine hK12 _ _ ⟨_, _, _, ?_, ⟨k + 1, by omega, rfl, rfl, rfl⟩, ?_⟩
   ·first | omega | (simp only [List.length_cons]; omega) | (dsimp only; omega)
   ·refine Rt.trans (Rt.gc (keep := []) (by decide) (by decide) (by simp [fzH, gcH])) ?_
    refine Rt.end (by repeat (first | exact zam _ | refine zai ?_ (by first | rfl | (simp [r_f, zaa, zae, hfs1]; done) | simp [r_f, zaa, zae, hfs1, *]))) ?_
    first | rfl | (simp only [r_g, Nat.reduceAdd, ↓reduceIte, Nat.reduceEqDiff, zaw, zax, zaf, zag, shD]; first | done | rfl)
 ·have hke : k = sh.length := by simp at ht; omega
  have q5 : decide ((sh.length : Int) ≤ 8) = true := by simp; omega
  refine zbn (hK3 _ _ ?_)
  refine zac hp zak hc rfl fun K13 hK13 => ?_
  simp -dsimp -implicitDefEqProofs (disch := first | assumption | omega | (simp only [r_z, zaa, zae] <;> omega) | decide) only [r_r, ↓reduceIte, Nat.reduceEqDiff, Nat.reduceAdd, D.fix, Int.reduceToNat, Nat.reduceMul, Nat.reduceBNe, Nat.reduceBEq, zaw, zax, zaf, zag, shD, q5, zdj]
  refine hK13 _ _ ?_
  refine za4 ?_
  show closeA _ _ = _
  simp (disch := first | assumption | omega | (simp only [r_z, zaa, zae] <;> omega) | decide) only [r_c, Nat.reduceAdd, D.fix, ↓reduceIte, Nat.reduceEqDiff, zaw, zax, zaf, zag, shD]
  subst hke
  simp [zc3]
theorem jlr (a b m : Net) (sh : Sh) (V : Nat) (h1 : zbd Try.prog 39 [zaw a, zaw b] (.tup [.d (zaw m), .d (iD 0)])) (hsh : ShOk sh) (hi : m.ins.length ≤ 1000) (hV : zc3 m.ins.length sh = V) (hV60 : V ≤ 60) (h2 : zbd Try.prog 48 [zaw m, shD sh, intsD m.drive] (.tup [.d (zbw [] []), .d (iD 2)])) : zbd Try.prog 31 [zaw a, zaw b, shD sh] (.tup [.d (oD false), .d (boolsD []), .d (iD 2)]) := by
 have h3 := jeb m sh hsh hi
 rw [hV] at h3
 have q1 : decide ((60 : Int) < V) = false := by simp; omega
 refine zbg (fn := Try.f31) (by kernel_rfl) Try.func31 rfl (Nat.le_of_ble_eq_true rfl) fun c hc hp => ?_
 refine zbh (τ' := frL [(0, .d (zaw a)), (1, .d (zaw b)), (2, .d (shD sh))]) (by repeat (first | exact zam _ | refine zai ?_ (by first | rfl | (simp [r_f, zaa, zae]; done) | simp [r_f, zaa, zae, *]))) ?_
 refine zac hp zak hc rfl fun K1 hK1 => ?_
 simp -dsimp -implicitDefEqProofs (disch := first | assumption | omega | (simp only [r_z, zaa, zae] <;> omega) | decide) only [r_r, ↓reduceIte, Nat.reduceEqDiff, Nat.reduceAdd, D.fix, Int.reduceToNat, Nat.reduceMul, Nat.reduceBNe, Nat.reduceBEq, zaw, zax, zaf, zag, shD, zbw, zb1, zdj]
 refine hK1 _ _ ?_
 refine zac hp zak hc rfl fun K2 hK2 => ?_
 simp -dsimp -implicitDefEqProofs (disch := first | assumption | omega | (simp only [r_z, zaa, zae] <;> omega) | decide) only [r_r, ↓reduceIte, Nat.reduceEqDiff, Nat.reduceAdd, D.fix, Int.reduceToNat, Nat.reduceMul, Nat.reduceBNe, Nat.reduceBEq, zaw, zax, zaf, zag, shD, zbw, zb1, zdj]
 refine zb8 (h1) rfl ?_
 simp -dsimp -implicitDefEqProofs (disch := first | assumption | omega | (simp only [r_z, zaa, zae] <;> omega) | decide) only [r_r, ↓reduceIte, Nat.reduceEqDiff, Nat.reduceAdd, D.fix, Int.reduceToNat, Nat.reduceMul, Nat.reduceBNe, Nat.reduceBEq, zaw, zax, zaf, zag, shD, zbw, zb1, zdj]
 refine hK2 _ _ ?_
 refine zao fun K3 hK3 => ?_
 refine zac hp zak hc rfl fun K4 hK4 => ?_
 simp -dsimp -implicitDefEqProofs (disch := first | assumption | omega | (simp only [r_z, zaa, zae] <;> omega) | decide) only [r_r, ↓reduceIte, Nat.reduceEqDiff, Nat.reduceAdd, D.fix, Int.reduceToNat, Nat.reduceMul, Nat.reduceBNe, Nat.reduceBEq, zaw, zax, zaf, zag, shD, zbw, zb1, zdj]
 refine hK4 _ _ ?_
 refine zaq rfl (fun ht => ?_) (fun ht => ?_)
 ·cases ht
 ·refine zay (hK3 _ _ ?_)
  refine zac hp zak hc rfl fun K5 hK5 => ?_
  simp -dsimp -implicitDefEqProofs (disch := first | assumption | omega | (simp only [r_z, zaa, zae] <;> omega) | decide) only [r_r, ↓reduceIte, Nat.reduceEqDiff, Nat.reduceAdd, D.fix, Int.reduceToNat, Nat.reduceMul, Nat.reduceBNe, Nat.reduceBEq, zaw, zax, zaf, zag, shD, zbw, zb1, zdj]
  refine zb8 (h3) rfl ?_
  simp -dsimp -implicitDefEqProofs (disch := first | assumption | omega | (simp only [r_z, zaa, zae] <;> omega) | decide) only [r_r, ↓reduceIte, Nat.reduceEqDiff, Nat.reduceAdd, D.fix, Int.reduceToNat, Nat.reduceMul, Nat.reduceBNe, Nat.reduceBEq, zaw, zax, zaf, zag, shD, zbw, zb1, zdj]
  refine hK5 _ _ ?_
  refine zao fun K6 hK6 => ?_
  refine zaz ?_
  refine zac hp zak hc rfl fun K7 hK7 => ?_
  simp -dsimp -implicitDefEqProofs (disch := first | assumption | omega | (simp only [r_z, zaa, zae] <;> omega) | decide) only [r_r, ↓reduceIte, Nat.reduceEqDiff, Nat.reduceAdd, D.fix, Int.reduceToNat, Nat.reduceMul, Nat.reduceBNe, Nat.reduceBEq, zaw, zax, zaf, zag, shD, zbw, zb1, zdj]
  refine hK7 _ _ ?_
  refine zaq rfl (fun ht => ?_) (fun ht => ?_)
  ·cases ht
  ·refine zac hp zak hc rfl fun K8 hK8 => ?_
   simp -dsimp -implicitDefEqProofs (disch := first | assumption | omega | (simp only [r_z, zaa, zae] <;> omega) | decide) only [r_r, ↓reduceIte, Nat.reduceEqDiff, Nat.reduceAdd, D.fix, Int.reduceToNat, Nat.reduceMul, Nat.reduceBNe, Nat.reduceBEq, zaw, zax, zaf, zag, shD, zbw, zb1, q1, zdj]
   refine hK8 _ _ ?_
   refine zaq rfl (fun ht => ?_) (fun ht => ?_)
   ·cases ht
   ·refine zay (hK6 _ _ ?_)
    refine zac hp zak hc rfl fun K9 hK9 => ?_
    simp -dsimp -implicitDefEqProofs (disch := first | assumption | omega | (simp only [r_z, zaa, zae] <;> omega) | decide) only [r_r, ↓reduceIte, Nat.reduceEqDiff, Nat.reduceAdd, D.fix, Int.reduceToNat, Nat.reduceMul, Nat.reduceBNe, Nat.reduceBEq, zaw, zax, zaf, zag, shD, zbw, zb1, zdj]
    refine zb8 (h2) rfl ?_
    simp -dsimp -implicitDefEqProofs (disch := first | assumption | omega | (simp only [r_z, zaa, zae] <;> omega) | decide) only [r_r, ↓reduceIte, Nat.reduceEqDiff, Nat.reduceAdd, D.fix, Int.reduceToNat, Nat.reduceMul, Nat.reduceBNe, Nat.reduceBEq, zaw, zax, zaf, zag, shD, zbw, zb1, zdj]
    refine hK9 _ _ ?_
    refine zao fun K10 hK10 => ?_
    refine zac hp zak hc rfl fun K11 hK11 => ?_
    simp -dsimp -implicitDefEqProofs (disch := first | assumption | omega | (simp only [r_z, zaa, zae] <;> omega) | decide) only [r_r, ↓reduceIte, Nat.reduceEqDiff, Nat.reduceAdd, D.fix, Int.reduceToNat, Nat.reduceMul, Nat.reduceBNe, Nat.reduceBEq, zaw, zax, zaf, zag, shD, zbw, zb1, zdj]
    refine hK11 _ _ ?_
    refine zaq rfl (fun ht => ?_) (fun ht => ?_)
    ·refine zac hp zak hc rfl fun K12 hK12 => ?_
     simp -dsimp -implicitDefEqProofs (disch := first | assumption | omega | (simp only [r_z, zaa, zae] <;> omega) | decide) only [r_r, ↓reduceIte, Nat.reduceEqDiff, Nat.reduceAdd, D.fix, Int.reduceToNat, Nat.reduceMul, Nat.reduceBNe, Nat.reduceBEq, zaw, zax, zaf, zag, shD, zbw, zb1]
     refine hK12 _ _ ?_
     refine za4 ?_
     show closeA _ _ = _
     simp (disch := first | assumption | omega | (simp only [r_z, zaa, zae] <;> omega) | decide) only [r_c, Nat.reduceAdd, D.fix, ↓reduceIte, Nat.reduceEqDiff, zaw, zax, zaf, zag, shD, zbw, zb1]
    ·cases ht
theorem jjw (a b m : Net) (sh : Sh) (V : Nat) (h1 : zbd Try.prog 39 [zaw a, zaw b] (.tup [.d (zaw m), .d (iD 0)])) (hsh : ShOk sh) (hi : m.ins.length ≤ 1000) (hV : zc3 m.ins.length sh = V) (hV60 : V ≤ 60) (ns : List Nd) (r : Nat) (hnl : ns.length ≤ 1000000) (h2 : zbd Try.prog 48 [zaw m, shD sh, intsD m.drive] (.tup [.d (zbw ns [r]), .d (iD 0)])) (L : List Bool) (E : Int) (h4 : zbd Try.prog 49 [zbw ns [r], iD r, iD V] (.tup [.d (boolsD L), .d (iD E)])) (hE : E = 4 ∧ L = [] ∨ E = 0) : zbd Try.prog 31 [zaw a, zaw b, shD sh] (.tup [.d (oD (E == 4)), .d (boolsD L), .d (iD 0)]) := by
 have h3 := jeb m sh hsh hi
 rw [hV] at h3
 have q1 : decide ((60 : Int) < V) = false := by simp; omega
 refine zbg (fn := Try.f31) (by kernel_rfl) Try.func31 rfl (Nat.le_of_ble_eq_true rfl) fun c hc hp => ?_
 refine zbh (τ' := frL [(0, .d (zaw a)), (1, .d (zaw b)), (2, .d (shD sh))]) (by repeat (first | exact zam _ | refine zai ?_ (by first | rfl | (simp [r_f, zaa, zae, zad]; done) | simp [r_f, zaa, zae, zad, *]))) ?_
 refine zac hp zak hc rfl fun K1 hK1 => ?_
 simp -dsimp -implicitDefEqProofs (disch := first | assumption | omega | (simp only [r_z, zaa, zae, zad] <;> omega) | decide) only [r_r, ↓reduceIte, Nat.reduceEqDiff, Nat.reduceAdd, D.fix, Int.reduceToNat, Nat.reduceMul, Nat.reduceBNe, Nat.reduceBEq, zaw, zax, zaf, zag, shD, zbw, zb1, zdj]
 refine hK1 _ _ ?_
 refine zac hp zak hc rfl fun K2 hK2 => ?_
 simp -dsimp -implicitDefEqProofs (disch := first | assumption | omega | (simp only [r_z, zaa, zae, zad] <;> omega) | decide) only [r_r, ↓reduceIte, Nat.reduceEqDiff, Nat.reduceAdd, D.fix, Int.reduceToNat, Nat.reduceMul, Nat.reduceBNe, Nat.reduceBEq, zaw, zax, zaf, zag, shD, zbw, zb1, zdj]
 refine zb8 (h1) rfl ?_
 simp -dsimp -implicitDefEqProofs (disch := first | assumption | omega | (simp only [r_z, zaa, zae, zad] <;> omega) | decide) only [r_r, ↓reduceIte, Nat.reduceEqDiff, Nat.reduceAdd, D.fix, Int.reduceToNat, Nat.reduceMul, Nat.reduceBNe, Nat.reduceBEq, zaw, zax, zaf, zag, shD, zbw, zb1, zdj]
 refine hK2 _ _ ?_
 refine zao fun K3 hK3 => ?_
 refine zac hp zak hc rfl fun K4 hK4 => ?_
 simp -dsimp -implicitDefEqProofs (disch := first | assumption | omega | (simp only [r_z, zaa, zae, zad] <;> omega) | decide) only [r_r, ↓reduceIte, Nat.reduceEqDiff, Nat.reduceAdd, D.fix, Int.reduceToNat, Nat.reduceMul, Nat.reduceBNe, Nat.reduceBEq, zaw, zax, zaf, zag, shD, zbw, zb1, zdj]
 refine hK4 _ _ ?_
 refine zaq rfl (fun ht => ?_) (fun ht => ?_)
 ·cases ht
 ·refine zay (hK3 _ _ ?_)
  refine zac hp zak hc rfl fun K5 hK5 => ?_
  simp -dsimp -implicitDefEqProofs (disch := first | assumption | omega | (simp only [r_z, zaa, zae, zad] <;> omega) | decide) only [r_r, ↓reduceIte, Nat.reduceEqDiff, Nat.reduceAdd, D.fix, Int.reduceToNat, Nat.reduceMul, Nat.reduceBNe, Nat.reduceBEq, zaw, zax, zaf, zag, shD, zbw, zb1, zdj]
  refine zb8 (h3) rfl ?_
  simp -dsimp -implicitDefEqProofs (disch := first | assumption | omega | (simp only [r_z, zaa, zae, zad] <;> omega) | decide) only [r_r, ↓reduceIte, Nat.reduceEqDiff, Nat.reduceAdd, D.fix, Int.reduceToNat, Nat.reduceMul, Nat.reduceBNe, Nat.reduceBEq, zaw, zax, zaf, zag, shD, zbw, zb1, zdj]
  refine hK5 _ _ ?_
  refine zao fun K6 hK6 => ?_
  refine zaz ?_
  refine zac hp zak hc rfl fun K7 hK7 => ?_
  simp -dsimp -implicitDefEqProofs (disch := first | assumption | omega | (simp only [r_z, zaa, zae, zad] <;> omega) | decide) only [r_r, ↓reduceIte, Nat.reduceEqDiff, Nat.reduceAdd, D.fix, Int.reduceToNat, Nat.reduceMul, Nat.reduceBNe, Nat.reduceBEq, zaw, zax, zaf, zag, shD, zbw, zb1, zdj]
  refine hK7 _ _ ?_
  refine zaq rfl (fun ht => ?_) (fun ht => ?_)
  ·cases ht
  ·refine zac hp zak hc rfl fun K8 hK8 => ?_
   simp -dsimp -implicitDefEqProofs (disch := first | assumption | omega | (simp only [r_z, zaa, zae, zad] <;> omega) | decide) only [r_r, ↓reduceIte, Nat.reduceEqDiff, Nat.reduceAdd, D.fix, Int.reduceToNat, Nat.reduceMul, Nat.reduceBNe, Nat.reduceBEq, zaw, zax, zaf, zag, shD, zbw, zb1, q1, zdj]
   refine hK8 _ _ ?_
   refine zaq rfl (fun ht => ?_) (fun ht => ?_)
   ·cases ht
   ·refine zay (hK6 _ _ ?_)
    refine zac hp zak hc rfl fun K9 hK9 => ?_
    simp -dsimp -implicitDefEqProofs (disch := first | assumption | omega | (simp only [r_z, zaa, zae, zad] <;> omega) | decide) only [r_r, ↓reduceIte, Nat.reduceEqDiff, Nat.reduceAdd, D.fix, Int.reduceToNat, Nat.reduceMul, Nat.reduceBNe, Nat.reduceBEq, zaw, zax, zaf, zag, shD, zbw, zb1, zdj]
    refine zb8 (h2) rfl ?_
    simp -dsimp -implicitDefEqProofs (disch := first | assumption | omega | (simp only [r_z, zaa, zae, zad] <;> omega) | decide) only [r_r, ↓reduceIte, Nat.reduceEqDiff, Nat.reduceAdd, D.fix, Int.reduceToNat, Nat.reduceMul, Nat.reduceBNe, Nat.reduceBEq, zaw, zax, zaf, zag, shD, zbw, zb1, zdj]
    refine hK9 _ _ ?_
    refine zao fun K10 hK10 => ?_
    refine zac hp zak hc rfl fun K11 hK11 => ?_
    simp -dsimp -implicitDefEqProofs (disch := first | assumption | omega | (simp only [r_z, zaa, zae, zad] <;> omega) | decide) only [r_r, ↓reduceIte, Nat.reduceEqDiff, Nat.reduceAdd, D.fix, Int.reduceToNat, Nat.reduceMul, Nat.reduceBNe, Nat.reduceBEq, zaw, zax, zaf, zag, shD, zbw, zb1, zdj]
    refine hK11 _ _ ?_
    refine zaq rfl (fun ht => ?_) (fun ht => ?_)
    ·cases ht
    ·refine zay (hK10 _ _ ?_)
     refine zbp zak hc mixed rfl (q := 0) (by kernel_rfl) (by kernel_rfl) fun K12 hK12 => ?_
     simp -dsimp -implicitDefEqProofs (disch := first | assumption | omega | (simp only [r_z, zaa, zae, zad] <;> omega) | decide) only [r_r, ↓reduceIte, Nat.reduceEqDiff, Nat.reduceAdd, D.fix, Int.reduceToNat, Nat.reduceMul, Nat.reduceBNe, Nat.reduceBEq, zaw, zax, zaf, zag, shD, zbw, zb1, zbz, zdj]
     refine zb8 (h4) rfl ?_
     simp -dsimp -implicitDefEqProofs (disch := first | assumption | omega | (simp only [r_z, zaa, zae, zad] <;> omega) | decide) only [r_r, ↓reduceIte, Nat.reduceEqDiff, Nat.reduceAdd, D.fix, Int.reduceToNat, Nat.reduceMul, Nat.reduceBNe, Nat.reduceBEq, zaw, zax, zaf, zag, shD, zbw, zb1, zbz, zdj]
     refine hK12 _ _ ?_
     refine zao fun K13 hK13 => ?_
     refine zac hp zak hc rfl fun K14 hK14 => ?_
     rcases hE with ⟨rfl, rfl⟩ | rfl
     ·skip
      simp -dsimp -implicitDefEqProofs (disch := first | assumption | omega | (simp only [r_z, zaa, zae, zad] <;> omega) | decide) only [r_r, ↓reduceIte, Nat.reduceEqDiff, Nat.reduceAdd, D.fix, Int.reduceToNat, Nat.reduceMul, Nat.reduceBNe, Nat.reduceBEq, zaw, zax, zaf, zag, shD, zbw, zb1, zdj]
      refine hK14 _ _ ?_
      refine zaq rfl (fun ht => ?_) (fun ht => ?_)
      ·refine zac hp zak hc rfl fun K15 hK15 => ?_
       simp -dsimp -implicitDefEqProofs (disch := first | assumption | omega | (simp only [r_z, zaa, zae, zad] <;> omega) | decide) only [r_r, ↓reduceIte, Nat.reduceEqDiff, Nat.reduceAdd, D.fix, Int.reduceToNat, Nat.reduceMul, Nat.reduceBNe, Nat.reduceBEq, zaw, zax, zaf, zag, shD, zbw, zb1]
       refine hK15 _ _ ?_
       refine za4 ?_
       show closeA _ _ = _
       simp (disch := first | assumption | omega | (simp only [r_z, zaa, zae, zad] <;> omega) | decide) only [r_c, Nat.reduceAdd, D.fix, ↓reduceIte, Nat.reduceEqDiff, zaw, zax, zaf, zag, shD, zbw, zb1]
       rfl
      ·cases ht
     ·skip
      simp -dsimp -implicitDefEqProofs (disch := first | assumption | omega | (simp only [r_z, zaa, zae, zad] <;> omega) | decide) only [r_r, ↓reduceIte, Nat.reduceEqDiff, Nat.reduceAdd, D.fix, Int.reduceToNat, Nat.reduceMul, Nat.reduceBNe, Nat.reduceBEq, zaw, zax, zaf, zag, shD, zbw, zb1, zdj]
      refine hK14 _ _ ?_
      refine zaq rfl (fun ht => ?_) (fun ht => ?_)
      ·cases ht
      ·refine zay (hK13 _ _ ?_)
       refine zac hp zak hc rfl fun K16 hK16 => ?_
       simp -dsimp -implicitDefEqProofs (disch := first | assumption | omega | (simp only [r_z, zaa, zae, zad] <;> omega) | decide) only [r_r, ↓reduceIte, Nat.reduceEqDiff, Nat.reduceAdd, D.fix, Int.reduceToNat, Nat.reduceMul, Nat.reduceBNe, Nat.reduceBEq, zaw, zax, zaf, zag, shD, zbw, zb1]
       refine hK16 _ _ ?_
       refine za4 ?_
       show closeA _ _ = _
       simp (disch := first | assumption | omega | (simp only [r_z, zaa, zae, zad] <;> omega) | decide) only [r_c, Nat.reduceAdd, D.fix, ↓reduceIte, Nat.reduceEqDiff, zaw, zax, zaf, zag, shD, zbw, zb1]
       rfl
end Go.Proofs.Ytignimmnnccblaa

/- The law's small functions. -/
set_option linter.unusedVariables false
set_option linter.unusedSimpArgs false
set_option maxRecDepth 100000
set_option maxHeartbeats 4000000
namespace Go.Proofs.Ytignimmnnccblaa
open Go Go.RowKit
theorem zd3 : (((((((type_of% @zd1) ∧ (type_of% @zd2)) ∧ ((type_of% @zn0) ∧ (type_of% @zn1))) ∧ (((type_of% @zsb) ∧ (type_of% @zsa)) ∧ ((type_of% @zfd) ∧ (type_of% @zfe)))) ∧ ((((type_of% @zff) ∧ (type_of% @zfg)) ∧ ((type_of% @zl0) ∧ (type_of% @zl1))) ∧ (((type_of% @zhw) ∧ (type_of% @zhx)) ∧ ((type_of% @jer) ∧ ((type_of% @jes) ∧ (type_of% @zyw)))))) ∧ (((((type_of% @zlc) ∧ (type_of% @zld)) ∧ ((type_of% @zlg) ∧ (type_of% @zp9))) ∧ (((type_of% @zqa) ∧ (type_of% @znt)) ∧ ((type_of% @znu) ∧ (type_of% @zs1)))) ∧ ((((type_of% @zle) ∧ (type_of% @zlf)) ∧ ((type_of% @zkk) ∧ (type_of% @zkl))) ∧ (((type_of% @zkm) ∧ (type_of% @zqb)) ∧ ((type_of% @zqc) ∧ ((type_of% @zkg) ∧ (type_of% @zkh))))))) ∧ ((((((type_of% @zki) ∧ (type_of% @zkj)) ∧ ((type_of% @zsc) ∧ (type_of% @zsd))) ∧ (((type_of% @zse) ∧ (type_of% @zsf)) ∧ ((type_of% @zgi) ∧ (type_of% @zgj)))) ∧ ((((type_of% @zdm) ∧ (type_of% @zdn)) ∧ ((type_of% @zdo) ∧ (type_of% @zdv))) ∧ (((type_of% @ze4) ∧ (type_of% @ze5)) ∧ ((type_of% @ze7) ∧ ((type_of% @jpb) ∧ (type_of% @jpc)))))) ∧ (((((type_of% @jpd) ∧ (type_of% @jpe)) ∧ ((type_of% @jc4) ∧ (type_of% @jc5))) ∧ (((type_of% @jf0) ∧ (type_of% @jfz)) ∧ ((type_of% @zht) ∧ ((type_of% @zhs) ∧ (type_of% @jpi))))) ∧ ((((type_of% @jc8) ∧ (type_of% @jdb)) ∧ ((type_of% @jcw) ∧ (type_of% @jcx))) ∧ (((type_of% @jfy) ∧ (type_of% @jfx)) ∧ ((type_of% @jpa) ∧ ((type_of% @jc0) ∧ (type_of% @jc3)))))))) := ⟨⟨⟨⟨⟨⟨@zd1, @zd2⟩, ⟨@zn0, @zn1⟩⟩, ⟨⟨@zsb, @zsa⟩, ⟨@zfd, @zfe⟩⟩⟩, ⟨⟨⟨@zff, @zfg⟩, ⟨@zl0, @zl1⟩⟩, ⟨⟨@zhw, @zhx⟩, ⟨@jer, ⟨@jes, @zyw⟩⟩⟩⟩⟩, ⟨⟨⟨⟨@zlc, @zld⟩, ⟨@zlg, @zp9⟩⟩, ⟨⟨@zqa, @znt⟩, ⟨@znu, @zs1⟩⟩⟩, ⟨⟨⟨@zle, @zlf⟩, ⟨@zkk, @zkl⟩⟩, ⟨⟨@zkm, @zqb⟩, ⟨@zqc, ⟨@zkg, @zkh⟩⟩⟩⟩⟩⟩, ⟨⟨⟨⟨⟨@zki, @zkj⟩, ⟨@zsc, @zsd⟩⟩, ⟨⟨@zse, @zsf⟩, ⟨@zgi, @zgj⟩⟩⟩, ⟨⟨⟨@zdm, @zdn⟩, ⟨@zdo, @zdv⟩⟩, ⟨⟨@ze4, @ze5⟩, ⟨@ze7, ⟨@jpb, @jpc⟩⟩⟩⟩⟩, ⟨⟨⟨⟨@jpd, @jpe⟩, ⟨@jc4, @jc5⟩⟩, ⟨⟨@jf0, @jfz⟩, ⟨@zht, ⟨@zhs, @jpi⟩⟩⟩⟩, ⟨⟨⟨@jc8, @jdb⟩, ⟨@jcw, @jcx⟩⟩, ⟨⟨@jfy, @jfx⟩, ⟨@jpa, ⟨@jc0, @jc3⟩⟩⟩⟩⟩⟩⟩
def zck (is : Bool) (L : List Bool) (E : Int) : D := .agg [oD is, boolsD L, iD E]
theorem zls (a b : Net) (sh : Sh) (is : Bool) (L : List Bool) (E : Int) (h : zbd Try.prog 31 [zaw a, zaw b, shD sh] (.tup [.d (oD is), .d (boolsD L), .d (iD E)])) : zbd Try.prog 11 [zaw a, zaw b, shD sh] (.d (zck is L E)) := by
 refine zbg (fn := Try.f11) (by kernel_rfl) Try.func11 rfl (Nat.le_of_ble_eq_true rfl) fun c hc hp => ?_
 refine zbh (τ' := frL [(0, .d (zaw a)), (1, .d (zaw b)), (2, .d (shD sh))]) (by repeat (first | exact zam _ | refine zai ?_ (by first | rfl | (simp [r_f, zaa, zae, zab]; done) | simp [r_f, zaa, zae, zab, *]))) ?_
 refine zac hp zak hc rfl fun K1 hK1 => ?_
 simp -dsimp -implicitDefEqProofs (disch := first | assumption | omega | (simp only [r_z, zaa, zae, zab] <;> omega) | decide) only [r_r, ↓reduceIte, Nat.reduceEqDiff, Nat.reduceAdd, D.fix, Int.reduceToNat, Nat.reduceMul, Nat.reduceBNe, Nat.reduceBEq, zaw, zax, zaf, zag, shD, zck, zd3]
 refine hK1 _ _ ?_
 refine zac hp zak hc rfl fun K2 hK2 => ?_
 simp -dsimp -implicitDefEqProofs (disch := first | assumption | omega | (simp only [r_z, zaa, zae, zab] <;> omega) | decide) only [r_r, ↓reduceIte, Nat.reduceEqDiff, Nat.reduceAdd, D.fix, Int.reduceToNat, Nat.reduceMul, Nat.reduceBNe, Nat.reduceBEq, zaw, zax, zaf, zag, shD, zck, zd3]
 refine zb8 (h) rfl ?_
 simp -dsimp -implicitDefEqProofs (disch := first | assumption | omega | (simp only [r_z, zaa, zae, zab] <;> omega) | decide) only [r_r, ↓reduceIte, Nat.reduceEqDiff, Nat.reduceAdd, D.fix, Int.reduceToNat, Nat.reduceMul, Nat.reduceBNe, Nat.reduceBEq, zaw, zax, zaf, zag, shD, zck, zd3]
 refine hK2 _ _ ?_
 refine zac hp zak hc rfl fun K3 hK3 => ?_
 simp -dsimp -implicitDefEqProofs (disch := first | assumption | omega | (simp only [r_z, zaa, zae, zab] <;> omega) | decide) only [r_r, ↓reduceIte, Nat.reduceEqDiff, Nat.reduceAdd, D.fix, Int.reduceToNat, Nat.reduceMul, Nat.reduceBNe, Nat.reduceBEq, zaw, zax, zaf, zag, shD, zck, zd3]
 refine hK3 _ _ ?_
 refine za4 ?_
 try dsimp only [zjd, zcz]
 refine zdk rfl ?_
 simp -dsimp -implicitDefEqProofs (disch := first | assumption | omega | (simp only [r_z, zaa, zae, zab] <;> omega) | decide) only [r_r, ↓reduceIte, Nat.reduceEqDiff, Nat.reduceAdd, D.fix, Int.reduceToNat, Nat.reduceMul, Nat.reduceBNe, Nat.reduceBEq, zaw, zax, zaf, zag, shD, zck, zn0, zn1]
 show closeA _ _ = _
 simp (disch := first | assumption | omega | (simp only [r_z, zaa, zae, zab] <;> omega) | decide) only [r_c, Nat.reduceAdd, D.fix, ↓reduceIte, Nat.reduceEqDiff, zaw, zax, zaf, zag, shD, zck]
theorem jjx (i1 i2 : Bool) (l1 l2 : List Bool) (e1 e2 : Int) (h1 : l1.length ≤ maxLen) : zbd Try.prog 12 [zck i1 l1 e1, zck i2 l2 e2] (.d (oD ((i1 == i2) && ((e1 == e2) && decide (l1 = l2))))) := by
 refine zbg (fn := Try.f12) (by kernel_rfl) Try.func12 rfl (Nat.le_of_ble_eq_true rfl) fun c hc hp => ?_
 refine zbh (τ' := frL [(0, .d (zck i1 l1 e1)), (1, .d (zck i2 l2 e2))]) (by repeat (first | exact zam _ | refine zai ?_ (by first | rfl | (simp [r_f]; done) | simp [r_f, *]))) ?_
 refine zac hp zak hc rfl fun K1 hK1 => ?_
 simp -dsimp -implicitDefEqProofs (disch := first | assumption | omega | (simp only [r_z] <;> omega) | decide) only [r_r, ↓reduceIte, Nat.reduceEqDiff, Nat.reduceAdd, D.fix, Int.reduceToNat, Nat.reduceMul, Nat.reduceBNe, Nat.reduceBEq, zck, zd3]
 refine hK1 _ _ ?_
 refine zac hp zak hc rfl fun K2 hK2 => ?_
 rcases (show (i1 == i2) = false ∨ ((i1 == i2) = true ∧ (e1 == e2) = false) ∨ ((i1 == i2) = true ∧ (e1 == e2) = true) by cases (i1 == i2) <;> cases (e1 == e2) <;> simp) with q | ⟨q, q'⟩ | ⟨q, q'⟩
 ·have q' := q
  simp -dsimp -implicitDefEqProofs (disch := first | assumption | omega | (simp only [r_z] <;> omega) | decide) only [r_r, ↓reduceIte, Nat.reduceEqDiff, Nat.reduceAdd, D.fix, Int.reduceToNat, Nat.reduceMul, Nat.reduceBNe, Nat.reduceBEq, zck, q, q', zd3]
  refine hK2 _ _ ?_
  refine za4 ?_
  show closeA _ _ = _
  simp (disch := first | assumption | omega | (simp only [r_z] <;> omega) | decide) only [r_c, Nat.reduceAdd, D.fix, ↓reduceIte, Nat.reduceEqDiff, zck]
  rw [q]; rfl
 ·skip
  simp -dsimp -implicitDefEqProofs (disch := first | assumption | omega | (simp only [r_z] <;> omega) | decide) only [r_r, ↓reduceIte, Nat.reduceEqDiff, Nat.reduceAdd, D.fix, Int.reduceToNat, Nat.reduceMul, Nat.reduceBNe, Nat.reduceBEq, zck, q, q', zd3]
  refine hK2 _ _ ?_
  refine za4 ?_
  show closeA _ _ = _
  simp (disch := first | assumption | omega | (simp only [r_z] <;> omega) | decide) only [r_c, Nat.reduceAdd, D.fix, ↓reduceIte, Nat.reduceEqDiff, zck]
  rw [q, q']; rfl
 ·skip
  simp -dsimp -implicitDefEqProofs (disch := first | assumption | omega | (simp only [r_z] <;> omega) | decide) only [r_r, ↓reduceIte, Nat.reduceEqDiff, Nat.reduceAdd, D.fix, Int.reduceToNat, Nat.reduceMul, Nat.reduceBNe, Nat.reduceBEq, zck, q, q', zd3]
  refine zb8 (jdu l1 l2 h1) rfl ?_
  simp -dsimp -implicitDefEqProofs (disch := first | assumption | omega | (simp only [r_z] <;> omega) | decide) only [r_r, ↓reduceIte, Nat.reduceEqDiff, Nat.reduceAdd, D.fix, Int.reduceToNat, Nat.reduceMul, Nat.reduceBNe, Nat.reduceBEq, zck, q, q', zd3]
  refine hK2 _ _ ?_
  refine za4 ?_
  show closeA _ _ = _
  simp (disch := first | assumption | omega | (simp only [r_z] <;> omega) | decide) only [r_c, Nat.reduceAdd, D.fix, ↓reduceIte, Nat.reduceEqDiff, zck]
  rw [q, q']; simp
def zqr (n : Net) (sh : Sh) (l : List Bool) : List Bool := zqp (zty n.gates (zmq n.ins.length l) (zg3 n.ins.length sh l)) n.drive
theorem zco (v : List Bool) (dr : List Int) : (zqp v dr).length = dr.length := by simp [zqp]
theorem jgw (n : Net) (sh : Sh) (l : List Bool) : (zqr n sh l).length = n.drive.length := by simp [zqr, zqp]
theorem zsy (n : Net) (sh : Sh) (l : List Bool) (hi : n.ins.length ≤ 9) (hg : n.gates.length ≤ 200) (hgo : GatesOk (2 + n.ins.length) n.gates) (hd : DriveOk (2 + n.ins.length + n.gates.length) n.drive) (hdl : n.drive.length ≤ 1000) (hsh : ShOk sh) (hl : l.length ≤ maxLen) : zbd Try.prog 15 [zaw n, shD sh, boolsD l] (.d (boolsD (zqr n sh l))) := by
 have hvl := jdx n n.ins.length l (zg3 n.ins.length sh l)
 refine zbg (fn := Try.f15) (by kernel_rfl) Try.func15 rfl (Nat.le_of_ble_eq_true rfl) fun c hc hp => ?_
 refine zbh (τ' := frL [(0, .d (zaw n)), (1, .d (shD sh)), (2, .d (boolsD l))]) (by repeat (first | exact zam _ | refine zai ?_ (by first | rfl | (simp [r_f, zaa, zae, zab, zco]; done) | simp [r_f, zaa, zae, zab, zco, *]))) ?_
 refine zac hp zak hc rfl fun K1 hK1 => ?_
 simp -dsimp -implicitDefEqProofs (disch := first | assumption | omega | (simp only [r_z, zaa, zae, zab, zco] <;> omega) | decide) only [r_r, ↓reduceIte, Nat.reduceEqDiff, Nat.reduceAdd, D.fix, Int.reduceToNat, Nat.reduceMul, Nat.reduceBNe, Nat.reduceBEq, zaw, zax, zaf, zag, shD, zd3]
 refine hK1 _ _ ?_
 refine zbp zak hc mixed rfl (q := 0) (by kernel_rfl) (by kernel_rfl) fun K2 hK2 => ?_
 simp -dsimp -implicitDefEqProofs (disch := first | assumption | omega | (simp only [r_z, zaa, zae, zab, zco] <;> omega) | decide) only [r_r, ↓reduceIte, Nat.reduceEqDiff, Nat.reduceAdd, D.fix, Int.reduceToNat, Nat.reduceMul, Nat.reduceBNe, Nat.reduceBEq, zaw, zax, zaf, zag, shD, zd3]
 refine zb8 (jgk n l hl (by omega) (by omega)) rfl ?_
 simp -dsimp -implicitDefEqProofs (disch := first | assumption | omega | (simp only [r_z, zaa, zae, zab, zco] <;> omega) | decide) only [r_r, ↓reduceIte, Nat.reduceEqDiff, Nat.reduceAdd, D.fix, Int.reduceToNat, Nat.reduceMul, Nat.reduceBNe, Nat.reduceBEq, zaw, zax, zaf, zag, shD, zd3]
 refine zb8 (jq1 n sh l hsh hl (by omega)) rfl ?_
 simp -dsimp -implicitDefEqProofs (disch := first | assumption | omega | (simp only [r_z, zaa, zae, zab, zco] <;> omega) | decide) only [r_r, ↓reduceIte, Nat.reduceEqDiff, Nat.reduceAdd, D.fix, Int.reduceToNat, Nat.reduceMul, Nat.reduceBNe, Nat.reduceBEq, zaw, zax, zaf, zag, shD, zd3]
 refine zb8 (jqy n (zmq n.ins.length l) (zg3 n.ins.length sh l) (by rw [zir]; exact hgo) (by rw [zir]; omega) (by omega)) rfl ?_
 simp -dsimp -implicitDefEqProofs (disch := first | assumption | omega | (simp only [r_z, zaa, zae, zab, zco] <;> omega) | decide) only [r_r, ↓reduceIte, Nat.reduceEqDiff, Nat.reduceAdd, D.fix, Int.reduceToNat, Nat.reduceMul, Nat.reduceBNe, Nat.reduceBEq, zaw, zax, zaf, zag, shD, zd3]
 obtain ⟨v, hv⟩ : ∃ v, v = zty n.gates (zmq n.ins.length l) (zg3 n.ins.length sh l) := ⟨_, rfl⟩
 have hres : zqr n sh l = zqp v n.drive := by rw [hv]; rfl
 rw [← hv] at hvl ⊢
 refine hK2 _ _ ?_
 refine zac hp zak hc rfl fun K3 hK3 => ?_
 simp -dsimp -implicitDefEqProofs (disch := first | assumption | omega | (simp only [r_z, zaa, zae, zab, zco] <;> omega) | decide) only [r_r, ↓reduceIte, Nat.reduceEqDiff, Nat.reduceAdd, D.fix, Int.reduceToNat, Nat.reduceMul, Nat.reduceBNe, Nat.reduceBEq, zaw, zax, zaf, zag, shD, zd3]
 refine hK3 _ _ ?_
 refine zao fun K4 hK4 => ?_
 refine zac hp zak hc rfl fun K5 hK5 => ?_
 simp -dsimp -implicitDefEqProofs (disch := first | assumption | omega | (simp only [r_z, zaa, zae, zab, zco] <;> omega) | decide) only [r_r, ↓reduceIte, Nat.reduceEqDiff, Nat.reduceAdd, D.fix, Int.reduceToNat, Nat.reduceMul, Nat.reduceBNe, Nat.reduceBEq, zaw, zax, zaf, zag, shD]
 refine hK5 _ _ ?_
 refine zaz ?_
 refine zbb hp (fun τ' H' mm => ∃ (k : Nat), (k ≤ n.drive.length) ∧ mm = n.drive.length - k ∧ H' = [.cells (avs (zax n)), .cells (avs ((zqp v (n.drive.take k)).map oD))] ∧ τ' = frL [(3, .op 0 0), (7, .d (boolsD v)), (8, .os 1 1 0 k), (9, .d (iD k))]) (n.drive.length) ?_ ⟨0, Nat.zero_le _, rfl, rfl, rfl⟩ ?_
 ·refine Rt.trans (Rt.gc (keep := [0,1]) (by decide) (by decide) (by simp [fzH, gcH])) ?_
  refine Rt.end (by repeat (first | exact zam _ | refine zai ?_ (by first | rfl | (simp [r_f, zaa, zae, zab, zco]; done) | simp [r_f, zaa, zae, zab, zco, *]))) ?_
  first | rfl | (simp only [r_g, Nat.reduceAdd, ↓reduceIte, Nat.reduceEqDiff, zaw, zax, zaf, zag, shD]; first | done | rfl)
 rintro τ' H' mm ⟨k, hk, rfl, rfl, rfl⟩
 refine zao fun K6 hK6 => ?_
 refine zac hp zak hc rfl fun K7 hK7 => ?_
 simp -dsimp -implicitDefEqProofs (disch := first | assumption | omega | (simp only [r_z, zaa, zae, zab, zco] <;> omega) | decide) only [r_r, ↓reduceIte, Nat.reduceEqDiff, Nat.reduceAdd, D.fix, Int.reduceToNat, Nat.reduceMul, Nat.reduceBNe, Nat.reduceBEq, zaw, zax, zaf, zag, shD, zd3]
 refine hK7 _ _ ?_
 refine zaq rfl (fun ht => ?_) (fun ht => ?_)
 ·have hlt : k < n.drive.length := by simp at ht; omega
  have hdk := hd k hlt
  have q1 : decide (nth n.drive k < (v.length : Int)) = true := by simp; omega
  refine zay (hK6 _ _ ?_)
  refine zao fun K8 hK8 => ?_
  refine zaz ?_
  refine zbt hp zak hc rfl fun K9 hK9 => ?_
  simp -dsimp -implicitDefEqProofs (disch := first | assumption | omega | (simp only [r_z, zaa, zae, zab, zco] <;> omega) | decide) only [r_r, ↓reduceIte, Nat.reduceEqDiff, Nat.reduceAdd, D.fix, Int.reduceToNat, Nat.reduceMul, Nat.reduceBNe, Nat.reduceBEq, zaw, zax, zaf, zag, shD, zc2, q1, zd3]
  refine hK9 _ _ (hK8 _ _ ?_)
  refine zbt hp zak hc rfl fun K10 hK10 => ?_
  simp -dsimp -implicitDefEqProofs (disch := first | assumption | omega | (simp only [r_z, zaa, zae, zab, zco] <;> omega) | decide) only [r_r, ↓reduceIte, Nat.reduceEqDiff, Nat.reduceAdd, D.fix, Int.reduceToNat, Nat.reduceMul, Nat.reduceBNe, Nat.reduceBEq, zaw, zax, zaf, zag, shD, zd3]
  refine hK10 _ _ ⟨_, _, _, ?_, ⟨k + 1, by omega, rfl, rfl, rfl⟩, ?_⟩
  ·first | omega | (simp only [List.length_cons]; omega) | (dsimp only; omega)
  ·refine Rt.trans (Rt.gc (keep := [0,3]) (by decide) (by decide) (by simp [fzH, gcH])) ?_
   refine Rt.end (by repeat (first | exact zam _ | refine zai ?_ (by first | rfl | (simp [r_f, zaa, zae, zab, zco]; done) | simp [r_f, zaa, zae, zab, zco, *]))) ?_
   simp only [r_g, Nat.reduceAdd, ↓reduceIte, Nat.reduceEqDiff, zaw, zax, zaf, zag, shD]; rw [zdx hlt]; simp [zqp, oD]
 ·have hke : k = n.drive.length := by simp at ht; omega
  subst hke
  rw [List.take_length]
  refine zbn (hK4 _ _ ?_)
  refine zac hp zak hc rfl fun K11 hK11 => ?_
  simp -dsimp -implicitDefEqProofs (disch := first | assumption | omega | (simp only [r_z, zaa, zae, zab, zco] <;> omega) | decide) only [r_r, ↓reduceIte, Nat.reduceEqDiff, Nat.reduceAdd, D.fix, Int.reduceToNat, Nat.reduceMul, Nat.reduceBNe, Nat.reduceBEq, zaw, zax, zaf, zag, shD]
  refine hK11 _ _ ?_
  refine za4 ?_
  show closeA _ _ = _
  simp (disch := first | assumption | omega | (simp only [r_z, zaa, zae, zab, zco] <;> omega) | decide) only [r_c, Nat.reduceAdd, D.fix, ↓reduceIte, Nat.reduceEqDiff, zaw, zax, zaf, zag, shD]
  rw [hres]; simp [boolsD, zco]
def zma : List Bool → List Bool → Bool
 | x :: a, y :: b => if x = y then zma a b else y
 | _, _ => false
theorem jrl (a b : List Bool) (hl : a.length = b.length) (hm : a.length ≤ maxLen) : zbd Try.prog 16 [boolsD a, boolsD b] (.d (oD (zma a b))) := by
 unfold maxLen at hm
 refine zbg (fn := Try.f16) (by kernel_rfl) Try.func16 rfl (Nat.le_of_ble_eq_true rfl) fun c hc hp => ?_
 refine zbh (τ' := frL [(0, .d (boolsD a)), (1, .d (boolsD b))]) (by repeat (first | exact zam _ | refine zai ?_ (by first | rfl | (simp [r_f]; done) | simp [r_f, *]))) ?_
 refine zac hp zak hc rfl fun K1 hK1 => ?_
 simp -dsimp -implicitDefEqProofs (disch := first | assumption | omega | (simp only [r_z] <;> omega) | decide) only [r_r, ↓reduceIte, Nat.reduceEqDiff, Nat.reduceAdd, D.fix, Int.reduceToNat, Nat.reduceMul, Nat.reduceBNe, Nat.reduceBEq]
 refine hK1 _ _ ?_
 refine zao fun K2 hK2 => ?_
 refine zac hp zak hc rfl fun K3 hK3 => ?_
 simp -dsimp -implicitDefEqProofs (disch := first | assumption | omega | (simp only [r_z] <;> omega) | decide) only [r_r, ↓reduceIte, Nat.reduceEqDiff, Nat.reduceAdd, D.fix, Int.reduceToNat, Nat.reduceMul, Nat.reduceBNe, Nat.reduceBEq]
 refine hK3 _ _ ?_
 refine zaz ?_
 refine zbb hp (fun τ' H' mm => ∃ (k : Nat), (k ≤ a.length ∧ zma a b = zma (a.drop k) (b.drop k)) ∧ mm = a.length - k ∧ H' = [] ∧ τ' = frL [(0, .d (boolsD a)), (1, .d (boolsD b)), (5, .d (iD k))]) (a.length) ?_ ⟨0, ⟨Nat.zero_le _, rfl⟩, rfl, rfl, rfl⟩ ?_
 ·refine Rt.end (by repeat (first | exact zam _ | refine zai ?_ (by first | rfl | (simp [r_f]; done) | simp [r_f, *]))) ?_
  first | rfl | (simp only [r_g, Nat.reduceAdd, ↓reduceIte, Nat.reduceEqDiff]; first | done | rfl)
 rintro τ' H' mm ⟨k, ⟨hk, hls⟩, rfl, rfl, rfl⟩
 refine zao fun K4 hK4 => ?_
 refine zac hp zak hc rfl fun K5 hK5 => ?_
 by_cases hlt : k < a.length
 ·have q1 : decide ((k : Int) < a.length) = true := by simp; omega
  have q2 : decide ((k : Int) < b.length) = true := by simp; omega
  have hst : zma a b = if nth a k = nth b k then zma (a.drop (k + 1)) (b.drop (k + 1)) else nth b k := by
   rw [hls, zqm hlt, zqm (l := b) (by omega)]; rfl
  simp -dsimp -implicitDefEqProofs (disch := first | assumption | omega | (simp only [r_z] <;> omega) | decide) only [r_r, ↓reduceIte, Nat.reduceEqDiff, Nat.reduceAdd, D.fix, Int.reduceToNat, Nat.reduceMul, Nat.reduceBNe, Nat.reduceBEq, q1, q2, zd3]
  refine hK5 _ _ ?_
  refine zaq rfl (fun ht => ?_) (fun ht => ?_)
  ·refine zay (hK4 _ _ ?_)
   refine zao fun K6 hK6 => ?_
   refine zaz ?_
   refine zbp zak hc mixed rfl (q := 0) (by kernel_rfl) (by kernel_rfl) fun K7 hK7 => ?_
   simp -dsimp -implicitDefEqProofs (disch := first | assumption | omega | (simp only [r_z] <;> omega) | decide) only [r_r, ↓reduceIte, Nat.reduceEqDiff, Nat.reduceAdd, D.fix, Int.reduceToNat, Nat.reduceMul, Nat.reduceBNe, Nat.reduceBEq, zc2, zd3]
   refine hK7 _ _ ?_
   refine zaq rfl (fun ht => ?_) (fun ht => ?_)
   ·have hne : ¬ nth a k = nth b k := by simpa using ht
    refine zac hp zak hc rfl fun K8 hK8 => ?_
    simp -dsimp -implicitDefEqProofs (disch := first | assumption | omega | (simp only [r_z] <;> omega) | decide) only [r_r, ↓reduceIte, Nat.reduceEqDiff, Nat.reduceAdd, D.fix, Int.reduceToNat, Nat.reduceMul, Nat.reduceBNe, Nat.reduceBEq, zc2, zd3]
    refine hK8 _ _ ?_
    refine za4 ?_
    show closeA _ _ = _
    simp (disch := first | assumption | omega | (simp only [r_z] <;> omega) | decide) only [r_c, Nat.reduceAdd, D.fix, ↓reduceIte, Nat.reduceEqDiff]
    rw [hst, if_neg hne]
   ·have heq : nth a k = nth b k := by simpa using ht
    refine zay (hK6 _ _ ?_)
    refine zbt hp zak hc rfl fun K9 hK9 => ?_
    simp -dsimp -implicitDefEqProofs (disch := first | assumption | omega | (simp only [r_z] <;> omega) | decide) only [r_r, ↓reduceIte, Nat.reduceEqDiff, Nat.reduceAdd, D.fix, Int.reduceToNat, Nat.reduceMul, Nat.reduceBNe, Nat.reduceBEq, zd3]
    refine hK9 _ _ ⟨_, _, _, ?_, ⟨k + 1, ⟨by omega, by rw [hst, if_pos heq]⟩, rfl, rfl, rfl⟩, ?_⟩
    ·first | omega | (simp only [List.length_cons]; omega) | (dsimp only; omega)
    ·refine Rt.end (by repeat (first | exact zam _ | refine zai ?_ (by first | rfl | (simp [r_f]; done) | simp [r_f, *]))) ?_
     first | rfl | (simp only [r_g, Nat.reduceAdd, ↓reduceIte, Nat.reduceEqDiff]; first | done | rfl)
  ·cases ht
 ·have q1 : decide ((k : Int) < a.length) = false := by simp; omega
  have q2 := q1
  simp -dsimp -implicitDefEqProofs (disch := first | assumption | omega | (simp only [r_z] <;> omega) | decide) only [r_r, ↓reduceIte, Nat.reduceEqDiff, Nat.reduceAdd, D.fix, Int.reduceToNat, Nat.reduceMul, Nat.reduceBNe, Nat.reduceBEq, q1, q2, zd3]
  refine hK5 _ _ ?_
  refine zaq rfl (fun ht => ?_) (fun ht => ?_)
  ·cases ht
  ·refine zbn (hK2 _ _ ?_)
   refine zac hp zak hc rfl fun K10 hK10 => ?_
   simp -dsimp -implicitDefEqProofs (disch := first | assumption | omega | (simp only [r_z] <;> omega) | decide) only [r_r, ↓reduceIte, Nat.reduceEqDiff, Nat.reduceAdd, D.fix, Int.reduceToNat, Nat.reduceMul, Nat.reduceBNe, Nat.reduceBEq]
   refine hK10 _ _ ?_
   refine za4 ?_
   show closeA _ _ = _
   simp (disch := first | assumption | omega | (simp only [r_z] <;> omega) | decide) only [r_c, Nat.reduceAdd, D.fix, ↓reduceIte, Nat.reduceEqDiff]
   rw [hls, List.drop_eq_nil_of_le (by omega)]; rfl
theorem jls (a b m : Net) (h : zbd Try.prog 39 [zaw a, zaw b] (.tup [.d (zaw m), .d (iD 0)])) : zbd Try.prog 24 [zaw a, zaw b] (.d (.agg (zax m ++ [iD 0]))) := by
 refine zbg (fn := Try.f24) (by kernel_rfl) Try.func24 rfl (Nat.le_of_ble_eq_true rfl) fun c hc hp => ?_
 refine zbh (τ' := frL [(0, .d (zaw a)), (1, .d (zaw b))]) (by repeat (first | exact zam _ | refine zai ?_ (by first | rfl | (simp [r_f, zaa, zab]; done) | simp [r_f, zaa, zab, *]))) ?_
 refine zac hp zak hc rfl fun K1 hK1 => ?_
 simp -dsimp -implicitDefEqProofs (disch := first | assumption | omega | (simp only [r_z, zaa, zab] <;> omega) | decide) only [r_r, ↓reduceIte, Nat.reduceEqDiff, Nat.reduceAdd, D.fix, Int.reduceToNat, Nat.reduceMul, Nat.reduceBNe, Nat.reduceBEq, zaw, zax, zaf, zag, List.cons_append, List.nil_append, zd3]
 refine hK1 _ _ ?_
 refine zac hp zak hc rfl fun K2 hK2 => ?_
 simp -dsimp -implicitDefEqProofs (disch := first | assumption | omega | (simp only [r_z, zaa, zab] <;> omega) | decide) only [r_r, ↓reduceIte, Nat.reduceEqDiff, Nat.reduceAdd, D.fix, Int.reduceToNat, Nat.reduceMul, Nat.reduceBNe, Nat.reduceBEq, zaw, zax, zaf, zag, List.cons_append, List.nil_append, zd3]
 refine zb8 (h) rfl ?_
 simp -dsimp -implicitDefEqProofs (disch := first | assumption | omega | (simp only [r_z, zaa, zab] <;> omega) | decide) only [r_r, ↓reduceIte, Nat.reduceEqDiff, Nat.reduceAdd, D.fix, Int.reduceToNat, Nat.reduceMul, Nat.reduceBNe, Nat.reduceBEq, zaw, zax, zaf, zag, List.cons_append, List.nil_append, zd3]
 refine hK2 _ _ ?_
 refine zac hp zak hc rfl fun K3 hK3 => ?_
 simp -dsimp -implicitDefEqProofs (disch := first | assumption | omega | (simp only [r_z, zaa, zab] <;> omega) | decide) only [r_r, ↓reduceIte, Nat.reduceEqDiff, Nat.reduceAdd, D.fix, Int.reduceToNat, Nat.reduceMul, Nat.reduceBNe, Nat.reduceBEq, zaw, zax, zaf, zag, List.cons_append, List.nil_append, zd3]
 refine hK3 _ _ ?_
 refine za4 ?_
 try dsimp only [zjd, zcz]
 refine zdk rfl ?_
 simp -dsimp -implicitDefEqProofs (disch := first | assumption | omega | (simp only [r_z, zaa, zab] <;> omega) | decide) only [r_r, ↓reduceIte, Nat.reduceEqDiff, Nat.reduceAdd, D.fix, Int.reduceToNat, Nat.reduceMul, Nat.reduceBNe, Nat.reduceBEq, zaw, zax, zaf, zag, List.cons_append, List.nil_append, jc4, jc5]
 show closeA _ _ = _
 simp (disch := first | assumption | omega | (simp only [r_z, zaa, zab] <;> omega) | decide) only [r_c, Nat.reduceAdd, D.fix, ↓reduceIte, Nat.reduceEqDiff, zaw, zax, zaf, zag, List.cons_append, List.nil_append]
def clD (L : List Int) (E : Int) : D := .agg [intsD L, iD E]
theorem jec (n : Net) (sh : Sh) (L : List Int) (E : Int) (h : zbd Try.prog 32 [zaw n, shD sh] (.tup [.d (intsD L), .d (iD E)])) : zbd Try.prog 17 [zaw n, shD sh] (.d (clD L E)) := by
 refine zbg (fn := Try.f17) (by kernel_rfl) Try.func17 rfl (Nat.le_of_ble_eq_true rfl) fun c hc hp => ?_
 refine zbh (τ' := frL [(0, .d (zaw n)), (1, .d (shD sh))]) (by repeat (first | exact zam _ | refine zai ?_ (by first | rfl | (simp [r_f, zaa, zae, zab]; done) | simp [r_f, zaa, zae, zab, *]))) ?_
 refine zac hp zak hc rfl fun K1 hK1 => ?_
 simp -dsimp -implicitDefEqProofs (disch := first | assumption | omega | (simp only [r_z, zaa, zae, zab] <;> omega) | decide) only [r_r, ↓reduceIte, Nat.reduceEqDiff, Nat.reduceAdd, D.fix, Int.reduceToNat, Nat.reduceMul, Nat.reduceBNe, Nat.reduceBEq, zaw, zax, zaf, zag, shD, clD, zd3]
 refine hK1 _ _ ?_
 refine zac hp zak hc rfl fun K2 hK2 => ?_
 simp -dsimp -implicitDefEqProofs (disch := first | assumption | omega | (simp only [r_z, zaa, zae, zab] <;> omega) | decide) only [r_r, ↓reduceIte, Nat.reduceEqDiff, Nat.reduceAdd, D.fix, Int.reduceToNat, Nat.reduceMul, Nat.reduceBNe, Nat.reduceBEq, zaw, zax, zaf, zag, shD, clD, zd3]
 refine zb8 (h) rfl ?_
 simp -dsimp -implicitDefEqProofs (disch := first | assumption | omega | (simp only [r_z, zaa, zae, zab] <;> omega) | decide) only [r_r, ↓reduceIte, Nat.reduceEqDiff, Nat.reduceAdd, D.fix, Int.reduceToNat, Nat.reduceMul, Nat.reduceBNe, Nat.reduceBEq, zaw, zax, zaf, zag, shD, clD, zd3]
 refine hK2 _ _ ?_
 refine zac hp zak hc rfl fun K3 hK3 => ?_
 simp -dsimp -implicitDefEqProofs (disch := first | assumption | omega | (simp only [r_z, zaa, zae, zab] <;> omega) | decide) only [r_r, ↓reduceIte, Nat.reduceEqDiff, Nat.reduceAdd, D.fix, Int.reduceToNat, Nat.reduceMul, Nat.reduceBNe, Nat.reduceBEq, zaw, zax, zaf, zag, shD, clD, zd3]
 refine hK3 _ _ ?_
 refine za4 ?_
 try dsimp only [zjd, zcz]
 refine zdk rfl ?_
 simp -dsimp -implicitDefEqProofs (disch := first | assumption | omega | (simp only [r_z, zaa, zae, zab] <;> omega) | decide) only [r_r, ↓reduceIte, Nat.reduceEqDiff, Nat.reduceAdd, D.fix, Int.reduceToNat, Nat.reduceMul, Nat.reduceBNe, Nat.reduceBEq, zaw, zax, zaf, zag, shD, clD, jcw, jcx]
 show closeA _ _ = _
 simp (disch := first | assumption | omega | (simp only [r_z, zaa, zae, zab] <;> omega) | decide) only [r_c, Nat.reduceAdd, D.fix, ↓reduceIte, Nat.reduceEqDiff, zaw, zax, zaf, zag, shD, clD]
end Go.Proofs.Ytignimmnnccblaa
