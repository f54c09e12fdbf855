/- Copies and comparisons of rows. -/
import Derived.Test.YtignimmnnccblaaQr
import Derived.Test.YtignimmnnccblaaMa
set_option linter.unusedVariables false
set_option linter.unusedSimpArgs false
set_option maxRecDepth 100000
set_option maxHeartbeats 4000000
namespace Go.Proofs.Ytignimmnnccblaa
open Go Go.RowKit
theorem zn8 : ((((type_of% @zfw) ∧ ((type_of% @zfx) ∧ (type_of% @zfy))) ∧ (((type_of% @zfz) ∧ (type_of% @ze9)) ∧ ((type_of% @zfa) ∧ (type_of% @zfc)))) ∧ ((((type_of% @zsz) ∧ (type_of% @zs0)) ∧ ((type_of% @zg1) ∧ (type_of% @zg2))) ∧ (((type_of% @zg3) ∧ (type_of% @zg4)) ∧ ((type_of% @zlz) ∧ (type_of% @zl0))))) := ⟨⟨⟨@zfw, ⟨@zfx, @zfy⟩⟩, ⟨⟨@zfz, @ze9⟩, ⟨@zfa, @zfc⟩⟩⟩, ⟨⟨⟨@zsz, @zs0⟩, ⟨@zg1, @zg2⟩⟩, ⟨⟨@zg3, @zg4⟩, ⟨@zlz, @zl0⟩⟩⟩⟩
theorem jq8 {P : Program} {c : Cx} {x : Code} {Q : Exit → Fr → zaq → Prop} {τ : Fr} {H : zaq} (t : Nat) (ht : τ t = .d (.fs [] 0))
  (h : ∀ (a : Option Addr) (cap : Nat), cap ≤ maxLen → (a = none → cap = 0) → AWp P c x Q (τ.put (some t) (.d (.val (.slice a 0 cap)))) H) : AWp P c x Q τ H := fun ac w hR => by
 obtain ⟨pl, hS⟩ := hR
 have h1 := hS.fr t
 rw [ht] at h1
 have key : ∀ a cap, ac.tmps.getD t undef = .slice a 0 cap → R c (τ.put (some t) (.d (.val (.slice a 0 cap)))) H [] ac w := fun a cap e =>
  ⟨pl, hS.h, hS.stp, hS.own0, hS.ext, fun t' => by
   by_cases ht' : t' = t
   ·subst ht'
    rw [e]
    simp only [Fr.put, if_pos]
    exact .d _ _ (.val _)
   ·simp only [Fr.put, if_neg ht']
    exact hS.fr t', hS.size, hS.defs, hS.keep⟩
 cases h1 with
 | d _ _ h1 =>
  generalize hv : ac.tmps.getD t undef = v at h1
  cases h1 with
  | f0 a cap hm hn => exact h a cap hm hn ac w (key a cap hv)
  | fs _ _ cap b off f hb ho hn hm hc h1 hx => exact h _ cap hm (fun e => by cases e) ac w (key _ cap hv)
theorem Imp.f0 {a : Option Addr} {cap : Nat} (hm : cap ≤ maxLen) (hn : a = none → cap = 0) : Imp (.d (.val (.slice a 0 cap))) (.d (.fs [] 0)) := fun _ _ _ v h => by
 cases h with
 | d _ _ h => cases h; exact .d _ _ (.f0 a cap hm hn)
theorem jg0 (l : List Wire) (hl : l.length ≤ 1000000) : zbf Try.prog 57 [zaf l, zaf l] (.d (oD true)) := by
 refine zbi (fn := Try.f57) (by kernel_rfl) Try.func57 rfl (Nat.le_of_ble_eq_true rfl) fun c hc hp => ?_
 refine zbk (τ' := frL [(0, .d (zaf l)), (1, .d (zaf l))]) (by repeat (first | exact zal _ | refine zai ?_ (by first | rfl | (simp [r_f, zaa]; done) | simp [r_f, zaa, *]))) ?_
 refine zac hp zaj hc rfl fun K1 hK1 => ?_
 simp -dsimp -implicitDefEqProofs (disch := first | assumption | omega | (simp only [r_z, zaa] <;> omega) | decide) only [r_r, ↓reduceIte, Nat.reduceEqDiff, Nat.reduceAdd, D.fix, Int.reduceToNat, Nat.reduceMul, Nat.reduceBNe, Nat.reduceBEq, zaf, zek, za7, zbn, r_e]
 refine hK1 _ _ ?_
 refine zan fun K2 hK2 => ?_
 refine zac hp zaj hc rfl fun K3 hK3 => ?_
 simp -dsimp -implicitDefEqProofs (disch := first | assumption | omega | (simp only [r_z, zaa] <;> omega) | decide) only [r_r, ↓reduceIte, Nat.reduceEqDiff, Nat.reduceAdd, D.fix, Int.reduceToNat, Nat.reduceMul, Nat.reduceBNe, Nat.reduceBEq, zaf, zek, za7, zbn, r_e, zn8]
 refine hK3 _ _ ?_
 refine zap rfl (fun ht => ?_) (fun ht => ?_)
 ·simp at ht
 ·refine za0 (hK2 _ _ ?_)
  refine zan fun K4 hK4 => ?_
  refine zac hp zaj hc rfl fun K5 hK5 => ?_
  simp -dsimp -implicitDefEqProofs (disch := first | assumption | omega | (simp only [r_z, zaa] <;> omega) | decide) only [r_r, ↓reduceIte, Nat.reduceEqDiff, Nat.reduceAdd, D.fix, Int.reduceToNat, Nat.reduceMul, Nat.reduceBNe, Nat.reduceBEq, zaf, zek, za7, zbn, r_e, zn8]
  refine hK5 _ _ ?_
  refine za1 ?_
  refine zbd hp (fun τ' H' mm => ∃ (k : Nat), (k ≤ l.length) ∧ mm = l.length - k ∧ H' = [] ∧ τ' = frL [(0, .d (zaf l)), (1, .d (zaf l)), (12, .d (iD l.length)), (13, .d (iD k))]) (l.length) ?_ ⟨0, Nat.zero_le _, rfl, rfl, rfl⟩ ?_
  ·refine Rt.end (by repeat (first | exact zal _ | refine zai ?_ (by first | rfl | (simp [r_f, zaa]; done) | simp [r_f, zaa, *]))) ?_
   first | rfl | (simp only [r_g, Nat.reduceAdd, ↓reduceIte, Nat.reduceEqDiff, zaf, zek, za7, zbn, r_e]; first | done | rfl)
  rintro τ' H' mm ⟨k, hk, rfl, rfl, rfl⟩
  refine zac hp zaj hc rfl fun K6 hK6 => ?_
  simp -dsimp -implicitDefEqProofs (disch := first | assumption | omega | (simp only [r_z, zaa] <;> omega) | decide) only [r_r, ↓reduceIte, Nat.reduceEqDiff, Nat.reduceAdd, D.fix, Int.reduceToNat, Nat.reduceMul, Nat.reduceBNe, Nat.reduceBEq, zaf, zek, za7, zbn, r_e, zn8]
  refine hK6 _ _ ?_
  refine zan fun K7 hK7 => ?_
  refine zap rfl (fun ht => ?_) (fun ht => ?_)
  ·have hlt : k < l.length := by simp at ht; omega
   refine za0 (hK7 _ _ ?_)
   refine zan fun K8 hK8 => ?_
   refine za1 ?_
   refine zac hp zaj hc rfl fun K9 hK9 => ?_
   simp -dsimp -implicitDefEqProofs (disch := first | assumption | omega | (simp only [r_z, zaa] <;> omega) | decide) only [r_r, ↓reduceIte, Nat.reduceEqDiff, Nat.reduceAdd, D.fix, Int.reduceToNat, Nat.reduceMul, Nat.reduceBNe, Nat.reduceBEq, zaf, zek, za7, zbn, r_e]
   refine hK9 _ _ ?_
   refine zbr zaj hc mixed rfl (q := 0) (by kernel_rfl) (by kernel_rfl) fun K10 hK10 => ?_
   simp -dsimp -implicitDefEqProofs (disch := first | assumption | omega | (simp only [r_z, zaa] <;> omega) | decide) only [r_r, ↓reduceIte, Nat.reduceEqDiff, Nat.reduceAdd, D.fix, Int.reduceToNat, Nat.reduceMul, Nat.reduceBNe, Nat.reduceBEq, zaf, zek, za7, zbn, r_e, zn8, jh4 jo8, jh4 jo8]
   refine hK10 _ _ ?_
   refine zap rfl (fun ht => ?_) (fun ht => ?_)
   ·simp at ht
   ·refine za0 (hK8 _ _ ?_)
    refine zbt hp zaj hc rfl fun K11 hK11 => ?_
    simp -dsimp -implicitDefEqProofs (disch := first | assumption | omega | (simp only [r_z, zaa] <;> omega) | decide) only [r_r, ↓reduceIte, Nat.reduceEqDiff, Nat.reduceAdd, D.fix, Int.reduceToNat, Nat.reduceMul, Nat.reduceBNe, Nat.reduceBEq, zaf, zek, za7, zbn, r_e, zn8]
    refine hK11 _ _ ⟨_, _, _, ?_, ⟨k + 1, by omega, rfl, rfl, rfl⟩, ?_⟩
    ·first | omega | (simp only [List.length_cons]; omega) | (dsimp only; omega)
    ·refine Rt.end (by repeat (first | exact zal _ | refine zai ?_ (by first | rfl | (simp [r_f, zaa]; done) | simp [r_f, zaa, *]))) ?_
     first | rfl | (simp only [r_g, Nat.reduceAdd, ↓reduceIte, Nat.reduceEqDiff, zaf, zek, za7, zbn, r_e]; first | done | rfl)
  ·refine zbl (hK4 _ _ ?_)
   refine zac hp zaj hc rfl fun K12 hK12 => ?_
   simp -dsimp -implicitDefEqProofs (disch := first | assumption | omega | (simp only [r_z, zaa] <;> omega) | decide) only [r_r, ↓reduceIte, Nat.reduceEqDiff, Nat.reduceAdd, D.fix, Int.reduceToNat, Nat.reduceMul, Nat.reduceBNe, Nat.reduceBEq, zaf, zek, za7, zbn, r_e]
   refine hK12 _ _ ?_
   refine za6 ?_
   show closeA _ _ = _
   simp (disch := first | assumption | omega | (simp only [r_z, zaa] <;> omega) | decide) only [r_c, Nat.reduceAdd, D.fix, ↓reduceIte, Nat.reduceEqDiff, zaf, zek, za7, zbn, r_e]
theorem zyg {P : Program} {t : TypeId} (h : ziy P t = true) {a : Option Addr} {n c n' c' : Nat} : zfv P .eql t (.slice a n c) (.slice none n' c') = some (.bool a.isNone) := by simp [zfv, h]
def jsu (l : List Gate) (x : AV) (S' : zaq) : Prop := ∃ n, n = l.length ∧ x = .os 5 0 0 n ∧ S' = [.cells (avs (l.flatMap zar))]
theorem jll : ScS Try.prog [] 59 [.d (zag [])] ([.free]) (jsu []) := by
 refine zhe (fn := Try.f59) (by kernel_rfl) Try.func59 rfl (Nat.le_of_ble_eq_true rfl) fun c hc hp => ?_
 refine jbo ?_
 refine zac hp zaj hc rfl fun K1 hK1 => ?_
 simp -dsimp -implicitDefEqProofs (disch := first | assumption | omega | (simp only [r_z, zab] <;> omega) | decide) only [r_r, ↓reduceIte, Nat.reduceEqDiff, Nat.reduceAdd, D.fix, Int.reduceToNat, Nat.reduceMul, Nat.reduceBNe, Nat.reduceBEq, zag, List.flatMap_nil, List.length_nil]
 refine hK1 _ _ ?_
 refine zan fun K2 hK2 => ?_
 refine jq8 0 rfl fun a cap hm hn => ?_
 have hst : ziy Try.prog 30 = true := by kernel_rfl
 refine zac hp zaj hc rfl fun K3 hK3 => ?_
 rcases a with _ | a
 ·simp -dsimp -implicitDefEqProofs (disch := first | assumption | omega | (simp only [r_z, zab] <;> omega) | decide) only [r_r, ↓reduceIte, Nat.reduceEqDiff, Nat.reduceAdd, D.fix, Int.reduceToNat, Nat.reduceMul, Nat.reduceBNe, Nat.reduceBEq, zag, List.flatMap_nil, List.length_nil, zyg hst, Option.isNone_none, Option.isNone_some, zn8]
  refine hK3 _ _ ?_
  refine zap rfl (fun ht => ?_) (fun ht => ?_)
  ·refine zac hp zaj hc rfl fun K4 hK4 => ?_
   simp -dsimp -implicitDefEqProofs (disch := first | assumption | omega | (simp only [r_z, zab] <;> omega) | decide) only [r_r, ↓reduceIte, Nat.reduceEqDiff, Nat.reduceAdd, D.fix, Int.reduceToNat, Nat.reduceMul, Nat.reduceBNe, Nat.reduceBEq, zag, List.flatMap_nil, List.length_nil]
   refine hK4 _ _ ?_
   refine zb3 hp (τ' := frL [(2, .os 5 0 0 0)]) (H' := [.cells []]) ?_ ?_
   ·refine Rt.trans (Rt.nil 2 5 rfl) ?_
    refine Rt.trans (Rt.gc (keep := [1]) (by decide) (by decide) (by simp [fzH, gcH])) ?_
    refine Rt.end (by repeat (first | exact zal _ | refine zai ?_ (by first | rfl | (simp [r_f, zab]; done) | simp [r_f, zab, *]))) ?_
    first | rfl | (simp only [r_g, Nat.reduceAdd, ↓reduceIte, Nat.reduceEqDiff, zag, List.flatMap_nil, List.length_nil]; first | done | rfl)
   refine za6 ?_
   refine zbs (t := 2) rfl ?_
   show ∃ _, _
   exact ⟨_, rfl, rfl, rfl⟩
  ·cases ht
 ·simp -dsimp -implicitDefEqProofs (disch := first | assumption | omega | (simp only [r_z, zab] <;> omega) | decide) only [r_r, ↓reduceIte, Nat.reduceEqDiff, Nat.reduceAdd, D.fix, Int.reduceToNat, Nat.reduceMul, Nat.reduceBNe, Nat.reduceBEq, zag, List.flatMap_nil, List.length_nil, zyg hst, Option.isNone_none, Option.isNone_some, zn8]
  refine hK3 _ _ ?_
  refine zap rfl (fun ht => ?_) (fun ht => ?_)
  ·cases ht
  ·refine za0 (hK2 _ _ ?_)
   refine zb3 hp (τ' := frL [(0, .d (.fs [] 0))]) (H' := [.free]) ?_ ?_
   ·refine Rt.trans (Rt.put 0 (Imp.f0 hm hn)) ?_
    refine Rt.end (by repeat (first | exact zal _ | refine zai ?_ (by first | rfl | (simp [r_f, zab]; done) | simp [r_f, zab, *]))) ?_
    first | rfl | (simp only [r_g, Nat.reduceAdd, ↓reduceIte, Nat.reduceEqDiff, zag, List.flatMap_nil, List.length_nil]; first | done | rfl)
   refine zac hp zaj hc rfl fun K5 hK5 => ?_
   simp -dsimp -implicitDefEqProofs (disch := first | assumption | omega | (simp only [r_z, zab] <;> omega) | decide) only [r_r, ↓reduceIte, Nat.reduceEqDiff, Nat.reduceAdd, D.fix, Int.reduceToNat, Nat.reduceMul, Nat.reduceBNe, Nat.reduceBEq, zag, List.flatMap_nil, List.length_nil, zn8]
   refine hK5 _ _ ?_
   refine zb3 hp (τ' := frL [(2, .os 5 0 0 0)]) (H' := [.cells []]) ?_ ?_
   ·refine Rt.trans (Rt.gc (keep := [2]) (by decide) (by decide) (by simp [fzH, gcH])) ?_
    refine Rt.end (by repeat (first | exact zal _ | refine zai ?_ (by first | rfl | (simp [r_f, zab]; done) | simp [r_f, zab, *]))) ?_
    first | rfl | (simp only [r_g, Nat.reduceAdd, ↓reduceIte, Nat.reduceEqDiff, zag, List.flatMap_nil, List.length_nil]; first | done | rfl)
   refine za6 ?_
   refine zbs (t := 2) rfl ?_
   show ∃ _, _
   exact ⟨_, rfl, rfl, rfl⟩
theorem jlm (l : List Gate) (hl : l.length ≤ 1000000) (h0 : 0 < l.length) : ScS Try.prog [] 59 [.d (zag l)] ([.free]) (jsu l) := by
 refine zhe (fn := Try.f59) (by kernel_rfl) Try.func59 rfl (Nat.le_of_ble_eq_true rfl) fun c hc hp => ?_
 refine jbo ?_
 refine zac hp zaj hc rfl fun K1 hK1 => ?_
 simp -dsimp -implicitDefEqProofs (disch := first | assumption | omega | (simp only [r_z, zab] <;> omega) | decide) only [r_r, ↓reduceIte, Nat.reduceEqDiff, Nat.reduceAdd, D.fix, Int.reduceToNat, Nat.reduceMul, Nat.reduceBNe, Nat.reduceBEq, zag]
 refine hK1 _ _ ?_
 refine zan fun K2 hK2 => ?_
 have hnil : zr0 Try.prog .eql 30 (.d (.fs (l.flatMap zar) l.length)) (.d (.val (.slice none 0 0))) = some (.d (.val (.bool false))) := jfd Try.underlying30 h0
 refine zac hp zaj hc rfl fun K3 hK3 => ?_
 simp -dsimp -implicitDefEqProofs (disch := first | assumption | omega | (simp only [r_z, zab] <;> omega) | decide) only [r_r, ↓reduceIte, Nat.reduceEqDiff, Nat.reduceAdd, D.fix, Int.reduceToNat, Nat.reduceMul, Nat.reduceBNe, Nat.reduceBEq, zag, hnil, zn8]
 refine hK3 _ _ ?_
 refine zap rfl (fun ht => ?_) (fun ht => ?_)
 ·cases ht
 ·refine za0 (hK2 _ _ ?_)
  refine zac hp zaj hc rfl fun K4 hK4 => ?_
  simp -dsimp -implicitDefEqProofs (disch := first | assumption | omega | (simp only [r_z, zab] <;> omega) | decide) only [r_r, ↓reduceIte, Nat.reduceEqDiff, Nat.reduceAdd, D.fix, Int.reduceToNat, Nat.reduceMul, Nat.reduceBNe, Nat.reduceBEq, zag, zn8]
  refine hK4 _ _ ?_
  refine zb3 hp (τ' := frL [(2, .os 5 0 0 l.length)]) (H' := [.cells (avs (l.flatMap zar))]) ?_ ?_
  ·refine Rt.trans (Rt.gc (keep := [2]) (by decide) (by decide) (by simp [fzH, gcH])) ?_
   refine Rt.end (by repeat (first | exact zal _ | refine zai ?_ (by first | rfl | (simp [r_f, zab]; done) | simp [r_f, zab, *]))) ?_
   first | rfl | (simp only [r_g, Nat.reduceAdd, ↓reduceIte, Nat.reduceEqDiff, zag]; first | done | rfl)
  refine za6 ?_
  refine zbs (t := 2) rfl ?_
  show ∃ _, _
  exact ⟨_, rfl, rfl, rfl⟩
theorem jln (l : List Gate) (hl : l.length ≤ 1000000) : ScS Try.prog [] 59 [.d (zag l)] [.free] (jsu l) := by
 rcases l with _ | ⟨g, l⟩
 ·exact jll
 ·exact jlm _ hl (by simp)
end Go.Proofs.Ytignimmnnccblaa

/- The miter, as the program builds it. -/
set_option linter.unusedVariables false
set_option linter.unusedSimpArgs false
set_option maxRecDepth 100000
set_option maxHeartbeats 4000000
namespace Go.Proofs.Ytignimmnnccblaa
open Go Go.RowKit
theorem zc1 : ((((((type_of% @ze9) ∧ ((type_of% @zfa) ∧ (type_of% @zfc))) ∧ (((type_of% @zdu) ∧ (type_of% @zdv)) ∧ ((type_of% @zds) ∧ (type_of% @zdt)))) ∧ ((((type_of% @zg1) ∧ (type_of% @zg2)) ∧ ((type_of% @zg3) ∧ (type_of% @zg4))) ∧ (((type_of% @zjq) ∧ (type_of% @zjr)) ∧ ((type_of% @zhq) ∧ (type_of% @zhr))))) ∧ (((((type_of% @zg6) ∧ (type_of% @zg5)) ∧ ((type_of% @zdc) ∧ (type_of% @zdd))) ∧ (((type_of% @zfw) ∧ (type_of% @zfx)) ∧ ((type_of% @zfy) ∧ (type_of% @zfz)))) ∧ ((((type_of% @zmn) ∧ (type_of% @zmo)) ∧ ((type_of% @zre) ∧ (type_of% @zlc))) ∧ (((type_of% @zld) ∧ (type_of% @jro)) ∧ ((type_of% @jrn) ∧ (type_of% @zy6)))))) ∧ ((((((type_of% @zlg) ∧ (type_of% @zlh)) ∧ ((type_of% @zli) ∧ (type_of% @zsz))) ∧ (((type_of% @zs0) ∧ (type_of% @zy5)) ∧ ((type_of% @zy4) ∧ (type_of% @zst)))) ∧ ((((type_of% @zib) ∧ (type_of% @zic)) ∧ ((type_of% @zid) ∧ (type_of% @zie))) ∧ (((type_of% @zl5) ∧ (type_of% @zl4)) ∧ ((type_of% @zgm) ∧ (type_of% @zgn))))) ∧ (((((type_of% @zgo) ∧ (type_of% @zgp)) ∧ ((type_of% @zgq) ∧ (type_of% @zgr))) ∧ (((type_of% @zgk) ∧ (type_of% @zgl)) ∧ ((type_of% @zdf) ∧ (type_of% @zdg)))) ∧ ((((type_of% @zdh) ∧ (type_of% @zdq)) ∧ ((type_of% @zs1) ∧ (type_of% @zik))) ∧ (((type_of% @zil) ∧ (type_of% @zim)) ∧ ((type_of% @zin) ∧ (type_of% @zio))))))) := ⟨⟨⟨⟨⟨@ze9, ⟨@zfa, @zfc⟩⟩, ⟨⟨@zdu, @zdv⟩, ⟨@zds, @zdt⟩⟩⟩, ⟨⟨⟨@zg1, @zg2⟩, ⟨@zg3, @zg4⟩⟩, ⟨⟨@zjq, @zjr⟩, ⟨@zhq, @zhr⟩⟩⟩⟩, ⟨⟨⟨⟨@zg6, @zg5⟩, ⟨@zdc, @zdd⟩⟩, ⟨⟨@zfw, @zfx⟩, ⟨@zfy, @zfz⟩⟩⟩, ⟨⟨⟨@zmn, @zmo⟩, ⟨@zre, @zlc⟩⟩, ⟨⟨@zld, @jro⟩, ⟨@jrn, @zy6⟩⟩⟩⟩⟩, ⟨⟨⟨⟨⟨@zlg, @zlh⟩, ⟨@zli, @zsz⟩⟩, ⟨⟨@zs0, @zy5⟩, ⟨@zy4, @zst⟩⟩⟩, ⟨⟨⟨@zib, @zic⟩, ⟨@zid, @zie⟩⟩, ⟨⟨@zl5, @zl4⟩, ⟨@zgm, @zgn⟩⟩⟩⟩, ⟨⟨⟨⟨@zgo, @zgp⟩, ⟨@zgq, @zgr⟩⟩, ⟨⟨@zgk, @zgl⟩, ⟨@zdf, @zdg⟩⟩⟩, ⟨⟨⟨@zdh, @zdq⟩, ⟨@zs1, @zik⟩⟩, ⟨⟨@zil, @zim⟩, ⟨@zin, @zio⟩⟩⟩⟩⟩⟩
theorem Rt.fr1 {m : List Nat} {τ : Fr} {H : zaq} : Rt m τ H τ (H ++ [.free]) := fun c a w _ h => R.reserve 1 H h
theorem ztf {l m : List Wire} (h : m = l) (hl : l.length ≤ 1000000) : zbf Try.prog 57 [zaf l, zaf m] (.d (oD true)) := by subst h; exact jg0 m hl
theorem zyh (a b : Int) : a + (b + 1) - 1 = a + b := by omega
def zbq : AObj := .cells [.d (.val (.slice none 0 0)), .d (.val (.slice none 0 0)), .d (.val (.slice none 0 0)), .d (.val (.slice none 0 0))]
def zcj (a b : Net) : zaq := [.cells (avs (zaz a)), .cells (avs (zaz b)), zbq, .cells [.d (iD (2 + a.ins.length))]]
def zck (a b : Net) (l : List Gate) : zaq := zcj a b ++ [.cells [.d (zaf a.ins), .os 5 5 0 l.length, .d (.fs (zbn ⟨6, 0, 0⟩) 1), .d (.val (.slice none 0 0))], .cells (avs (l.flatMap zar))]
def jt8 (S : zaq) (y x : AV) (S' : zaq) : Prop := ∃ z, z = y ∧ x = z ∧ S' = S
def jt9 (a b : Net) (l : List Gate) (g : Gate) (x : AV) (S' : zaq) : Prop := ∃ m, m = l ++ [g] ∧ x = .d (iD (2 + a.ins.length + l.length)) ∧ S' = zck a b m
theorem zra (a b : Net) (x : Int) (hi : a.ins.length ≤ 1000) (hg : a.gates.length ≤ 1000) (hx0 : 0 ≤ x) (hx1 : x ≤ 1000000) : ScS Try.prog [0, 1, 2, 3] 58 [.d (iD x), .op 3 0, .op 0 0] (zcj a b) (jt8 (zcj a b) (.d (iD (mvI (2 + a.ins.length) a.gates.length x)))) := by
 refine zhe (fn := Try.f58) (by kernel_rfl) Try.func58 rfl (Nat.le_of_ble_eq_true rfl) fun c hc hp => ?_
 refine jbq ?_
 unfold zcj zbq
 refine zac hp zaj hc rfl fun K1 hK1 => ?_
 simp -dsimp -implicitDefEqProofs (disch := first | assumption | omega | (simp only [r_z, zab, zaa] <;> omega) | decide) only [r_r, ↓reduceIte, Nat.reduceEqDiff, Nat.reduceAdd, D.fix, Int.reduceToNat, Nat.reduceMul, Nat.reduceBNe, Nat.reduceBEq, zaz, zaf, zag]
 refine hK1 _ _ ?_
 refine zan fun K2 hK2 => ?_
 refine zac hp zaj hc rfl fun K3 hK3 => ?_
 by_cases q : x < 2 + (a.ins.length : Int)
 ·have e : mvI (2 + a.ins.length) a.gates.length x = x := by unfold mvI; rw [if_pos (by omega)]
  simp -dsimp -implicitDefEqProofs (disch := first | assumption | omega | (simp only [r_z, zab, zaa] <;> omega) | decide) only [r_r, ↓reduceIte, Nat.reduceEqDiff, Nat.reduceAdd, D.fix, Int.reduceToNat, Nat.reduceMul, Nat.reduceBNe, Nat.reduceBEq, zaz, zaf, zag, q, decide_true, decide_false, zc1]
  refine hK3 _ _ ?_
  refine zap rfl (fun ht => ?_) (fun ht => ?_)
  ·refine zac hp zaj hc rfl fun K4 hK4 => ?_
   simp -dsimp -implicitDefEqProofs (disch := first | assumption | omega | (simp only [r_z, zab, zaa] <;> omega) | decide) only [r_r, ↓reduceIte, Nat.reduceEqDiff, Nat.reduceAdd, D.fix, Int.reduceToNat, Nat.reduceMul, Nat.reduceBNe, Nat.reduceBEq, zaz, zaf, zag]
   refine hK4 _ _ ?_
   refine za6 ?_
   refine zbs (t := 4) rfl ?_
   show ∃ _, _
   exact ⟨_, rfl, by rw [e]; rfl, rfl⟩
  ·cases ht
 ·have e : mvI (2 + a.ins.length) a.gates.length x = x + a.gates.length := by unfold mvI; rw [if_neg (by omega)]
  simp -dsimp -implicitDefEqProofs (disch := first | assumption | omega | (simp only [r_z, zab, zaa] <;> omega) | decide) only [r_r, ↓reduceIte, Nat.reduceEqDiff, Nat.reduceAdd, D.fix, Int.reduceToNat, Nat.reduceMul, Nat.reduceBNe, Nat.reduceBEq, zaz, zaf, zag, q, decide_true, decide_false, zc1]
  refine hK3 _ _ ?_
  refine zap rfl (fun ht => ?_) (fun ht => ?_)
  ·cases ht
  ·refine za0 (hK2 _ _ ?_)
   refine zac hp zaj hc rfl fun K5 hK5 => ?_
   simp -dsimp -implicitDefEqProofs (disch := first | assumption | omega | (simp only [r_z, zab, zaa] <;> omega) | decide) only [r_r, ↓reduceIte, Nat.reduceEqDiff, Nat.reduceAdd, D.fix, Int.reduceToNat, Nat.reduceMul, Nat.reduceBNe, Nat.reduceBEq, zaz, zaf, zag, zc1]
   refine hK5 _ _ ?_
   refine za6 ?_
   refine zbs (t := 4) rfl ?_
   show ∃ _, _
   exact ⟨_, rfl, by rw [e]; rfl, rfl⟩
theorem jlo (a b : Net) (l : List Gate) (g : Gate) (hi : a.ins.length ≤ 1000) (hl : l.length ≤ 10000) : ScS Try.prog [0, 1, 2, 3, 4] 60 [.agg ((zar g).map .d), .op 4 0, .op 3 0] (zck a b l) (jt9 a b l g) := by
 refine zhe (fn := Try.f60) (by kernel_rfl) Try.func60 rfl (Nat.le_of_ble_eq_true rfl) fun c hc hp => ?_
 refine jbq ?_
 unfold zck zcj zbq
 refine zac hp zaj hc rfl fun K1 hK1 => ?_
 simp -dsimp -implicitDefEqProofs (disch := first | assumption | omega | (simp only [r_z, zab, zaa] <;> omega) | decide) only [r_r, ↓reduceIte, Nat.reduceEqDiff, Nat.reduceAdd, D.fix, Int.reduceToNat, Nat.reduceMul, Nat.reduceBNe, Nat.reduceBEq, zaz, zaf, zag, zar, zc1]
 refine hK1 _ _ ?_
 refine zac hp zaj hc rfl fun K2 hK2 => ?_
 simp -dsimp -implicitDefEqProofs (disch := first | assumption | omega | (simp only [r_z, zab, zaa] <;> omega) | decide) only [r_r, ↓reduceIte, Nat.reduceEqDiff, Nat.reduceAdd, D.fix, Int.reduceToNat, Nat.reduceMul, Nat.reduceBNe, Nat.reduceBEq, zaz, zaf, zag, zar, zc1]
 refine hK2 _ _ ?_
 refine zac hp zaj hc rfl fun K3 hK3 => ?_
 simp -dsimp -implicitDefEqProofs (disch := first | assumption | omega | (simp only [r_z, zab, zaa] <;> omega) | decide) only [r_r, ↓reduceIte, Nat.reduceEqDiff, Nat.reduceAdd, D.fix, Int.reduceToNat, Nat.reduceMul, Nat.reduceBNe, Nat.reduceBEq, zaz, zaf, zag, zar, zc1]
 refine hK3 _ _ ?_
 refine zb3 hp (τ' := frL [(4, .d (iD (2 + a.ins.length + l.length)))]) (H' := zck a b (l ++ [g])) ?_ ?_
 ·refine Rt.trans (Rt.gc (keep := [0,1,2,3,4,8]) (by decide) (by decide) (by simp [fzH, gcH])) ?_
  refine Rt.end (by repeat (first | exact zal _ | refine zai ?_ (by first | rfl | (simp [r_f, zab, zaa, zyh]; done) | simp [r_f, zab, zaa, zyh, *]))) ?_
  simp only [r_g, Nat.reduceAdd, ↓reduceIte, Nat.reduceEqDiff, zaz, zaf, zag, zar]; simp [zck, zcj, zbq, zaz, zaf, zag, zar, avs, iD, intsD]
 refine za6 ?_
 refine zbs (t := 4) rfl ?_
 show ∃ _, _
 exact ⟨_, rfl, rfl, rfl⟩
def gA6 (g : Gate) : AObj := .cells ((zar g).map .d)
def zcn (a b : Net) (l : List Gate) : zaq := [.cells [.d (zaf a.ins), .os 5 5 0 l.length, .d (.fs (zbn ⟨6, 0, 0⟩) 1), .d (.val (.slice none 0 0))], .cells (avs (l.flatMap zar))]
def jer (base : Nat) (i : Nat) : List D := (List.range i).map fun j => iD ((base + j : Nat) : Int)
theorem zba (base i : Nat) : (jer base i).length = i := by simp [jer]
theorem jlp {base n i : Nat} (h : i < n) : (jer base n)[i]? = some (iD ((base + i : Nat) : Int)) := by simp [jer, h]
def jd3 (base k : Nat) (i : Nat) : Int := if i = 0 then 0 else zyf base k (i - 1)
theorem jd4 (a b : Net) (hI : b.ins = a.ins) (hO : b.out = a.out) (hm : MitOk (2 + a.ins.length) a b) (hi : a.ins.length ≤ 100) (ho : a.out.length ≤ 1000) (hga : a.gates.length ≤ 200) (hgb : b.gates.length ≤ 200) (hd : 1 ≤ a.drive.length) (hd9 : a.drive.length ≤ 20) : zbf Try.prog 39 [zas a, zas b] (.tup [.d (zas (zkz a b)), .d (iD 0)]) := by
 have hdl := hm.dl
 refine zbi (fn := Try.f39) (by kernel_rfl) Try.func39 rfl (Nat.le_of_ble_eq_true rfl) fun c hc hp => ?_
 refine zbk (τ' := frL [(0, .d (zas a)), (1, .d (zas b))]) (by repeat (first | exact zal _ | refine zai ?_ (by first | rfl | (simp [r_f, zab, zaa, zba]; done) | simp [r_f, zab, zaa, zba, *]))) ?_
 refine zac hp zaj hc rfl fun K1 hK1 => ?_
 simp -dsimp -implicitDefEqProofs (disch := first | assumption | omega | (simp only [r_z, zab, zaa, zba] <;> omega) | decide) only [r_r, ↓reduceIte, Nat.reduceEqDiff, Nat.reduceAdd, D.fix, Int.reduceToNat, Nat.reduceMul, Nat.reduceBNe, Nat.reduceBEq, zas, zaz, zaf, zag, zck, zcj, zcn, zbq, gA6, zar, List.cons_append, List.nil_append, zc1]
 refine hK1 _ _ ?_
 refine zan fun K2 hK2 => ?_
 refine zac hp zaj hc rfl fun K3 hK3 => ?_
 simp -dsimp -implicitDefEqProofs (disch := first | assumption | omega | (simp only [r_z, zab, zaa, zba] <;> omega) | decide) only [r_r, ↓reduceIte, Nat.reduceEqDiff, Nat.reduceAdd, D.fix, Int.reduceToNat, Nat.reduceMul, Nat.reduceBNe, Nat.reduceBEq, zas, zaz, zaf, zag, zck, zcj, zcn, zbq, gA6, zar, List.cons_append, List.nil_append, zc1]
 refine zb8 (ztf hI (by omega)) rfl ?_
 simp -dsimp -implicitDefEqProofs (disch := first | assumption | omega | (simp only [r_z, zab, zaa, zba] <;> omega) | decide) only [r_r, ↓reduceIte, Nat.reduceEqDiff, Nat.reduceAdd, D.fix, Int.reduceToNat, Nat.reduceMul, Nat.reduceBNe, Nat.reduceBEq, zas, zaz, zaf, zag, zck, zcj, zcn, zbq, gA6, zar, List.cons_append, List.nil_append, zc1]
 refine zb8 (ztf hO (by omega)) rfl ?_
 simp -dsimp -implicitDefEqProofs (disch := first | assumption | omega | (simp only [r_z, zab, zaa, zba] <;> omega) | decide) only [r_r, ↓reduceIte, Nat.reduceEqDiff, Nat.reduceAdd, D.fix, Int.reduceToNat, Nat.reduceMul, Nat.reduceBNe, Nat.reduceBEq, zas, zaz, zaf, zag, zck, zcj, zcn, zbq, gA6, zar, List.cons_append, List.nil_append, zc1]
 refine hK3 _ _ ?_
 refine zap rfl (fun ht => ?_) (fun ht => ?_)
 ·cases ht
 ·refine za0 (hK2 _ _ ?_)
  refine zac hp zaj hc rfl fun K4 hK4 => ?_
  simp -dsimp -implicitDefEqProofs (disch := first | assumption | omega | (simp only [r_z, zab, zaa, zba] <;> omega) | decide) only [r_r, ↓reduceIte, Nat.reduceEqDiff, Nat.reduceAdd, D.fix, Int.reduceToNat, Nat.reduceMul, Nat.reduceBNe, Nat.reduceBEq, zas, zaz, zaf, zag, zck, zcj, zcn, zbq, gA6, zar, List.cons_append, List.nil_append, zc1]
  refine hK4 _ _ ?_
  refine zac hp zaj hc rfl fun K5 hK5 => ?_
  simp -dsimp -implicitDefEqProofs (disch := first | assumption | omega | (simp only [r_z, zab, zaa, zba] <;> omega) | decide) only [r_r, ↓reduceIte, Nat.reduceEqDiff, Nat.reduceAdd, D.fix, Int.reduceToNat, Nat.reduceMul, Nat.reduceBNe, Nat.reduceBEq, zas, zaz, zaf, zag, zck, zcj, zcn, zbq, gA6, zar, List.cons_append, List.nil_append]
  refine hK5 _ _ ?_
  refine zb3 hp (τ' := frL [(2, .op 1 0), (3, .op 2 0), (4, .op 3 0), (5, .d (iD 0)), (6, .op 4 0), (7, .clo (.func 58) [] [.op 4 0, .op 1 0])]) (H' := .free :: zcj a b) ?_ ?_
  ·refine Rt.trans (Rt.fr1) ?_
   refine Rt.trans (Rt.gc (keep := [4,0,1,2,3]) (by decide) (by decide) (by simp [fzH, gcH])) ?_
   refine Rt.end (by repeat (first | exact zal _ | refine zai ?_ (by first | rfl | (simp [r_f, zab, zaa, zba]; done) | simp [r_f, zab, zaa, zba, *]))) ?_
   first | rfl | (simp only [r_g, Nat.reduceAdd, ↓reduceIte, Nat.reduceEqDiff, zas, zaz, zaf, zag, zck, zcj, zcn, zbq, gA6, zar, List.cons_append, List.nil_append]; first | done | rfl)
  refine zd7 zaj hp hc mixed rfl [(0, []), (1, []), (2, []), (3, []), (5, []), (6, []), (8, []), (4, [1]), (7, []), (9, [])] [[], [0], [], [2], [2, 3], [], [5], [0, 1, 2, 3, 4, 5, 6], [], [0, 1, 2, 3, 4, 5, 6, 7, 8]] 2 (by kernel_rfl) fun K6 hK6 => ?_
  simp -dsimp -implicitDefEqProofs (disch := first | assumption | omega | (simp only [r_z, zab, zaa, zba] <;> omega) | decide) only [r_r, ↓reduceIte, Nat.reduceEqDiff, Nat.reduceAdd, D.fix, Int.reduceToNat, Nat.reduceMul, Nat.reduceBNe, Nat.reduceBEq, r_w, zas, zaz, zaf, zag, zck, zcj, zcn, zbq, gA6, zar, List.cons_append, List.nil_append, zc1]
  refine zni (S := [.free]) (T := zcj a b ++ [.dead, zbq]) (jln a.gates (by omega)) rfl (Nat.le_of_ble_eq_true rfl) (by first | rfl | (simp [AV.allIs, AV.allI, za3, zat, zau, okI, ltI, zao, zbb, zck, zcj, zcn, gA6, zbq, zar]; done) | (intro o ho; simp at ho; done)) (fun t => zbv (by first | rfl | (simp [AV.allIs, AV.allI, za3, zat, zau, okI, ltI, zao, zbb, zck, zcj, zcn, gA6, zbq, zar]; done) | (intro o ho; simp at ho; done)) t) (fun t => zbv (by first | rfl | (simp [AV.allIs, AV.allI, za3, zat, zau, okI, ltI, zao, zbb, zck, zcj, zcn, gA6, zbq, zar]; done) | (intro o ho; simp at ho; done)) t) (by first | rfl | (simp [AV.allIs, AV.allI, za3, zat, zau, okI, ltI, zao, zbb, zck, zcj, zcn, gA6, zbq, zar]; done) | (intro o ho; simp at ho; done)) (by first | rfl | (simp [AV.allIs, AV.allI, za3, zat, zau, okI, ltI, zao, zbb, zck, zcj, zcn, gA6, zbq, zar]; done) | (intro o ho; simp at ho; done)) (by first | rfl | (simp [AV.allIs, AV.allI, za3, zat, zau, okI, ltI, zao, zbb, zck, zcj, zcn, gA6, zbq, zar]; done) | (intro o ho; simp at ho; done)) ?_
  rintro _ _ ⟨n, rfl, rfl, rfl⟩
  refine ⟨rfl, ?_⟩
  simp -dsimp -implicitDefEqProofs (disch := first | assumption | omega | (simp only [r_z, zab, zaa, zba] <;> omega) | decide) only [r_r, ↓reduceIte, Nat.reduceEqDiff, Nat.reduceAdd, D.fix, Int.reduceToNat, Nat.reduceMul, Nat.reduceBNe, Nat.reduceBEq, r_w, zas, zaz, zaf, zag, zck, zcj, zcn, zbq, gA6, zar, List.cons_append, List.nil_append, zc1]
  refine hK6 _ _ ?_
  refine zac hp zaj hc rfl fun K7 hK7 => ?_
  simp -dsimp -implicitDefEqProofs (disch := first | assumption | omega | (simp only [r_z, zab, zaa, zba] <;> omega) | decide) only [r_r, ↓reduceIte, Nat.reduceEqDiff, Nat.reduceAdd, D.fix, Int.reduceToNat, Nat.reduceMul, Nat.reduceBNe, Nat.reduceBEq, zas, zaz, zaf, zag, zck, zcj, zcn, zbq, gA6, zar, List.cons_append, List.nil_append]
  refine hK7 _ _ ?_
  refine zan fun K8 hK8 => ?_
  refine zac hp zaj hc rfl fun K9 hK9 => ?_
  simp -dsimp -implicitDefEqProofs (disch := first | assumption | omega | (simp only [r_z, zab, zaa, zba] <;> omega) | decide) only [r_r, ↓reduceIte, Nat.reduceEqDiff, Nat.reduceAdd, D.fix, Int.reduceToNat, Nat.reduceMul, Nat.reduceBNe, Nat.reduceBEq, zas, zaz, zaf, zag, zck, zcj, zcn, zbq, gA6, zar, List.cons_append, List.nil_append, zc1]
  refine hK9 _ _ ?_
  refine za1 ?_
  refine zbd hp (fun τ' H' mm => ∃ (q : Nat) (l : List Gate), (q ≤ b.gates.length ∧ l = a.gates ++ (b.gates.map (mvG (2 + a.ins.length) a.gates.length)).take q) ∧ mm = b.gates.length - q ∧ H' = zck a b l ∧ τ' = frL [(2, .op 0 0), (3, .op 1 0), (4, .op 2 0), (5, .d (iD 0)), (6, .op 3 0), (7, .clo (.func 58) [] [.op 3 0, .op 0 0]), (8, .op 4 0), (9, .clo (.func 60) [] [.op 4 0, .op 3 0]), (48, .d (zag b.gates)), (49, .d (iD b.gates.length)), (50, .d (iD q))]) (b.gates.length) ?_ ⟨0, a.gates, ⟨Nat.zero_le _, by simp⟩, rfl, rfl, rfl⟩ ?_
  ·refine Rt.trans (Rt.gc (keep := [1,2,3,4,6,0]) (by decide) (by decide) (by simp [fzH, gcH])) ?_
   refine Rt.end (by repeat (first | exact zal _ | refine zai ?_ (by first | rfl | (simp [r_f, zab, zaa, zba]; done) | simp [r_f, zab, zaa, zba, *]))) ?_
   first | rfl | (simp only [r_g, Nat.reduceAdd, ↓reduceIte, Nat.reduceEqDiff, zas, zaz, zaf, zag, zck, zcj, zcn, zbq, gA6, zar, List.cons_append, List.nil_append]; first | done | rfl)
  rintro τ' H' mm ⟨q, l, ⟨hq, hl⟩, rfl, rfl, rfl⟩
  have hll : l.length = a.gates.length + q := by rw [hl]; simp; omega
  refine zac hp zaj hc rfl fun K10 hK10 => ?_
  simp -dsimp -implicitDefEqProofs (disch := first | assumption | omega | (simp only [r_z, zab, zaa, zba] <;> omega) | decide) only [r_r, ↓reduceIte, Nat.reduceEqDiff, Nat.reduceAdd, D.fix, Int.reduceToNat, Nat.reduceMul, Nat.reduceBNe, Nat.reduceBEq, zas, zaz, zaf, zag, zck, zcj, zcn, zbq, gA6, zar, List.cons_append, List.nil_append, zc1]
  refine hK10 _ _ ?_
  refine zan fun K11 hK11 => ?_
  refine zap rfl (fun ht => ?_) (fun ht => ?_)
  ·have hlt : q < b.gates.length := by simp at ht; omega
   have hg := hm.gb q hlt
   have a0 := hg.a0; have a1 := hg.a1; have b0 := hg.b0; have b1 := hg.b1; have c0 := hg.c0; have c1 := hg.c1
   refine za0 (hK11 _ _ ?_)
   refine zan fun K12 hK12 => ?_
   refine za1 ?_
   refine zac hp zaj hc rfl fun K13 hK13 => ?_
   simp -dsimp -implicitDefEqProofs (disch := first | assumption | omega | (simp only [r_z, zab, zaa, zba] <;> omega) | decide) only [r_r, ↓reduceIte, Nat.reduceEqDiff, Nat.reduceAdd, D.fix, Int.reduceToNat, Nat.reduceMul, Nat.reduceBNe, Nat.reduceBEq, zas, zaz, zaf, zag, zck, zcj, zcn, zbq, gA6, zar, List.cons_append, List.nil_append, zax, zay, zar, zc1]
   refine hK13 _ _ ?_
   refine zb3 hp (τ' := frL [(2, .op 0 0), (3, .op 1 0), (4, .op 2 0), (5, .d (iD 0)), (6, .op 3 0), (7, .clo (.func 58) [] [.op 3 0, .op 0 0]), (8, .op 4 0), (9, .clo (.func 60) [] [.op 4 0, .op 3 0]), (11, .op 6 0), (48, .d (zag b.gates)), (49, .d (iD b.gates.length)), (50, .d (iD q))]) (H' := zcj a b ++ (zcn a b l ++ [gA6 (nth b.gates q)])) ?_ ?_
   ·refine Rt.trans (Rt.gc (keep := [0,1,2,3,4,5,6]) (by decide) (by decide) (by simp [fzH, gcH])) ?_
    refine Rt.end (by repeat (first | exact zal _ | refine zai ?_ (by first | rfl | (simp [r_f, zab, zaa, zba]; done) | simp [r_f, zab, zaa, zba, *]))) ?_
    first | rfl | (simp only [r_g, Nat.reduceAdd, ↓reduceIte, Nat.reduceEqDiff, zas, zaz, zaf, zag, zck, zcj, zcn, zbq, gA6, zar, List.cons_append, List.nil_append]; first | done | rfl)
   refine zd7 zaj hp hc mixed rfl [(0, []), (1, []), (2, []), (4, []), (5, []), (6, []), (8, []), (9, []), (10, []), (3, [6, 10]), (12, []), (7, [10]), (11, []), (13, []), (14, []), (15, []), (16, []), (17, [])] [[], [], [1], [0, 1, 2], [], [], [5], [0, 1, 2, 3, 4, 5, 6], [], [], [9], [0, 1, 2, 3, 4, 5, 6, 7, 8, 9, 10], [0, 1, 2, 3, 5, 6, 9, 10], [0, 1, 2, 3, 4, 5, 6, 7, 8, 9, 10, 11, 12], [0, 1, 2, 3, 4, 5, 6, 7, 8, 9, 10, 11, 12, 13], [0, 1, 2, 3, 4, 5, 6, 7, 8, 9, 10, 11, 12, 13, 14], [0, 1, 2, 3, 4, 5, 6, 7, 8, 9, 10, 11, 12, 13, 14, 15], [0, 1, 2, 3, 4, 5, 6, 7, 8, 9, 10, 11, 12, 13, 14, 15, 16]] 0 (by kernel_rfl) fun K14 hK14 => ?_
   simp -dsimp -implicitDefEqProofs (disch := first | assumption | omega | (simp only [r_z, zab, zaa, zba] <;> omega) | decide) only [r_r, ↓reduceIte, Nat.reduceEqDiff, Nat.reduceAdd, D.fix, Int.reduceToNat, Nat.reduceMul, Nat.reduceBNe, Nat.reduceBEq, r_w, zas, zaz, zaf, zag, zck, zcj, zcn, zbq, gA6, zar, List.cons_append, List.nil_append, zc1]
   refine zoz (S := zcj a b) (T := zcn a b l ++ [gA6 (nth b.gates q)]) (zra a b (nth b.gates q).a (by omega) (by omega) (by omega) (by omega)) rfl (Nat.le_of_ble_eq_true rfl) (by first | rfl | (simp [AV.allIs, AV.allI, za3, zat, zau, okI, ltI, zao, zbb, zck, zcj, zcn, gA6, zbq, zar]; done) | (intro o ho; simp at ho; done)) (fun t => zbv (by first | rfl | (simp [AV.allIs, AV.allI, za3, zat, zau, okI, ltI, zao, zbb, zck, zcj, zcn, gA6, zbq, zar]; done) | (intro o ho; simp at ho; done)) t) (fun t => zbv (by first | rfl | (simp [AV.allIs, AV.allI, za3, zat, zau, okI, ltI, zao, zbb, zck, zcj, zcn, gA6, zbq, zar]; done) | (intro o ho; simp at ho; done)) t) (by first | rfl | (simp [AV.allIs, AV.allI, za3, zat, zau, okI, ltI, zao, zbb, zck, zcj, zcn, gA6, zbq, zar]; done) | (intro o ho; simp at ho; done)) (by first | rfl | (simp [AV.allIs, AV.allI, za3, zat, zau, okI, ltI, zao, zbb, zck, zcj, zcn, gA6, zbq, zar]; done) | (intro o ho; simp at ho; done)) (by first | rfl | (simp [AV.allIs, AV.allI, za3, zat, zau, okI, ltI, zao, zbb, zck, zcj, zcn, gA6, zbq, zar]; done) | (intro o ho; simp at ho; done)) ?_
   rintro _ _ ⟨_, rfl, rfl, rfl⟩
   refine ⟨rfl, ?_⟩
   simp -dsimp -implicitDefEqProofs (disch := first | assumption | omega | (simp only [r_z, zab, zaa, zba] <;> omega) | decide) only [r_r, ↓reduceIte, Nat.reduceEqDiff, Nat.reduceAdd, D.fix, Int.reduceToNat, Nat.reduceMul, Nat.reduceBNe, Nat.reduceBEq, r_w, zas, zaz, zaf, zag, zck, zcj, zcn, zbq, gA6, zar, List.cons_append, List.nil_append, zc1]
   refine zoz (S := zcj a b) (T := zcn a b l ++ [gA6 (nth b.gates q)]) (zra a b (nth b.gates q).b (by omega) (by omega) (by omega) (by omega)) rfl (Nat.le_of_ble_eq_true rfl) (by first | rfl | (simp [AV.allIs, AV.allI, za3, zat, zau, okI, ltI, zao, zbb, zck, zcj, zcn, gA6, zbq, zar]; done) | (intro o ho; simp at ho; done)) (fun t => zbv (by first | rfl | (simp [AV.allIs, AV.allI, za3, zat, zau, okI, ltI, zao, zbb, zck, zcj, zcn, gA6, zbq, zar]; done) | (intro o ho; simp at ho; done)) t) (fun t => zbv (by first | rfl | (simp [AV.allIs, AV.allI, za3, zat, zau, okI, ltI, zao, zbb, zck, zcj, zcn, gA6, zbq, zar]; done) | (intro o ho; simp at ho; done)) t) (by first | rfl | (simp [AV.allIs, AV.allI, za3, zat, zau, okI, ltI, zao, zbb, zck, zcj, zcn, gA6, zbq, zar]; done) | (intro o ho; simp at ho; done)) (by first | rfl | (simp [AV.allIs, AV.allI, za3, zat, zau, okI, ltI, zao, zbb, zck, zcj, zcn, gA6, zbq, zar]; done) | (intro o ho; simp at ho; done)) (by first | rfl | (simp [AV.allIs, AV.allI, za3, zat, zau, okI, ltI, zao, zbb, zck, zcj, zcn, gA6, zbq, zar]; done) | (intro o ho; simp at ho; done)) ?_
   rintro _ _ ⟨_, rfl, rfl, rfl⟩
   refine ⟨rfl, ?_⟩
   simp -dsimp -implicitDefEqProofs (disch := first | assumption | omega | (simp only [r_z, zab, zaa, zba] <;> omega) | decide) only [r_r, ↓reduceIte, Nat.reduceEqDiff, Nat.reduceAdd, D.fix, Int.reduceToNat, Nat.reduceMul, Nat.reduceBNe, Nat.reduceBEq, r_w, zas, zaz, zaf, zag, zck, zcj, zcn, zbq, gA6, zar, List.cons_append, List.nil_append, zc1]
   refine zoz (S := zcj a b) (T := zcn a b l ++ [gA6 (nth b.gates q)]) (zra a b (nth b.gates q).c (by omega) (by omega) (by omega) (by omega)) rfl (Nat.le_of_ble_eq_true rfl) (by first | rfl | (simp [AV.allIs, AV.allI, za3, zat, zau, okI, ltI, zao, zbb, zck, zcj, zcn, gA6, zbq, zar]; done) | (intro o ho; simp at ho; done)) (fun t => zbv (by first | rfl | (simp [AV.allIs, AV.allI, za3, zat, zau, okI, ltI, zao, zbb, zck, zcj, zcn, gA6, zbq, zar]; done) | (intro o ho; simp at ho; done)) t) (fun t => zbv (by first | rfl | (simp [AV.allIs, AV.allI, za3, zat, zau, okI, ltI, zao, zbb, zck, zcj, zcn, gA6, zbq, zar]; done) | (intro o ho; simp at ho; done)) t) (by first | rfl | (simp [AV.allIs, AV.allI, za3, zat, zau, okI, ltI, zao, zbb, zck, zcj, zcn, gA6, zbq, zar]; done) | (intro o ho; simp at ho; done)) (by first | rfl | (simp [AV.allIs, AV.allI, za3, zat, zau, okI, ltI, zao, zbb, zck, zcj, zcn, gA6, zbq, zar]; done) | (intro o ho; simp at ho; done)) (by first | rfl | (simp [AV.allIs, AV.allI, za3, zat, zau, okI, ltI, zao, zbb, zck, zcj, zcn, gA6, zbq, zar]; done) | (intro o ho; simp at ho; done)) ?_
   rintro _ _ ⟨_, rfl, rfl, rfl⟩
   refine ⟨rfl, ?_⟩
   simp -dsimp -implicitDefEqProofs (disch := first | assumption | omega | (simp only [r_z, zab, zaa, zba] <;> omega) | decide) only [r_r, ↓reduceIte, Nat.reduceEqDiff, Nat.reduceAdd, D.fix, Int.reduceToNat, Nat.reduceMul, Nat.reduceBNe, Nat.reduceBEq, r_w, zas, zaz, zaf, zag, zck, zcj, zcn, zbq, gA6, zar, List.cons_append, List.nil_append, zc1]
   refine hK14 _ _ ?_
   refine zbt hp zaj hc rfl fun K15 hK15 => ?_
   simp -dsimp -implicitDefEqProofs (disch := first | assumption | omega | (simp only [r_z, zab, zaa, zba] <;> omega) | decide) only [r_r, ↓reduceIte, Nat.reduceEqDiff, Nat.reduceAdd, D.fix, Int.reduceToNat, Nat.reduceMul, Nat.reduceBNe, Nat.reduceBEq, zas, zaz, zaf, zag, zck, zcj, zcn, zbq, gA6, zar, List.cons_append, List.nil_append, zc1]
   refine zvy (S := zck a b l) (T := [gA6 (mvG (2 + a.ins.length) a.gates.length (nth b.gates q))]) (jlo a b l (mvG (2 + a.ins.length) a.gates.length (nth b.gates q)) (by omega) (by omega)) rfl (by first | rfl | (simp [AV.allIs, AV.allI, za3, zat, zau, okI, ltI, zao, zbb, zck, zcj, zcn, gA6, zbq, zar]; done) | (intro o ho; simp at ho; done)) (fun t => zbv (by first | rfl | (simp [AV.allIs, AV.allI, za3, zat, zau, okI, ltI, zao, zbb, zck, zcj, zcn, gA6, zbq, zar]; done) | (intro o ho; simp at ho; done)) t) (by first | rfl | (simp [AV.allIs, AV.allI, za3, zat, zau, okI, ltI, zao, zbb, zck, zcj, zcn, gA6, zbq, zar]; done) | (intro o ho; simp at ho; done)) (by first | rfl | (simp [AV.allIs, AV.allI, za3, zat, zau, okI, ltI, zao, zbb, zck, zcj, zcn, gA6, zbq, zar]; done) | (intro o ho; simp at ho; done)) (by first | rfl | (simp [AV.allIs, AV.allI, za3, zat, zau, okI, ltI, zao, zbb, zck, zcj, zcn, gA6, zbq, zar]; done) | (intro o ho; simp at ho; done)) ?_
   rintro _ _ ⟨m, hmm, rfl, rfl⟩
   refine ⟨rfl, ?_⟩
   simp -dsimp -implicitDefEqProofs (disch := first | assumption | omega | (simp only [r_z, zab, zaa, zba] <;> omega) | decide) only [r_r, ↓reduceIte, Nat.reduceEqDiff, Nat.reduceAdd, D.fix, Int.reduceToNat, Nat.reduceMul, Nat.reduceBNe, Nat.reduceBEq, zas, zaz, zaf, zag, zck, zcj, zcn, zbq, gA6, zar, List.cons_append, List.nil_append, zc1]
   refine hK15 _ _ (hK12 _ _ ?_)
   refine zbt hp zaj hc rfl fun K16 hK16 => ?_
   simp -dsimp -implicitDefEqProofs (disch := first | assumption | omega | (simp only [r_z, zab, zaa, zba] <;> omega) | decide) only [r_r, ↓reduceIte, Nat.reduceEqDiff, Nat.reduceAdd, D.fix, Int.reduceToNat, Nat.reduceMul, Nat.reduceBNe, Nat.reduceBEq, zas, zaz, zaf, zag, zck, zcj, zcn, zbq, gA6, zar, List.cons_append, List.nil_append, zc1]
   refine hK16 _ _ ⟨_, _, _, ?_, ⟨q + 1, m, ⟨by omega, by rw [hmm, hl, zee (by simpa using hlt), zfs hlt, List.append_assoc]⟩, rfl, rfl, rfl⟩, ?_⟩
   ·first | omega | (simp only [List.length_cons]; omega) | (dsimp only; omega)
   ·refine Rt.trans (Rt.gc (keep := [0,1,2,3,4,5]) (by decide) (by decide) (by simp [fzH, gcH])) ?_
    refine Rt.end (by repeat (first | exact zal _ | refine zai ?_ (by first | rfl | (simp [r_f, zab, zaa, zba]; done) | simp [r_f, zab, zaa, zba, *]))) ?_
    first | rfl | (simp only [r_g, Nat.reduceAdd, ↓reduceIte, Nat.reduceEqDiff, zas, zaz, zaf, zag, zck, zcj, zcn, zbq, gA6, zar, List.cons_append, List.nil_append]; first | done | rfl)
  ·have hqe : q = b.gates.length := by simp at ht; omega
   have hl1 : l = a.gates ++ b.gates.map (mvG (2 + a.ins.length) a.gates.length) := by rw [hl, List.take_of_length_le (by simp; omega)]
   obtain ⟨base, hbase⟩ : ∃ base, base = 2 + a.ins.length + a.gates.length + b.gates.length := ⟨_, rfl⟩
   refine zbl (hK8 _ _ ?_)
   refine zac hp zaj hc rfl fun K17 hK17 => ?_
   simp -dsimp -implicitDefEqProofs (disch := first | assumption | omega | (simp only [r_z, zab, zaa, zba] <;> omega) | decide) only [r_r, ↓reduceIte, Nat.reduceEqDiff, Nat.reduceAdd, D.fix, Int.reduceToNat, Nat.reduceMul, Nat.reduceBNe, Nat.reduceBEq, zas, zaz, zaf, zag, zck, zcj, zcn, zbq, gA6, zar, List.cons_append, List.nil_append]
   refine hK17 _ _ ?_
   refine zan fun K18 hK18 => ?_
   refine zac hp zaj hc rfl fun K19 hK19 => ?_
   simp -dsimp -implicitDefEqProofs (disch := first | assumption | omega | (simp only [r_z, zab, zaa, zba] <;> omega) | decide) only [r_r, ↓reduceIte, Nat.reduceEqDiff, Nat.reduceAdd, D.fix, Int.reduceToNat, Nat.reduceMul, Nat.reduceBNe, Nat.reduceBEq, zas, zaz, zaf, zag, zck, zcj, zcn, zbq, gA6, zar, List.cons_append, List.nil_append, zc1]
   refine hK19 _ _ ?_
   refine za1 ?_
   refine zbd hp (fun τ' H' mm => ∃ (i : Nat) (l : List Gate), (i ≤ a.drive.length ∧ l = a.gates ++ b.gates.map (mvG (2 + a.ins.length) a.gates.length) ++ jgx (2 + a.ins.length) a.gates.length a.drive b.drive i) ∧ mm = a.drive.length - i ∧ H' = zck a b l ++ [.cells (avs (jer base i))] ∧ τ' = frL [(2, .op 0 0), (3, .op 1 0), (4, .op 2 0), (5, .d (iD 0)), (6, .op 3 0), (7, .clo (.func 58) [] [.op 3 0, .op 0 0]), (8, .op 4 0), (9, .clo (.func 60) [] [.op 4 0, .op 3 0]), (12, .os 1 6 0 i), (74, .d (intsD a.drive)), (75, .d (iD a.drive.length)), (76, .d (iD i))]) (a.drive.length) ?_ ⟨0, l, ⟨Nat.zero_le _, by rw [hl1]; simp [jgx]⟩, rfl, rfl, rfl⟩ ?_
   ·refine Rt.trans (Rt.nil 12 1 rfl) ?_
    refine Rt.trans (Rt.gc (keep := [0,1,2,3,4,5,6]) (by decide) (by decide) (by simp [fzH, gcH])) ?_
    refine Rt.end (by repeat (first | exact zal _ | refine zai ?_ (by first | rfl | (simp [r_f, zab, zaa, zba]; done) | simp [r_f, zab, zaa, zba, *]))) ?_
    first | rfl | (simp only [r_g, Nat.reduceAdd, ↓reduceIte, Nat.reduceEqDiff, zas, zaz, zaf, zag, zck, zcj, zcn, zbq, gA6, zar, List.cons_append, List.nil_append]; first | done | rfl)
   rintro τ' H' mm ⟨i, l, ⟨hi2, hl2⟩, rfl, rfl, rfl⟩
   have hll2 : l.length = a.gates.length + b.gates.length + i := by rw [hl2]; simp [zho]; omega
   refine zac hp zaj hc rfl fun K20 hK20 => ?_
   simp -dsimp -implicitDefEqProofs (disch := first | assumption | omega | (simp only [r_z, zab, zaa, zba] <;> omega) | decide) only [r_r, ↓reduceIte, Nat.reduceEqDiff, Nat.reduceAdd, D.fix, Int.reduceToNat, Nat.reduceMul, Nat.reduceBNe, Nat.reduceBEq, zas, zaz, zaf, zag, zck, zcj, zcn, zbq, gA6, zar, List.cons_append, List.nil_append, zc1]
   refine hK20 _ _ ?_
   refine zan fun K21 hK21 => ?_
   refine zap rfl (fun ht => ?_) (fun ht => ?_)
   ·have hlt : i < a.drive.length := by simp at ht; omega
    have h1 := hm.da i hlt
    have h2 := hm.db i (by omega)
    refine za0 (hK21 _ _ ?_)
    refine zan fun K22 hK22 => ?_
    refine za1 ?_
    refine zac hp zaj hc rfl fun K23 hK23 => ?_
    simp -dsimp -implicitDefEqProofs (disch := first | assumption | omega | (simp only [r_z, zab, zaa, zba] <;> omega) | decide) only [r_r, ↓reduceIte, Nat.reduceEqDiff, Nat.reduceAdd, D.fix, Int.reduceToNat, Nat.reduceMul, Nat.reduceBNe, Nat.reduceBEq, zas, zaz, zaf, zag, zck, zcj, zcn, zbq, gA6, zar, List.cons_append, List.nil_append, zc4, zc1]
    refine hK23 _ _ ?_
    refine zbt hp zaj hc rfl fun K24 hK24 => ?_
    simp -dsimp -implicitDefEqProofs (disch := first | assumption | omega | (simp only [r_z, zab, zaa, zba] <;> omega) | decide) only [r_r, ↓reduceIte, Nat.reduceEqDiff, Nat.reduceAdd, D.fix, Int.reduceToNat, Nat.reduceMul, Nat.reduceBNe, Nat.reduceBEq, zas, zaz, zaf, zag, zck, zcj, zcn, zbq, gA6, zar, List.cons_append, List.nil_append, zc4, zc1]
    refine zvy (S := zcj a b) (T := zcn a b l ++ [.cells (avs (jer base i))]) (zra a b (nth b.drive i) (by omega) (by omega) (by omega) (by omega)) rfl (by first | rfl | (simp [AV.allIs, AV.allI, za3, zat, zau, okI, ltI, zao, zbb, zck, zcj, zcn, gA6, zbq, zar]; done) | (intro o ho; simp at ho; done)) (fun t => zbv (by first | rfl | (simp [AV.allIs, AV.allI, za3, zat, zau, okI, ltI, zao, zbb, zck, zcj, zcn, gA6, zbq, zar]; done) | (intro o ho; simp at ho; done)) t) (by first | rfl | (simp [AV.allIs, AV.allI, za3, zat, zau, okI, ltI, zao, zbb, zck, zcj, zcn, gA6, zbq, zar]; done) | (intro o ho; simp at ho; done)) (by first | rfl | (simp [AV.allIs, AV.allI, za3, zat, zau, okI, ltI, zao, zbb, zck, zcj, zcn, gA6, zbq, zar]; done) | (intro o ho; simp at ho; done)) (by first | rfl | (simp [AV.allIs, AV.allI, za3, zat, zau, okI, ltI, zao, zbb, zck, zcj, zcn, gA6, zbq, zar]; done) | (intro o ho; simp at ho; done)) ?_
    rintro _ _ ⟨_, rfl, rfl, rfl⟩
    refine ⟨rfl, ?_⟩
    simp -dsimp -implicitDefEqProofs (disch := first | assumption | omega | (simp only [r_z, zab, zaa, zba] <;> omega) | decide) only [r_r, ↓reduceIte, Nat.reduceEqDiff, Nat.reduceAdd, D.fix, Int.reduceToNat, Nat.reduceMul, Nat.reduceBNe, Nat.reduceBEq, zas, zaz, zaf, zag, zck, zcj, zcn, zbq, gA6, zar, List.cons_append, List.nil_append, zc4, zc1]
    refine zvy (S := zck a b l) (T := [.cells (avs (jer base i))]) (jlo a b l ⟨4, nth a.drive i, mvI (2 + a.ins.length) a.gates.length (nth b.drive i), 0, 0⟩ (by omega) (by omega)) rfl (by first | rfl | (simp [AV.allIs, AV.allI, za3, zat, zau, okI, ltI, zao, zbb, zck, zcj, zcn, gA6, zbq, zar]; done) | (intro o ho; simp at ho; done)) (fun t => zbv (by first | rfl | (simp [AV.allIs, AV.allI, za3, zat, zau, okI, ltI, zao, zbb, zck, zcj, zcn, gA6, zbq, zar]; done) | (intro o ho; simp at ho; done)) t) (by first | rfl | (simp [AV.allIs, AV.allI, za3, zat, zau, okI, ltI, zao, zbb, zck, zcj, zcn, gA6, zbq, zar]; done) | (intro o ho; simp at ho; done)) (by first | rfl | (simp [AV.allIs, AV.allI, za3, zat, zau, okI, ltI, zao, zbb, zck, zcj, zcn, gA6, zbq, zar]; done) | (intro o ho; simp at ho; done)) (by first | rfl | (simp [AV.allIs, AV.allI, za3, zat, zau, okI, ltI, zao, zbb, zck, zcj, zcn, gA6, zbq, zar]; done) | (intro o ho; simp at ho; done)) ?_
    rintro _ _ ⟨m, hmm, rfl, rfl⟩
    refine ⟨rfl, ?_⟩
    simp -dsimp -implicitDefEqProofs (disch := first | assumption | omega | (simp only [r_z, zab, zaa, zba] <;> omega) | decide) only [r_r, ↓reduceIte, Nat.reduceEqDiff, Nat.reduceAdd, D.fix, Int.reduceToNat, Nat.reduceMul, Nat.reduceBNe, Nat.reduceBEq, zas, zaz, zaf, zag, zck, zcj, zcn, zbq, gA6, zar, List.cons_append, List.nil_append, zc4, zc1]
    refine hK24 _ _ (hK22 _ _ ?_)
    refine zbt hp zaj hc rfl fun K25 hK25 => ?_
    simp -dsimp -implicitDefEqProofs (disch := first | assumption | omega | (simp only [r_z, zab, zaa, zba] <;> omega) | decide) only [r_r, ↓reduceIte, Nat.reduceEqDiff, Nat.reduceAdd, D.fix, Int.reduceToNat, Nat.reduceMul, Nat.reduceBNe, Nat.reduceBEq, zas, zaz, zaf, zag, zck, zcj, zcn, zbq, gA6, zar, List.cons_append, List.nil_append, zc1]
    have hbi : (2 + (a.ins.length : Int) + l.length) = ((base + i : Nat) : Int) := by omega
    refine hK25 _ _ ⟨_, _, _, ?_, ⟨i + 1, m, ⟨by omega, by rw [hmm, hl2, List.append_assoc]; unfold jgx; rw [List.range_succ, List.map_append]; rfl⟩, rfl, rfl, rfl⟩, ?_⟩
    ·first | omega | (simp only [List.length_cons]; omega) | (dsimp only; omega)
    ·refine Rt.trans (Rt.gc (keep := [0,1,2,3,4,5,8]) (by decide) (by decide) (by simp [fzH, gcH])) ?_
     refine Rt.end (by repeat (first | exact zal _ | refine zai ?_ (by first | rfl | (simp [r_f, zab, zaa, zba]; done) | simp [r_f, zab, zaa, zba, *]))) ?_
     simp only [r_g, Nat.reduceAdd, ↓reduceIte, Nat.reduceEqDiff, zas, zaz, zaf, zag, zck, zcj, zcn, zbq, gA6, zar, List.cons_append, List.nil_append]; rw [hbi]; simp [jer, List.range_succ, iD]
   ·have hie : i = a.drive.length := by simp at ht; omega
    refine zbl (hK18 _ _ ?_)
    refine zac hp zaj hc rfl fun K26 hK26 => ?_
    simp -dsimp -implicitDefEqProofs (disch := first | assumption | omega | (simp only [r_z, zab, zaa, zba] <;> omega) | decide) only [r_r, ↓reduceIte, Nat.reduceEqDiff, Nat.reduceAdd, D.fix, Int.reduceToNat, Nat.reduceMul, Nat.reduceBNe, Nat.reduceBEq, zas, zaz, zaf, zag, zck, zcj, zcn, zbq, gA6, zar, List.cons_append, List.nil_append]
    refine hK26 _ _ ?_
    refine zan fun K27 hK27 => ?_
    refine zac hp zaj hc rfl fun K28 hK28 => ?_
    simp -dsimp -implicitDefEqProofs (disch := first | assumption | omega | (simp only [r_z, zab, zaa, zba] <;> omega) | decide) only [r_r, ↓reduceIte, Nat.reduceEqDiff, Nat.reduceAdd, D.fix, Int.reduceToNat, Nat.reduceMul, Nat.reduceBNe, Nat.reduceBEq, zas, zaz, zaf, zag, zck, zcj, zcn, zbq, gA6, zar, List.cons_append, List.nil_append, zc1]
    refine hK28 _ _ ?_
    refine za1 ?_
    refine zbd hp (fun τ' H' mm => ∃ (i : Nat) (l : List Gate), (i ≤ a.drive.length ∧ l = a.gates ++ b.gates.map (mvG (2 + a.ins.length) a.gates.length) ++ jgx (2 + a.ins.length) a.gates.length a.drive b.drive a.drive.length ++ orL base a.drive.length (i - 1)) ∧ mm = a.drive.length - i ∧ H' = zck a b l ++ [.cells (avs (jer base a.drive.length))] ∧ τ' = frL [(4, .op 2 0), (5, .d (iD 0)), (6, .op 3 0), (8, .op 4 0), (9, .clo (.func 60) [] [.op 4 0, .op 3 0]), (15, .d (iD (jd3 base a.drive.length i))), (96, .os 1 6 0 a.drive.length), (97, .d (iD a.drive.length)), (98, .d (iD i))]) (a.drive.length) ?_ ⟨0, l, ⟨Nat.zero_le _, by rw [hl2, hie]; simp [orL]⟩, rfl, rfl, rfl⟩ ?_
    ·refine Rt.trans (Rt.gc (keep := [0,1,2,3,4,5,6]) (by decide) (by decide) (by simp [fzH, gcH])) ?_
     refine Rt.end (by repeat (first | exact zal _ | refine zai ?_ (by first | rfl | (simp [r_f, zab, zaa, zba]; done) | simp [r_f, zab, zaa, zba, *]))) ?_
     simp only [r_g, Nat.reduceAdd, ↓reduceIte, Nat.reduceEqDiff, zas, zaz, zaf, zag, zck, zcj, zcn, zbq, gA6, zar, List.cons_append, List.nil_append]; subst hie; rfl
    rintro τ' H' mm ⟨i, l, ⟨hi3, hl3⟩, rfl, rfl, rfl⟩
    have hll3 : l.length = a.gates.length + b.gates.length + a.drive.length + (i - 1) := by rw [hl3]; simp [zho, jd0]; omega
    refine zac hp zaj hc rfl fun K29 hK29 => ?_
    simp -dsimp -implicitDefEqProofs (disch := first | assumption | omega | (simp only [r_z, zab, zaa, zba] <;> omega) | decide) only [r_r, ↓reduceIte, Nat.reduceEqDiff, Nat.reduceAdd, D.fix, Int.reduceToNat, Nat.reduceMul, Nat.reduceBNe, Nat.reduceBEq, zas, zaz, zaf, zag, zck, zcj, zcn, zbq, gA6, zar, List.cons_append, List.nil_append, zc1]
    refine hK29 _ _ ?_
    refine zan fun K30 hK30 => ?_
    refine zap rfl (fun ht => ?_) (fun ht => ?_)
    ·have hlt : i < a.drive.length := by simp at ht; omega
     refine za0 (hK30 _ _ ?_)
     refine zan fun K31 hK31 => ?_
     refine za1 ?_
     refine zac hp zaj hc rfl fun K32 hK32 => ?_
     simp -dsimp -implicitDefEqProofs (disch := first | assumption | omega | (simp only [r_z, zab, zaa, zba] <;> omega) | decide) only [r_r, ↓reduceIte, Nat.reduceEqDiff, Nat.reduceAdd, D.fix, Int.reduceToNat, Nat.reduceMul, Nat.reduceBNe, Nat.reduceBEq, zas, zaz, zaf, zag, zck, zcj, zcn, zbq, gA6, zar, List.cons_append, List.nil_append, jlp hlt, zc1]
     refine hK32 _ _ ?_
     refine zac hp zaj hc rfl fun K33 hK33 => ?_
     rcases i with _ | i
     ·have q0 : (((0 : Nat) : Int) == 0) = true := rfl
      simp -dsimp -implicitDefEqProofs (disch := first | assumption | omega | (simp only [r_z, zab, zaa, zba] <;> omega) | decide) only [r_r, ↓reduceIte, Nat.reduceEqDiff, Nat.reduceAdd, D.fix, Int.reduceToNat, Nat.reduceMul, Nat.reduceBNe, Nat.reduceBEq, zas, zaz, zaf, zag, zck, zcj, zcn, zbq, gA6, zar, List.cons_append, List.nil_append, q0, zc1]
      refine hK33 _ _ ?_
      refine zap rfl (fun ht => ?_) (fun ht => ?_)
      ·refine zbt hp zaj hc rfl fun K34 hK34 => ?_
       simp -dsimp -implicitDefEqProofs (disch := first | assumption | omega | (simp only [r_z, zab, zaa, zba] <;> omega) | decide) only [r_r, ↓reduceIte, Nat.reduceEqDiff, Nat.reduceAdd, D.fix, Int.reduceToNat, Nat.reduceMul, Nat.reduceBNe, Nat.reduceBEq, zas, zaz, zaf, zag, zck, zcj, zcn, zbq, gA6, zar, List.cons_append, List.nil_append]
       refine hK34 _ _ (hK31 _ _ ?_)
       refine zbt hp zaj hc rfl fun K35 hK35 => ?_
       simp -dsimp -implicitDefEqProofs (disch := first | assumption | omega | (simp only [r_z, zab, zaa, zba] <;> omega) | decide) only [r_r, ↓reduceIte, Nat.reduceEqDiff, Nat.reduceAdd, D.fix, Int.reduceToNat, Nat.reduceMul, Nat.reduceBNe, Nat.reduceBEq, zas, zaz, zaf, zag, zck, zcj, zcn, zbq, gA6, zar, List.cons_append, List.nil_append, zc1]
       refine hK35 _ _ ⟨_, _, _, ?_, ⟨0 + 1, l, ⟨by omega, hl3⟩, rfl, rfl, rfl⟩, ?_⟩
       ·first | omega | (simp only [List.length_cons]; omega) | (dsimp only; omega)
       ·refine Rt.trans (Rt.gc (keep := [0,1,2,3,4,5,6]) (by decide) (by decide) (by simp [fzH, gcH])) ?_
        refine Rt.end (by repeat (first | exact zal _ | refine zai ?_ (by first | rfl | (simp [r_f, zab, zaa, zba]; done) | simp [r_f, zab, zaa, zba, *]))) ?_
        first | rfl | (simp only [r_g, Nat.reduceAdd, ↓reduceIte, Nat.reduceEqDiff, zas, zaz, zaf, zag, zck, zcj, zcn, zbq, gA6, zar, List.cons_append, List.nil_append]; first | done | rfl)
      ·cases ht
     ·have q0 : (((i + 1 : Nat) : Int) == 0) = false := by simp; omega
      simp -dsimp -implicitDefEqProofs (disch := first | assumption | omega | (simp only [r_z, zab, zaa, zba] <;> omega) | decide) only [r_r, ↓reduceIte, Nat.reduceEqDiff, Nat.reduceAdd, D.fix, Int.reduceToNat, Nat.reduceMul, Nat.reduceBNe, Nat.reduceBEq, zas, zaz, zaf, zag, zck, zcj, zcn, zbq, gA6, zar, List.cons_append, List.nil_append, q0, zc1]
      refine hK33 _ _ ?_
      refine zap rfl (fun ht => ?_) (fun ht => ?_)
      ·cases ht
      ·refine zbt hp zaj hc rfl fun K36 hK36 => ?_
       simp -dsimp -implicitDefEqProofs (disch := first | assumption | omega | (simp only [r_z, zab, zaa, zba] <;> omega) | decide) only [r_r, ↓reduceIte, Nat.reduceEqDiff, Nat.reduceAdd, D.fix, Int.reduceToNat, Nat.reduceMul, Nat.reduceBNe, Nat.reduceBEq, zas, zaz, zaf, zag, zck, zcj, zcn, zbq, gA6, zar, List.cons_append, List.nil_append, zc1]
       refine zvy (S := zck a b l) (T := [.cells (avs (jer base a.drive.length))]) (jlo a b l ⟨3, jd3 base a.drive.length (i + 1), ((base + (i + 1) : Nat) : Int), 0, 0⟩ (by omega) (by omega)) rfl (by first | rfl | (simp [AV.allIs, AV.allI, za3, zat, zau, okI, ltI, zao, zbb, zck, zcj, zcn, gA6, zbq, zar]; done) | (intro o ho; simp at ho; done)) (fun t => zbv (by first | rfl | (simp [AV.allIs, AV.allI, za3, zat, zau, okI, ltI, zao, zbb, zck, zcj, zcn, gA6, zbq, zar]; done) | (intro o ho; simp at ho; done)) t) (by first | rfl | (simp [AV.allIs, AV.allI, za3, zat, zau, okI, ltI, zao, zbb, zck, zcj, zcn, gA6, zbq, zar]; done) | (intro o ho; simp at ho; done)) (by first | rfl | (simp [AV.allIs, AV.allI, za3, zat, zau, okI, ltI, zao, zbb, zck, zcj, zcn, gA6, zbq, zar]; done) | (intro o ho; simp at ho; done)) (by first | rfl | (simp [AV.allIs, AV.allI, za3, zat, zau, okI, ltI, zao, zbb, zck, zcj, zcn, gA6, zbq, zar]; done) | (intro o ho; simp at ho; done)) ?_
       rintro _ _ ⟨m, hmm, rfl, rfl⟩
       refine ⟨rfl, ?_⟩
       simp -dsimp -implicitDefEqProofs (disch := first | assumption | omega | (simp only [r_z, zab, zaa, zba] <;> omega) | decide) only [r_r, ↓reduceIte, Nat.reduceEqDiff, Nat.reduceAdd, D.fix, Int.reduceToNat, Nat.reduceMul, Nat.reduceBNe, Nat.reduceBEq, zas, zaz, zaf, zag, zck, zcj, zcn, zbq, gA6, zar, List.cons_append, List.nil_append, zc1]
       refine hK36 _ _ (hK31 _ _ ?_)
       refine zbt hp zaj hc rfl fun K37 hK37 => ?_
       simp -dsimp -implicitDefEqProofs (disch := first | assumption | omega | (simp only [r_z, zab, zaa, zba] <;> omega) | decide) only [r_r, ↓reduceIte, Nat.reduceEqDiff, Nat.reduceAdd, D.fix, Int.reduceToNat, Nat.reduceMul, Nat.reduceBNe, Nat.reduceBEq, zas, zaz, zaf, zag, zck, zcj, zcn, zbq, gA6, zar, List.cons_append, List.nil_append, zc1]
       have hlast : (2 + (a.ins.length : Int) + l.length) = jd3 base a.drive.length (i + 1 + 1) := by show _ = ((base + a.drive.length + i : Nat) : Int); omega
       rw [hlast]
       refine hK37 _ _ ⟨_, _, _, ?_, ⟨i + 1 + 1, m, ⟨by omega, by rw [hmm, hl3, List.append_assoc]; congr 1; show _ = orL base a.drive.length (i + 1); unfold orL; rw [List.range_succ, List.map_append]; rfl⟩, rfl, rfl, rfl⟩, ?_⟩
       ·first | omega | (simp only [List.length_cons]; omega) | (dsimp only; omega)
       ·refine Rt.trans (Rt.gc (keep := [0,1,2,3,4,5,6]) (by decide) (by decide) (by simp [fzH, gcH])) ?_
        refine Rt.end (by repeat (first | exact zal _ | refine zai ?_ (by first | rfl | (simp [r_f, zab, zaa, zba]; done) | simp [r_f, zab, zaa, zba, *]))) ?_
        first | rfl | (simp only [r_g, Nat.reduceAdd, ↓reduceIte, Nat.reduceEqDiff, zas, zaz, zaf, zag, zck, zcj, zcn, zbq, gA6, zar, List.cons_append, List.nil_append]; first | done | rfl)
    ·have hie : i = a.drive.length := by simp at ht; omega
     have hfin : ¬ (600 : Int) < 2 + a.ins.length + l.length := by omega
     refine zbl (hK27 _ _ ?_)
     refine zac hp zaj hc rfl fun K38 hK38 => ?_
     simp -dsimp -implicitDefEqProofs (disch := first | assumption | omega | (simp only [r_z, zab, zaa, zba] <;> omega) | decide) only [r_r, ↓reduceIte, Nat.reduceEqDiff, Nat.reduceAdd, D.fix, Int.reduceToNat, Nat.reduceMul, Nat.reduceBNe, Nat.reduceBEq, zas, zaz, zaf, zag, zck, zcj, zcn, zbq, gA6, zar, List.cons_append, List.nil_append, zc1]
     refine hK38 _ _ ?_
     refine zan fun K39 hK39 => ?_
     refine zac hp zaj hc rfl fun K40 hK40 => ?_
     simp -dsimp -implicitDefEqProofs (disch := first | assumption | omega | (simp only [r_z, zab, zaa, zba] <;> omega) | decide) only [r_r, ↓reduceIte, Nat.reduceEqDiff, Nat.reduceAdd, D.fix, Int.reduceToNat, Nat.reduceMul, Nat.reduceBNe, Nat.reduceBEq, zas, zaz, zaf, zag, zck, zcj, zcn, zbq, gA6, zar, List.cons_append, List.nil_append, hfin, decide_false, zc1]
     refine hK40 _ _ ?_
     refine zap rfl (fun ht => ?_) (fun ht => ?_)
     ·cases ht
     ·refine za0 (hK39 _ _ ?_)
      refine zac hp zaj hc rfl fun K41 hK41 => ?_
      simp -dsimp -implicitDefEqProofs (disch := first | assumption | omega | (simp only [r_z, zab, zaa, zba] <;> omega) | decide) only [r_r, ↓reduceIte, Nat.reduceEqDiff, Nat.reduceAdd, D.fix, Int.reduceToNat, Nat.reduceMul, Nat.reduceBNe, Nat.reduceBEq, zas, zaz, zaf, zag, zck, zcj, zcn, zbq, gA6, zar, List.cons_append, List.nil_append, zc1]
      refine hK41 _ _ ?_
      refine za6 ?_
      try dsimp only [zji, zc2]
      refine zkf rfl ?_
      simp -dsimp -implicitDefEqProofs (disch := first | assumption | omega | (simp only [r_z, zab, zaa, zba] <;> omega) | decide) only [r_r, ↓reduceIte, Nat.reduceEqDiff, Nat.reduceAdd, D.fix, Int.reduceToNat, Nat.reduceMul, Nat.reduceBNe, Nat.reduceBEq, zas, zaz, zaf, zag, zck, zcj, zcn, zbq, gA6, zar, List.cons_append, List.nil_append, zds, zdt]
      show closeA _ _ = _
      simp (disch := first | assumption | omega | (simp only [r_z, zab, zaa, zba] <;> omega) | decide) only [r_c, Nat.reduceAdd, D.fix, ↓reduceIte, Nat.reduceEqDiff, zas, zaz, zaf, zag, zck, zcj, zcn, zbq, gA6, zar, List.cons_append, List.nil_append]
      have hme : zkz a b = ⟨a.ins, l, [⟨6, 0, 0⟩], [jd3 base a.drive.length i]⟩ := by
       unfold zkz zum jd3
       rw [if_neg (by omega), hl3, hie, hbase]
      rw [hme]
      simp [zbn, iD, zjg]
end Go.Proofs.Ytignimmnnccblaa
