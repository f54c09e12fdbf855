/- Copies and comparisons of rows. -/
import Derived.Test.YtignimmnnccblaaQr
import Derived.Test.YtignimmnnccblaaMa
set_option linter.unusedVariables false
set_option linter.unusedSimpArgs false
set_option maxRecDepth 100000
set_option maxHeartbeats 4000000
namespace Go.Proofs.Ytignimmnnccblaa
open Go Go.RowKit
theorem zn5 : ((((type_of% @ze4) ∧ ((type_of% @ze5) ∧ (type_of% @ze6))) ∧ (((type_of% @ze7) ∧ (type_of% @zex)) ∧ ((type_of% @zey) ∧ (type_of% @zfa)))) ∧ ((((type_of% @zn0) ∧ (type_of% @zn1)) ∧ ((type_of% @zfq) ∧ (type_of% @zfr))) ∧ (((type_of% @zfs) ∧ (type_of% @zft)) ∧ ((type_of% @zlz) ∧ (type_of% @zl0))))) := ⟨⟨⟨@ze4, ⟨@ze5, @ze6⟩⟩, ⟨⟨@ze7, @zex⟩, ⟨@zey, @zfa⟩⟩⟩, ⟨⟨⟨@zn0, @zn1⟩, ⟨@zfq, @zfr⟩⟩, ⟨⟨@zfs, @zft⟩, ⟨@zlz, @zl0⟩⟩⟩⟩
theorem jrz {P : Program} {c : Cx} {x : Code} {Q : Exit → Fr → zar → Prop} {τ : Fr} {H : zar} (t : Nat) (ht : τ t = .d (.fs [] 0))
  (h : ∀ (a : Option Addr) (cap : Nat), cap ≤ maxLen → (a = none → cap = 0) → AWp P c x Q (τ.put (some t) (.d (.val (.slice a 0 cap)))) H) : AWp P c x Q τ H := fun ac w hR => by
 obtain ⟨pl, hS⟩ := hR
 have h1 := hS.fr t
 rw [ht] at h1
 have key : ∀ a cap, ac.tmps.getD t undef = .slice a 0 cap → R c (τ.put (some t) (.d (.val (.slice a 0 cap)))) H [] ac w := fun a cap e =>
  ⟨pl, hS.h, hS.stp, hS.own0, hS.ext, fun t' => by
   by_cases ht' : t' = t
   ·subst ht'
    rw [e]
    simp only [Fr.put, if_pos]
    exact .d _ _ (.val _)
   ·simp only [Fr.put, if_neg ht']
    exact hS.fr t', hS.size, hS.defs, hS.keep⟩
 cases h1 with
 | d _ _ h1 =>
  generalize hv : ac.tmps.getD t undef = v at h1
  cases h1 with
  | f0 a cap hm hn => exact h a cap hm hn ac w (key a cap hv)
  | fs _ _ cap b off f hb ho hn hm hc h1 hx => exact h _ cap hm (fun e => by cases e) ac w (key _ cap hv)
theorem Imp.f0 {a : Option Addr} {cap : Nat} (hm : cap ≤ maxLen) (hn : a = none → cap = 0) : Imp (.d (.val (.slice a 0 cap))) (.d (.fs [] 0)) := fun _ _ _ v h => by
 cases h with
 | d _ _ h => cases h; exact .d _ _ (.f0 a cap hm hn)
theorem jg3 (l : List Wire) (hl : l.length ≤ 1000000) : za9 Try.prog 57 [zae l, zae l] (.d (oD true)) := by
 refine zbc (fn := Try.f57) (by kernel_rfl) Try.func57 rfl (Nat.le_of_ble_eq_true rfl) fun c hc hp => ?_
 refine zbf (τ' := frL [(0, .d (zae l)), (1, .d (zae l))]) (by repeat (first | exact zak _ | refine zah ?_ (by first | rfl | (simp [r_f, zaa]; done) | simp [r_f, zaa, *]))) ?_
 refine zac hp zaj hc rfl fun K1 hK1 => ?_
 simp -dsimp -implicitDefEqProofs (disch := first | assumption | omega | (simp only [r_z, zaa] <;> omega) | decide) only [r_r, ↓reduceIte, Nat.reduceEqDiff, Nat.reduceAdd, D.fix, Int.reduceToNat, Nat.reduceMul, Nat.reduceBNe, Nat.reduceBEq, zae, zca, za0, za5, r_e]
 refine hK1 _ _ ?_
 refine zam fun K2 hK2 => ?_
 refine zac hp zaj hc rfl fun K3 hK3 => ?_
 simp -dsimp -implicitDefEqProofs (disch := first | assumption | omega | (simp only [r_z, zaa] <;> omega) | decide) only [r_r, ↓reduceIte, Nat.reduceEqDiff, Nat.reduceAdd, D.fix, Int.reduceToNat, Nat.reduceMul, Nat.reduceBNe, Nat.reduceBEq, zae, zca, za0, za5, r_e, zn5]
 refine hK3 _ _ ?_
 refine zaq rfl (fun ht => ?_) (fun ht => ?_)
 ·simp at ht
 ·refine zay (hK2 _ _ ?_)
  refine zam fun K4 hK4 => ?_
  refine zac hp zaj hc rfl fun K5 hK5 => ?_
  simp -dsimp -implicitDefEqProofs (disch := first | assumption | omega | (simp only [r_z, zaa] <;> omega) | decide) only [r_r, ↓reduceIte, Nat.reduceEqDiff, Nat.reduceAdd, D.fix, Int.reduceToNat, Nat.reduceMul, Nat.reduceBNe, Nat.reduceBEq, zae, zca, za0, za5, r_e, zn5]
  refine hK5 _ _ ?_
  refine zaz ?_
  refine za7 hp (fun τ' H' mm => ∃ (k : Nat), (k ≤ l.length) ∧ mm = l.length - k ∧ H' = [] ∧ τ' = frL [(0, .d (zae l)), (1, .d (zae l)), (12, .d (iD l.length)), (13, .d (iD k))]) (l.length) ?_ ⟨0, Nat.zero_le _, rfl, rfl, rfl⟩ ?_
  ·refine Rt.end (by repeat (first | exact zak _ | refine zah ?_ (by first | rfl | (simp [r_f, zaa]; done) | simp [r_f, zaa, *]))) ?_
   first | rfl | (simp only [r_g, Nat.reduceAdd, ↓reduceIte, Nat.reduceEqDiff, zae, zca, za0, za5, r_e]; first | done | rfl)
  rintro τ' H' mm ⟨k, hk, rfl, rfl, rfl⟩
  refine zac hp zaj hc rfl fun K6 hK6 => ?_
  simp -dsimp -implicitDefEqProofs (disch := first | assumption | omega | (simp only [r_z, zaa] <;> omega) | decide) only [r_r, ↓reduceIte, Nat.reduceEqDiff, Nat.reduceAdd, D.fix, Int.reduceToNat, Nat.reduceMul, Nat.reduceBNe, Nat.reduceBEq, zae, zca, za0, za5, r_e, zn5]
  refine hK6 _ _ ?_
  refine zam fun K7 hK7 => ?_
  refine zaq rfl (fun ht => ?_) (fun ht => ?_)
  ·have hlt : k < l.length := by simp at ht; omega
   refine zay (hK7 _ _ ?_)
   refine zam fun K8 hK8 => ?_
   refine zaz ?_
   refine zac hp zaj hc rfl fun K9 hK9 => ?_
   simp -dsimp -implicitDefEqProofs (disch := first | assumption | omega | (simp only [r_z, zaa] <;> omega) | decide) only [r_r, ↓reduceIte, Nat.reduceEqDiff, Nat.reduceAdd, D.fix, Int.reduceToNat, Nat.reduceMul, Nat.reduceBNe, Nat.reduceBEq, zae, zca, za0, za5, r_e]
   refine hK9 _ _ ?_
   refine zbn zaj hc mixed rfl (q := 0) (by kernel_rfl) (by kernel_rfl) fun K10 hK10 => ?_
   simp -dsimp -implicitDefEqProofs (disch := first | assumption | omega | (simp only [r_z, zaa] <;> omega) | decide) only [r_r, ↓reduceIte, Nat.reduceEqDiff, Nat.reduceAdd, D.fix, Int.reduceToNat, Nat.reduceMul, Nat.reduceBNe, Nat.reduceBEq, zae, zca, za0, za5, r_e, zn5, zvv jgc, zvv jgc]
   refine hK10 _ _ ?_
   refine zaq rfl (fun ht => ?_) (fun ht => ?_)
   ·simp at ht
   ·refine zay (hK8 _ _ ?_)
    refine zbo hp zaj hc rfl fun K11 hK11 => ?_
    simp -dsimp -implicitDefEqProofs (disch := first | assumption | omega | (simp only [r_z, zaa] <;> omega) | decide) only [r_r, ↓reduceIte, Nat.reduceEqDiff, Nat.reduceAdd, D.fix, Int.reduceToNat, Nat.reduceMul, Nat.reduceBNe, Nat.reduceBEq, zae, zca, za0, za5, r_e, zn5]
    refine hK11 _ _ ⟨_, _, _, ?_, ⟨k + 1, by omega, rfl, rfl, rfl⟩, ?_⟩
    ·first | omega | (simp only [List.length_cons]; omega) | (dsimp only; omega)
    ·refine Rt.end (by repeat (first | exact zak _ | refine zah ?_ (by first | rfl | (simp [r_f, zaa]; done) | simp [r_f, zaa, *]))) ?_
     first | rfl | (simp only [r_g, Nat.reduceAdd, ↓reduceIte, Nat.reduceEqDiff, zae, zca, za0, za5, r_e]; first | done | rfl)
  ·refine zbj (hK4 _ _ ?_)
   refine zac hp zaj hc rfl fun K12 hK12 => ?_
   simp -dsimp -implicitDefEqProofs (disch := first | assumption | omega | (simp only [r_z, zaa] <;> omega) | decide) only [r_r, ↓reduceIte, Nat.reduceEqDiff, Nat.reduceAdd, D.fix, Int.reduceToNat, Nat.reduceMul, Nat.reduceBNe, Nat.reduceBEq, zae, zca, za0, za5, r_e]
   refine hK12 _ _ ?_
   refine za4 ?_
   show closeA _ _ = _
   simp (disch := first | assumption | omega | (simp only [r_z, zaa] <;> omega) | decide) only [r_c, Nat.reduceAdd, D.fix, ↓reduceIte, Nat.reduceEqDiff, zae, zca, za0, za5, r_e]
theorem zyb {P : Program} {t : TypeId} (h : zi0 P t = true) {a : Option Addr} {n c n' c' : Nat} : zf7 P .eql t (.slice a n c) (.slice none n' c') = some (.bool a.isNone) := by simp [zf7, h]
def jtj (l : List Gate) (x : AV) (S' : zar) : Prop := ∃ n, n = l.length ∧ x = .os 5 0 0 n ∧ S' = [.cells (avs (l.flatMap zap))]
theorem jlv : ScS Try.prog [] 59 [.d (zaf [])] ([.free]) (jtj []) := by
 refine zhd (fn := Try.f59) (by kernel_rfl) Try.func59 rfl (Nat.le_of_ble_eq_true rfl) fun c hc hp => ?_
 refine jbz ?_
 refine zac hp zaj hc rfl fun K1 hK1 => ?_
 simp -dsimp -implicitDefEqProofs (disch := first | assumption | omega | (simp only [r_z, zab] <;> omega) | decide) only [r_r, ↓reduceIte, Nat.reduceEqDiff, Nat.reduceAdd, D.fix, Int.reduceToNat, Nat.reduceMul, Nat.reduceBNe, Nat.reduceBEq, zaf, List.flatMap_nil, List.length_nil]
 refine hK1 _ _ ?_
 refine zam fun K2 hK2 => ?_
 refine jrz 0 rfl fun a cap hm hn => ?_
 have hst : zi0 Try.prog 30 = true := by kernel_rfl
 refine zac hp zaj hc rfl fun K3 hK3 => ?_
 rcases a with _ | a
 ·simp -dsimp -implicitDefEqProofs (disch := first | assumption | omega | (simp only [r_z, zab] <;> omega) | decide) only [r_r, ↓reduceIte, Nat.reduceEqDiff, Nat.reduceAdd, D.fix, Int.reduceToNat, Nat.reduceMul, Nat.reduceBNe, Nat.reduceBEq, zaf, List.flatMap_nil, List.length_nil, zyb hst, Option.isNone_none, Option.isNone_some, zn5]
  refine hK3 _ _ ?_
  refine zaq rfl (fun ht => ?_) (fun ht => ?_)
  ·refine zac hp zaj hc rfl fun K4 hK4 => ?_
   simp -dsimp -implicitDefEqProofs (disch := first | assumption | omega | (simp only [r_z, zab] <;> omega) | decide) only [r_r, ↓reduceIte, Nat.reduceEqDiff, Nat.reduceAdd, D.fix, Int.reduceToNat, Nat.reduceMul, Nat.reduceBNe, Nat.reduceBEq, zaf, List.flatMap_nil, List.length_nil]
   refine hK4 _ _ ?_
   refine zb2 hp (τ' := frL [(2, .os 5 0 0 0)]) (H' := [.cells []]) ?_ ?_
   ·refine Rt.trans (Rt.nil 2 5 rfl) ?_
    refine Rt.trans (Rt.gc (keep := [1]) (by decide) (by decide) (by simp [fzH, gcH])) ?_
    refine Rt.end (by repeat (first | exact zak _ | refine zah ?_ (by first | rfl | (simp [r_f, zab]; done) | simp [r_f, zab, *]))) ?_
    first | rfl | (simp only [r_g, Nat.reduceAdd, ↓reduceIte, Nat.reduceEqDiff, zaf, List.flatMap_nil, List.length_nil]; first | done | rfl)
   refine za4 ?_
   refine zbp (t := 2) rfl ?_
   show ∃ _, _
   exact ⟨_, rfl, rfl, rfl⟩
  ·cases ht
 ·simp -dsimp -implicitDefEqProofs (disch := first | assumption | omega | (simp only [r_z, zab] <;> omega) | decide) only [r_r, ↓reduceIte, Nat.reduceEqDiff, Nat.reduceAdd, D.fix, Int.reduceToNat, Nat.reduceMul, Nat.reduceBNe, Nat.reduceBEq, zaf, List.flatMap_nil, List.length_nil, zyb hst, Option.isNone_none, Option.isNone_some, zn5]
  refine hK3 _ _ ?_
  refine zaq rfl (fun ht => ?_) (fun ht => ?_)
  ·cases ht
  ·refine zay (hK2 _ _ ?_)
   refine zb2 hp (τ' := frL [(0, .d (.fs [] 0))]) (H' := [.free]) ?_ ?_
   ·refine Rt.trans (Rt.put 0 (Imp.f0 hm hn)) ?_
    refine Rt.end (by repeat (first | exact zak _ | refine zah ?_ (by first | rfl | (simp [r_f, zab]; done) | simp [r_f, zab, *]))) ?_
    first | rfl | (simp only [r_g, Nat.reduceAdd, ↓reduceIte, Nat.reduceEqDiff, zaf, List.flatMap_nil, List.length_nil]; first | done | rfl)
   refine zac hp zaj hc rfl fun K5 hK5 => ?_
   simp -dsimp -implicitDefEqProofs (disch := first | assumption | omega | (simp only [r_z, zab] <;> omega) | decide) only [r_r, ↓reduceIte, Nat.reduceEqDiff, Nat.reduceAdd, D.fix, Int.reduceToNat, Nat.reduceMul, Nat.reduceBNe, Nat.reduceBEq, zaf, List.flatMap_nil, List.length_nil, zn5]
   refine hK5 _ _ ?_
   refine zb2 hp (τ' := frL [(2, .os 5 0 0 0)]) (H' := [.cells []]) ?_ ?_
   ·refine Rt.trans (Rt.gc (keep := [2]) (by decide) (by decide) (by simp [fzH, gcH])) ?_
    refine Rt.end (by repeat (first | exact zak _ | refine zah ?_ (by first | rfl | (simp [r_f, zab]; done) | simp [r_f, zab, *]))) ?_
    first | rfl | (simp only [r_g, Nat.reduceAdd, ↓reduceIte, Nat.reduceEqDiff, zaf, List.flatMap_nil, List.length_nil]; first | done | rfl)
   refine za4 ?_
   refine zbp (t := 2) rfl ?_
   show ∃ _, _
   exact ⟨_, rfl, rfl, rfl⟩
theorem jlw (l : List Gate) (hl : l.length ≤ 1000000) (h0 : 0 < l.length) : ScS Try.prog [] 59 [.d (zaf l)] ([.free]) (jtj l) := by
 refine zhd (fn := Try.f59) (by kernel_rfl) Try.func59 rfl (Nat.le_of_ble_eq_true rfl) fun c hc hp => ?_
 refine jbz ?_
 refine zac hp zaj hc rfl fun K1 hK1 => ?_
 simp -dsimp -implicitDefEqProofs (disch := first | assumption | omega | (simp only [r_z, zab] <;> omega) | decide) only [r_r, ↓reduceIte, Nat.reduceEqDiff, Nat.reduceAdd, D.fix, Int.reduceToNat, Nat.reduceMul, Nat.reduceBNe, Nat.reduceBEq, zaf]
 refine hK1 _ _ ?_
 refine zam fun K2 hK2 => ?_
 have hnil : zrs Try.prog .eql 30 (.d (.fs (l.flatMap zap) l.length)) (.d (.val (.slice none 0 0))) = some (.d (.val (.bool false))) := jfq Try.underlying30 h0
 refine zac hp zaj hc rfl fun K3 hK3 => ?_
 simp -dsimp -implicitDefEqProofs (disch := first | assumption | omega | (simp only [r_z, zab] <;> omega) | decide) only [r_r, ↓reduceIte, Nat.reduceEqDiff, Nat.reduceAdd, D.fix, Int.reduceToNat, Nat.reduceMul, Nat.reduceBNe, Nat.reduceBEq, zaf, hnil, zn5]
 refine hK3 _ _ ?_
 refine zaq rfl (fun ht => ?_) (fun ht => ?_)
 ·cases ht
 ·refine zay (hK2 _ _ ?_)
  refine zac hp zaj hc rfl fun K4 hK4 => ?_
  simp -dsimp -implicitDefEqProofs (disch := first | assumption | omega | (simp only [r_z, zab] <;> omega) | decide) only [r_r, ↓reduceIte, Nat.reduceEqDiff, Nat.reduceAdd, D.fix, Int.reduceToNat, Nat.reduceMul, Nat.reduceBNe, Nat.reduceBEq, zaf, zn5]
  refine hK4 _ _ ?_
  refine zb2 hp (τ' := frL [(2, .os 5 0 0 l.length)]) (H' := [.cells (avs (l.flatMap zap))]) ?_ ?_
  ·refine Rt.trans (Rt.gc (keep := [2]) (by decide) (by decide) (by simp [fzH, gcH])) ?_
   refine Rt.end (by repeat (first | exact zak _ | refine zah ?_ (by first | rfl | (simp [r_f, zab]; done) | simp [r_f, zab, *]))) ?_
   first | rfl | (simp only [r_g, Nat.reduceAdd, ↓reduceIte, Nat.reduceEqDiff, zaf]; first | done | rfl)
  refine za4 ?_
  refine zbp (t := 2) rfl ?_
  show ∃ _, _
  exact ⟨_, rfl, rfl, rfl⟩
theorem jlx (l : List Gate) (hl : l.length ≤ 1000000) : ScS Try.prog [] 59 [.d (zaf l)] [.free] (jtj l) := by
 rcases l with _ | ⟨g, l⟩
 ·exact jlv
 ·exact jlw _ hl (by simp)
end Go.Proofs.Ytignimmnnccblaa

/- The miter, as the program builds it. -/
set_option linter.unusedVariables false
set_option linter.unusedSimpArgs false
set_option maxRecDepth 100000
set_option maxHeartbeats 4000000
namespace Go.Proofs.Ytignimmnnccblaa
open Go Go.RowKit
theorem zc2 : ((((((type_of% @zex) ∧ ((type_of% @zey) ∧ (type_of% @zfa))) ∧ (((type_of% @zc6) ∧ (type_of% @zc7)) ∧ ((type_of% @zds) ∧ (type_of% @zdt)))) ∧ ((((type_of% @zfq) ∧ (type_of% @zfr)) ∧ ((type_of% @zfs) ∧ (type_of% @zft))) ∧ (((type_of% @zh1) ∧ (type_of% @zh2)) ∧ ((type_of% @zhq) ∧ (type_of% @zhr))))) ∧ (((((type_of% @zh0) ∧ (type_of% @zhz)) ∧ ((type_of% @zcr) ∧ (type_of% @zcs))) ∧ (((type_of% @ze4) ∧ (type_of% @ze5)) ∧ ((type_of% @ze6) ∧ (type_of% @ze7)))) ∧ ((((type_of% @zmk) ∧ (type_of% @zml)) ∧ ((type_of% @zq4) ∧ (type_of% @zgu))) ∧ (((type_of% @zgv) ∧ (type_of% @jmn)) ∧ ((type_of% @jmm) ∧ (type_of% @zy8)))))) ∧ ((((((type_of% @zlj) ∧ (type_of% @zlk)) ∧ ((type_of% @zll) ∧ (type_of% @zn0))) ∧ (((type_of% @zn1) ∧ (type_of% @zss)) ∧ ((type_of% @zsr) ∧ (type_of% @zsj)))) ∧ ((((type_of% @zii) ∧ (type_of% @zij)) ∧ ((type_of% @zik) ∧ (type_of% @zil))) ∧ (((type_of% @zkv) ∧ (type_of% @zku)) ∧ ((type_of% @zfe) ∧ (type_of% @zff))))) ∧ (((((type_of% @zfg) ∧ (type_of% @zfh)) ∧ ((type_of% @zfi) ∧ (type_of% @zfj))) ∧ (((type_of% @zfc) ∧ (type_of% @zfd)) ∧ ((type_of% @zde) ∧ (type_of% @zdf)))) ∧ ((((type_of% @zdg) ∧ (type_of% @zdq)) ∧ ((type_of% @zst) ∧ (type_of% @zim))) ∧ (((type_of% @zin) ∧ (type_of% @zio)) ∧ ((type_of% @ziq) ∧ (type_of% @zit))))))) := ⟨⟨⟨⟨⟨@zex, ⟨@zey, @zfa⟩⟩, ⟨⟨@zc6, @zc7⟩, ⟨@zds, @zdt⟩⟩⟩, ⟨⟨⟨@zfq, @zfr⟩, ⟨@zfs, @zft⟩⟩, ⟨⟨@zh1, @zh2⟩, ⟨@zhq, @zhr⟩⟩⟩⟩, ⟨⟨⟨⟨@zh0, @zhz⟩, ⟨@zcr, @zcs⟩⟩, ⟨⟨@ze4, @ze5⟩, ⟨@ze6, @ze7⟩⟩⟩, ⟨⟨⟨@zmk, @zml⟩, ⟨@zq4, @zgu⟩⟩, ⟨⟨@zgv, @jmn⟩, ⟨@jmm, @zy8⟩⟩⟩⟩⟩, ⟨⟨⟨⟨⟨@zlj, @zlk⟩, ⟨@zll, @zn0⟩⟩, ⟨⟨@zn1, @zss⟩, ⟨@zsr, @zsj⟩⟩⟩, ⟨⟨⟨@zii, @zij⟩, ⟨@zik, @zil⟩⟩, ⟨⟨@zkv, @zku⟩, ⟨@zfe, @zff⟩⟩⟩⟩, ⟨⟨⟨⟨@zfg, @zfh⟩, ⟨@zfi, @zfj⟩⟩, ⟨⟨@zfc, @zfd⟩, ⟨@zde, @zdf⟩⟩⟩, ⟨⟨⟨@zdg, @zdq⟩, ⟨@zst, @zim⟩⟩, ⟨⟨@zin, @zio⟩, ⟨@ziq, @zit⟩⟩⟩⟩⟩⟩
theorem Rt.fr1 {m : List Nat} {τ : Fr} {H : zar} : Rt m τ H τ (H ++ [.free]) := fun c a w _ h => R.reserve 1 H h
theorem zs9 {l m : List Wire} (h : m = l) (hl : l.length ≤ 1000000) : za9 Try.prog 57 [zae l, zae m] (.d (oD true)) := by subst h; exact jg3 m hl
theorem zyc (a b : Int) : a + (b + 1) - 1 = a + b := by omega
def zbm : AObj := .cells [.d (.val (.slice none 0 0)), .d (.val (.slice none 0 0)), .d (.val (.slice none 0 0)), .d (.val (.slice none 0 0))]
def zck (a b : Net) : zar := [.cells (avs (zax a)), .cells (avs (zax b)), zbm, .cells [.d (iD (2 + a.ins.length))]]
def zcl (a b : Net) (l : List Gate) : zar := zck a b ++ [.cells [.d (zae a.ins), .os 5 5 0 l.length, .d (.fs (za5 ⟨6, 0, 0⟩) 1), .d (.val (.slice none 0 0))], .cells (avs (l.flatMap zap))]
def ju2 (S : zar) (y x : AV) (S' : zar) : Prop := ∃ z, z = y ∧ x = z ∧ S' = S
def ju3 (a b : Net) (l : List Gate) (g : Gate) (x : AV) (S' : zar) : Prop := ∃ m, m = l ++ [g] ∧ x = .d (iD (2 + a.ins.length + l.length)) ∧ S' = zcl a b m
theorem zq0 (a b : Net) (x : Int) (hi : a.ins.length ≤ 1000) (hg : a.gates.length ≤ 1000) (hx0 : 0 ≤ x) (hx1 : x ≤ 1000000) : ScS Try.prog [0, 1, 2, 3] 58 [.d (iD x), .op 3 0, .op 0 0] (zck a b) (ju2 (zck a b) (.d (iD (mvI (2 + a.ins.length) a.gates.length x)))) := by
 refine zhd (fn := Try.f58) (by kernel_rfl) Try.func58 rfl (Nat.le_of_ble_eq_true rfl) fun c hc hp => ?_
 refine jb1 ?_
 unfold zck zbm
 refine zac hp zaj hc rfl fun K1 hK1 => ?_
 simp -dsimp -implicitDefEqProofs (disch := first | assumption | omega | (simp only [r_z, zab, zaa] <;> omega) | decide) only [r_r, ↓reduceIte, Nat.reduceEqDiff, Nat.reduceAdd, D.fix, Int.reduceToNat, Nat.reduceMul, Nat.reduceBNe, Nat.reduceBEq, zax, zae, zaf]
 refine hK1 _ _ ?_
 refine zam fun K2 hK2 => ?_
 refine zac hp zaj hc rfl fun K3 hK3 => ?_
 by_cases q : x < 2 + (a.ins.length : Int)
 ·have e : mvI (2 + a.ins.length) a.gates.length x = x := by unfold mvI; rw [if_pos (by omega)]
  simp -dsimp -implicitDefEqProofs (disch := first | assumption | omega | (simp only [r_z, zab, zaa] <;> omega) | decide) only [r_r, ↓reduceIte, Nat.reduceEqDiff, Nat.reduceAdd, D.fix, Int.reduceToNat, Nat.reduceMul, Nat.reduceBNe, Nat.reduceBEq, zax, zae, zaf, q, decide_true, decide_false, zc2]
  refine hK3 _ _ ?_
  refine zaq rfl (fun ht => ?_) (fun ht => ?_)
  ·refine zac hp zaj hc rfl fun K4 hK4 => ?_
   simp -dsimp -implicitDefEqProofs (disch := first | assumption | omega | (simp only [r_z, zab, zaa] <;> omega) | decide) only [r_r, ↓reduceIte, Nat.reduceEqDiff, Nat.reduceAdd, D.fix, Int.reduceToNat, Nat.reduceMul, Nat.reduceBNe, Nat.reduceBEq, zax, zae, zaf]
   refine hK4 _ _ ?_
   refine za4 ?_
   refine zbp (t := 4) rfl ?_
   show ∃ _, _
   exact ⟨_, rfl, by rw [e]; rfl, rfl⟩
  ·cases ht
 ·have e : mvI (2 + a.ins.length) a.gates.length x = x + a.gates.length := by unfold mvI; rw [if_neg (by omega)]
  simp -dsimp -implicitDefEqProofs (disch := first | assumption | omega | (simp only [r_z, zab, zaa] <;> omega) | decide) only [r_r, ↓reduceIte, Nat.reduceEqDiff, Nat.reduceAdd, D.fix, Int.reduceToNat, Nat.reduceMul, Nat.reduceBNe, Nat.reduceBEq, zax, zae, zaf, q, decide_true, decide_false, zc2]
  refine hK3 _ _ ?_
  refine zaq rfl (fun ht => ?_) (fun ht => ?_)
  ·cases ht
  ·refine zay (hK2 _ _ ?_)
   refine zac hp zaj hc rfl fun K5 hK5 => ?_
   simp -dsimp -implicitDefEqProofs (disch := first | assumption | omega | (simp only [r_z, zab, zaa] <;> omega) | decide) only [r_r, ↓reduceIte, Nat.reduceEqDiff, Nat.reduceAdd, D.fix, Int.reduceToNat, Nat.reduceMul, Nat.reduceBNe, Nat.reduceBEq, zax, zae, zaf, zc2]
   refine hK5 _ _ ?_
   refine za4 ?_
   refine zbp (t := 4) rfl ?_
   show ∃ _, _
   exact ⟨_, rfl, by rw [e]; rfl, rfl⟩
theorem jly (a b : Net) (l : List Gate) (g : Gate) (hi : a.ins.length ≤ 1000) (hl : l.length ≤ 10000) : ScS Try.prog [0, 1, 2, 3, 4] 60 [.agg ((zap g).map .d), .op 4 0, .op 3 0] (zcl a b l) (ju3 a b l g) := by
 refine zhd (fn := Try.f60) (by kernel_rfl) Try.func60 rfl (Nat.le_of_ble_eq_true rfl) fun c hc hp => ?_
 refine jb1 ?_
 unfold zcl zck zbm
 refine zac hp zaj hc rfl fun K1 hK1 => ?_
 simp -dsimp -implicitDefEqProofs (disch := first | assumption | omega | (simp only [r_z, zab, zaa] <;> omega) | decide) only [r_r, ↓reduceIte, Nat.reduceEqDiff, Nat.reduceAdd, D.fix, Int.reduceToNat, Nat.reduceMul, Nat.reduceBNe, Nat.reduceBEq, zax, zae, zaf, zap, zc2]
 refine hK1 _ _ ?_
 refine zac hp zaj hc rfl fun K2 hK2 => ?_
 simp -dsimp -implicitDefEqProofs (disch := first | assumption | omega | (simp only [r_z, zab, zaa] <;> omega) | decide) only [r_r, ↓reduceIte, Nat.reduceEqDiff, Nat.reduceAdd, D.fix, Int.reduceToNat, Nat.reduceMul, Nat.reduceBNe, Nat.reduceBEq, zax, zae, zaf, zap, zc2]
 refine hK2 _ _ ?_
 refine zac hp zaj hc rfl fun K3 hK3 => ?_
 simp -dsimp -implicitDefEqProofs (disch := first | assumption | omega | (simp only [r_z, zab, zaa] <;> omega) | decide) only [r_r, ↓reduceIte, Nat.reduceEqDiff, Nat.reduceAdd, D.fix, Int.reduceToNat, Nat.reduceMul, Nat.reduceBNe, Nat.reduceBEq, zax, zae, zaf, zap, zc2]
 refine hK3 _ _ ?_
 refine zb2 hp (τ' := frL [(4, .d (iD (2 + a.ins.length + l.length)))]) (H' := zcl a b (l ++ [g])) ?_ ?_
 ·refine Rt.trans (Rt.gc (keep := [0,1,2,3,4,8]) (by decide) (by decide) (by simp [fzH, gcH])) ?_
  refine Rt.end (by repeat (first | exact zak _ | refine zah ?_ (by first | rfl | (simp [r_f, zab, zaa, zyc]; done) | simp [r_f, zab, zaa, zyc, *]))) ?_
  simp only [r_g, Nat.reduceAdd, ↓reduceIte, Nat.reduceEqDiff, zax, zae, zaf, zap]; simp [zcl, zck, zbm, zax, zae, zaf, zap, avs, iD, intsD]
 refine za4 ?_
 refine zbp (t := 4) rfl ?_
 show ∃ _, _
 exact ⟨_, rfl, rfl, rfl⟩
def gA6 (g : Gate) : AObj := .cells ((zap g).map .d)
def zco (a b : Net) (l : List Gate) : zar := [.cells [.d (zae a.ins), .os 5 5 0 l.length, .d (.fs (za5 ⟨6, 0, 0⟩) 1), .d (.val (.slice none 0 0))], .cells (avs (l.flatMap zap))]
def je6 (base : Nat) (i : Nat) : List D := (List.range i).map fun j => iD ((base + j : Nat) : Int)
theorem zba (base i : Nat) : (je6 base i).length = i := by simp [je6]
theorem jlz {base n i : Nat} (h : i < n) : (je6 base n)[i]? = some (iD ((base + i : Nat) : Int)) := by simp [je6, h]
def jen (base k : Nat) (i : Nat) : Int := if i = 0 then 0 else zya base k (i - 1)
theorem zud (a b : Net) (hI : b.ins = a.ins) (hO : b.out = a.out) (hm : MitOk (2 + a.ins.length) a b) (hi : a.ins.length ≤ 100) (ho : a.out.length ≤ 1000) (hga : a.gates.length ≤ 200) (hgb : b.gates.length ≤ 200) (hd : 1 ≤ a.drive.length) (hd9 : a.drive.length ≤ 20) : za9 Try.prog 39 [zas a, zas b] (.tup [.d (zas (zhw a b)), .d (iD 0)]) := by
 have hdl := hm.dl
 refine zbc (fn := Try.f39) (by kernel_rfl) Try.func39 rfl (Nat.le_of_ble_eq_true rfl) fun c hc hp => ?_
 refine zbf (τ' := frL [(0, .d (zas a)), (1, .d (zas b))]) (by repeat (first | exact zak _ | refine zah ?_ (by first | rfl | (simp [r_f, zab, zaa, zba]; done) | simp [r_f, zab, zaa, zba, *]))) ?_
 refine zac hp zaj hc rfl fun K1 hK1 => ?_
 simp -dsimp -implicitDefEqProofs (disch := first | assumption | omega | (simp only [r_z, zab, zaa, zba] <;> omega) | decide) only [r_r, ↓reduceIte, Nat.reduceEqDiff, Nat.reduceAdd, D.fix, Int.reduceToNat, Nat.reduceMul, Nat.reduceBNe, Nat.reduceBEq, zas, zax, zae, zaf, zcl, zck, zco, zbm, gA6, zap, List.cons_append, List.nil_append, zc2]
 refine hK1 _ _ ?_
 refine zam fun K2 hK2 => ?_
 refine zac hp zaj hc rfl fun K3 hK3 => ?_
 simp -dsimp -implicitDefEqProofs (disch := first | assumption | omega | (simp only [r_z, zab, zaa, zba] <;> omega) | decide) only [r_r, ↓reduceIte, Nat.reduceEqDiff, Nat.reduceAdd, D.fix, Int.reduceToNat, Nat.reduceMul, Nat.reduceBNe, Nat.reduceBEq, zas, zax, zae, zaf, zcl, zck, zco, zbm, gA6, zap, List.cons_append, List.nil_append, zc2]
 refine zb4 (zs9 hI (by omega)) rfl ?_
 simp -dsimp -implicitDefEqProofs (disch := first | assumption | omega | (simp only [r_z, zab, zaa, zba] <;> omega) | decide) only [r_r, ↓reduceIte, Nat.reduceEqDiff, Nat.reduceAdd, D.fix, Int.reduceToNat, Nat.reduceMul, Nat.reduceBNe, Nat.reduceBEq, zas, zax, zae, zaf, zcl, zck, zco, zbm, gA6, zap, List.cons_append, List.nil_append, zc2]
 refine zb4 (zs9 hO (by omega)) rfl ?_
 simp -dsimp -implicitDefEqProofs (disch := first | assumption | omega | (simp only [r_z, zab, zaa, zba] <;> omega) | decide) only [r_r, ↓reduceIte, Nat.reduceEqDiff, Nat.reduceAdd, D.fix, Int.reduceToNat, Nat.reduceMul, Nat.reduceBNe, Nat.reduceBEq, zas, zax, zae, zaf, zcl, zck, zco, zbm, gA6, zap, List.cons_append, List.nil_append, zc2]
 refine hK3 _ _ ?_
 refine zaq rfl (fun ht => ?_) (fun ht => ?_)
 ·cases ht
 ·refine zay (hK2 _ _ ?_)
  refine zac hp zaj hc rfl fun K4 hK4 => ?_
  simp -dsimp -implicitDefEqProofs (disch := first | assumption | omega | (simp only [r_z, zab, zaa, zba] <;> omega) | decide) only [r_r, ↓reduceIte, Nat.reduceEqDiff, Nat.reduceAdd, D.fix, Int.reduceToNat, Nat.reduceMul, Nat.reduceBNe, Nat.reduceBEq, zas, zax, zae, zaf, zcl, zck, zco, zbm, gA6, zap, List.cons_append, List.nil_append, zc2]
  refine hK4 _ _ ?_
  refine zac hp zaj hc rfl fun K5 hK5 => ?_
  simp -dsimp -implicitDefEqProofs (disch := first | assumption | omega | (simp only [r_z, zab, zaa, zba] <;> omega) | decide) only [r_r, ↓reduceIte, Nat.reduceEqDiff, Nat.reduceAdd, D.fix, Int.reduceToNat, Nat.reduceMul, Nat.reduceBNe, Nat.reduceBEq, zas, zax, zae, zaf, zcl, zck, zco, zbm, gA6, zap, List.cons_append, List.nil_append]
  refine hK5 _ _ ?_
  refine zb2 hp (τ' := frL [(2, .op 1 0), (3, .op 2 0), (4, .op 3 0), (5, .d (iD 0)), (6, .op 4 0), (7, .clo (.func 58) [] [.op 4 0, .op 1 0])]) (H' := .free :: zck a b) ?_ ?_
  ·refine Rt.trans (Rt.fr1) ?_
   refine Rt.trans (Rt.gc (keep := [4,0,1,2,3]) (by decide) (by decide) (by simp [fzH, gcH])) ?_
   refine Rt.end (by repeat (first | exact zak _ | refine zah ?_ (by first | rfl | (simp [r_f, zab, zaa, zba]; done) | simp [r_f, zab, zaa, zba, *]))) ?_
   first | rfl | (simp only [r_g, Nat.reduceAdd, ↓reduceIte, Nat.reduceEqDiff, zas, zax, zae, zaf, zcl, zck, zco, zbm, gA6, zap, List.cons_append, List.nil_append]; first | done | rfl)
  refine zd5 zaj hp hc mixed rfl [(0, []), (1, []), (2, []), (3, []), (5, []), (6, []), (8, []), (4, [1]), (7, []), (9, [])] [[], [0], [], [2], [2, 3], [], [5], [0, 1, 2, 3, 4, 5, 6], [], [0, 1, 2, 3, 4, 5, 6, 7, 8]] 2 (by kernel_rfl) fun K6 hK6 => ?_
  simp -dsimp -implicitDefEqProofs (disch := first | assumption | omega | (simp only [r_z, zab, zaa, zba] <;> omega) | decide) only [r_r, ↓reduceIte, Nat.reduceEqDiff, Nat.reduceAdd, D.fix, Int.reduceToNat, Nat.reduceMul, Nat.reduceBNe, Nat.reduceBEq, r_w, zas, zax, zae, zaf, zcl, zck, zco, zbm, gA6, zap, List.cons_append, List.nil_append, zc2]
  refine znh (S := [.free]) (T := zck a b ++ [.dead, zbm]) (jlx a.gates (by omega)) rfl (Nat.le_of_ble_eq_true rfl) (by first | rfl | (simp [AV.allIs, AV.allI, za1, zat, zau, okI, ltI, zao, zbb, zcl, zck, zco, gA6, zbm, zap]; done) | (intro o ho; simp at ho; done)) (fun t => zbr (by first | rfl | (simp [AV.allIs, AV.allI, za1, zat, zau, okI, ltI, zao, zbb, zcl, zck, zco, gA6, zbm, zap]; done) | (intro o ho; simp at ho; done)) t) (fun t => zbr (by first | rfl | (simp [AV.allIs, AV.allI, za1, zat, zau, okI, ltI, zao, zbb, zcl, zck, zco, gA6, zbm, zap]; done) | (intro o ho; simp at ho; done)) t) (by first | rfl | (simp [AV.allIs, AV.allI, za1, zat, zau, okI, ltI, zao, zbb, zcl, zck, zco, gA6, zbm, zap]; done) | (intro o ho; simp at ho; done)) (by first | rfl | (simp [AV.allIs, AV.allI, za1, zat, zau, okI, ltI, zao, zbb, zcl, zck, zco, gA6, zbm, zap]; done) | (intro o ho; simp at ho; done)) (by first | rfl | (simp [AV.allIs, AV.allI, za1, zat, zau, okI, ltI, zao, zbb, zcl, zck, zco, gA6, zbm, zap]; done) | (intro o ho; simp at ho; done)) ?_
  rintro _ _ ⟨n, rfl, rfl, rfl⟩
  refine ⟨rfl, ?_⟩
  simp -dsimp -implicitDefEqProofs (disch := first | assumption | omega | (simp only [r_z, zab, zaa, zba] <;> omega) | decide) only [r_r, ↓reduceIte, Nat.reduceEqDiff, Nat.reduceAdd, D.fix, Int.reduceToNat, Nat.reduceMul, Nat.reduceBNe, Nat.reduceBEq, r_w, zas, zax, zae, zaf, zcl, zck, zco, zbm, gA6, zap, List.cons_append, List.nil_append, zc2]
  refine hK6 _ _ ?_
  refine zac hp zaj hc rfl fun K7 hK7 => ?_
  simp -dsimp -implicitDefEqProofs (disch := first | assumption | omega | (simp only [r_z, zab, zaa, zba] <;> omega) | decide) only [r_r, ↓reduceIte, Nat.reduceEqDiff, Nat.reduceAdd, D.fix, Int.reduceToNat, Nat.reduceMul, Nat.reduceBNe, Nat.reduceBEq, zas, zax, zae, zaf, zcl, zck, zco, zbm, gA6, zap, List.cons_append, List.nil_append]
  refine hK7 _ _ ?_
  refine zam fun K8 hK8 => ?_
  refine zac hp zaj hc rfl fun K9 hK9 => ?_
  simp -dsimp -implicitDefEqProofs (disch := first | assumption | omega | (simp only [r_z, zab, zaa, zba] <;> omega) | decide) only [r_r, ↓reduceIte, Nat.reduceEqDiff, Nat.reduceAdd, D.fix, Int.reduceToNat, Nat.reduceMul, Nat.reduceBNe, Nat.reduceBEq, zas, zax, zae, zaf, zcl, zck, zco, zbm, gA6, zap, List.cons_append, List.nil_append, zc2]
  refine hK9 _ _ ?_
  refine zaz ?_
  refine za7 hp (fun τ' H' mm => ∃ (q : Nat) (l : List Gate), (q ≤ b.gates.length ∧ l = a.gates ++ (b.gates.map (mvG (2 + a.ins.length) a.gates.length)).take q) ∧ mm = b.gates.length - q ∧ H' = zcl a b l ∧ τ' = frL [(2, .op 0 0), (3, .op 1 0), (4, .op 2 0), (5, .d (iD 0)), (6, .op 3 0), (7, .clo (.func 58) [] [.op 3 0, .op 0 0]), (8, .op 4 0), (9, .clo (.func 60) [] [.op 4 0, .op 3 0]), (48, .d (zaf b.gates)), (49, .d (iD b.gates.length)), (50, .d (iD q))]) (b.gates.length) ?_ ⟨0, a.gates, ⟨Nat.zero_le _, by simp⟩, rfl, rfl, rfl⟩ ?_
  ·refine Rt.trans (Rt.gc (keep := [1,2,3,4,6,0]) (by decide) (by decide) (by simp [fzH, gcH])) ?_
   refine Rt.end (by repeat (first | exact zak _ | refine zah ?_ (by first | rfl | (simp [r_f, zab, zaa, zba]; done) | simp [r_f, zab, zaa, zba, *]))) ?_
   first | rfl | (simp only [r_g, Nat.reduceAdd, ↓reduceIte, Nat.reduceEqDiff, zas, zax, zae, zaf, zcl, zck, zco, zbm, gA6, zap, List.cons_append, List.nil_append]; first | done | rfl)
  rintro τ' H' mm ⟨q, l, ⟨hq, hl⟩, rfl, rfl, rfl⟩
  have hll : l.length = a.gates.length + q := by rw [hl]; simp; omega
  refine zac hp zaj hc rfl fun K10 hK10 => ?_
  simp -dsimp -implicitDefEqProofs (disch := first | assumption | omega | (simp only [r_z, zab, zaa, zba] <;> omega) | decide) only [r_r, ↓reduceIte, Nat.reduceEqDiff, Nat.reduceAdd, D.fix, Int.reduceToNat, Nat.reduceMul, Nat.reduceBNe, Nat.reduceBEq, zas, zax, zae, zaf, zcl, zck, zco, zbm, gA6, zap, List.cons_append, List.nil_append, zc2]
  refine hK10 _ _ ?_
  refine zam fun K11 hK11 => ?_
  refine zaq rfl (fun ht => ?_) (fun ht => ?_)
  ·have hlt : q < b.gates.length := by simp at ht; omega
   have hg := hm.gb q hlt
   have a0 := hg.a0; have a1 := hg.a1; have b0 := hg.b0; have b1 := hg.b1; have c0 := hg.c0; have c1 := hg.c1
   refine zay (hK11 _ _ ?_)
   refine zam fun K12 hK12 => ?_
   refine zaz ?_
   refine zac hp zaj hc rfl fun K13 hK13 => ?_
   simp -dsimp -implicitDefEqProofs (disch := first | assumption | omega | (simp only [r_z, zab, zaa, zba] <;> omega) | decide) only [r_r, ↓reduceIte, Nat.reduceEqDiff, Nat.reduceAdd, D.fix, Int.reduceToNat, Nat.reduceMul, Nat.reduceBNe, Nat.reduceBEq, zas, zax, zae, zaf, zcl, zck, zco, zbm, gA6, zap, List.cons_append, List.nil_append, zav, zaw, zap, zc2]
   refine hK13 _ _ ?_
   refine zb2 hp (τ' := frL [(2, .op 0 0), (3, .op 1 0), (4, .op 2 0), (5, .d (iD 0)), (6, .op 3 0), (7, .clo (.func 58) [] [.op 3 0, .op 0 0]), (8, .op 4 0), (9, .clo (.func 60) [] [.op 4 0, .op 3 0]), (11, .op 6 0), (48, .d (zaf b.gates)), (49, .d (iD b.gates.length)), (50, .d (iD q))]) (H' := zck a b ++ (zco a b l ++ [gA6 (nth b.gates q)])) ?_ ?_
   ·refine Rt.trans (Rt.gc (keep := [0,1,2,3,4,5,6]) (by decide) (by decide) (by simp [fzH, gcH])) ?_
    refine Rt.end (by repeat (first | exact zak _ | refine zah ?_ (by first | rfl | (simp [r_f, zab, zaa, zba]; done) | simp [r_f, zab, zaa, zba, *]))) ?_
    first | rfl | (simp only [r_g, Nat.reduceAdd, ↓reduceIte, Nat.reduceEqDiff, zas, zax, zae, zaf, zcl, zck, zco, zbm, gA6, zap, List.cons_append, List.nil_append]; first | done | rfl)
   refine zd5 zaj hp hc mixed rfl [(0, []), (1, []), (2, []), (4, []), (5, []), (6, []), (8, []), (9, []), (10, []), (3, [6, 10]), (12, []), (7, [10]), (11, []), (13, []), (14, []), (15, []), (16, []), (17, [])] [[], [], [1], [0, 1, 2], [], [], [5], [0, 1, 2, 3, 4, 5, 6], [], [], [9], [0, 1, 2, 3, 4, 5, 6, 7, 8, 9, 10], [0, 1, 2, 3, 5, 6, 9, 10], [0, 1, 2, 3, 4, 5, 6, 7, 8, 9, 10, 11, 12], [0, 1, 2, 3, 4, 5, 6, 7, 8, 9, 10, 11, 12, 13], [0, 1, 2, 3, 4, 5, 6, 7, 8, 9, 10, 11, 12, 13, 14], [0, 1, 2, 3, 4, 5, 6, 7, 8, 9, 10, 11, 12, 13, 14, 15], [0, 1, 2, 3, 4, 5, 6, 7, 8, 9, 10, 11, 12, 13, 14, 15, 16]] 0 (by kernel_rfl) fun K14 hK14 => ?_
   simp -dsimp -implicitDefEqProofs (disch := first | assumption | omega | (simp only [r_z, zab, zaa, zba] <;> omega) | decide) only [r_r, ↓reduceIte, Nat.reduceEqDiff, Nat.reduceAdd, D.fix, Int.reduceToNat, Nat.reduceMul, Nat.reduceBNe, Nat.reduceBEq, r_w, zas, zax, zae, zaf, zcl, zck, zco, zbm, gA6, zap, List.cons_append, List.nil_append, zc2]
   refine zot (S := zck a b) (T := zco a b l ++ [gA6 (nth b.gates q)]) (zq0 a b (nth b.gates q).a (by omega) (by omega) (by omega) (by omega)) rfl (Nat.le_of_ble_eq_true rfl) (by first | rfl | (simp [AV.allIs, AV.allI, za1, zat, zau, okI, ltI, zao, zbb, zcl, zck, zco, gA6, zbm, zap]; done) | (intro o ho; simp at ho; done)) (fun t => zbr (by first | rfl | (simp [AV.allIs, AV.allI, za1, zat, zau, okI, ltI, zao, zbb, zcl, zck, zco, gA6, zbm, zap]; done) | (intro o ho; simp at ho; done)) t) (fun t => zbr (by first | rfl | (simp [AV.allIs, AV.allI, za1, zat, zau, okI, ltI, zao, zbb, zcl, zck, zco, gA6, zbm, zap]; done) | (intro o ho; simp at ho; done)) t) (by first | rfl | (simp [AV.allIs, AV.allI, za1, zat, zau, okI, ltI, zao, zbb, zcl, zck, zco, gA6, zbm, zap]; done) | (intro o ho; simp at ho; done)) (by first | rfl | (simp [AV.allIs, AV.allI, za1, zat, zau, okI, ltI, zao, zbb, zcl, zck, zco, gA6, zbm, zap]; done) | (intro o ho; simp at ho; done)) (by first | rfl | (simp [AV.allIs, AV.allI, za1, zat, zau, okI, ltI, zao, zbb, zcl, zck, zco, gA6, zbm, zap]; done) | (intro o ho; simp at ho; done)) ?_
   rintro _ _ ⟨_, rfl, rfl, rfl⟩
   refine ⟨rfl, ?_⟩
   simp -dsimp -implicitDefEqProofs (disch := first | assumption | omega | (simp only [r_z, zab, zaa, zba] <;> omega) | decide) only [r_r, ↓reduceIte, Nat.reduceEqDiff, Nat.reduceAdd, D.fix, Int.reduceToNat, Nat.reduceMul, Nat.reduceBNe, Nat.reduceBEq, r_w, zas, zax, zae, zaf, zcl, zck, zco, zbm, gA6, zap, List.cons_append, List.nil_append, zc2]
   refine zot (S := zck a b) (T := zco a b l ++ [gA6 (nth b.gates q)]) (zq0 a b (nth b.gates q).b (by omega) (by omega) (by omega) (by omega)) rfl (Nat.le_of_ble_eq_true rfl) (by first | rfl | (simp [AV.allIs, AV.allI, za1, zat, zau, okI, ltI, zao, zbb, zcl, zck, zco, gA6, zbm, zap]; done) | (intro o ho; simp at ho; done)) (fun t => zbr (by first | rfl | (simp [AV.allIs, AV.allI, za1, zat, zau, okI, ltI, zao, zbb, zcl, zck, zco, gA6, zbm, zap]; done) | (intro o ho; simp at ho; done)) t) (fun t => zbr (by first | rfl | (simp [AV.allIs, AV.allI, za1, zat, zau, okI, ltI, zao, zbb, zcl, zck, zco, gA6, zbm, zap]; done) | (intro o ho; simp at ho; done)) t) (by first | rfl | (simp [AV.allIs, AV.allI, za1, zat, zau, okI, ltI, zao, zbb, zcl, zck, zco, gA6, zbm, zap]; done) | (intro o ho; simp at ho; done)) (by first | rfl | (simp [AV.allIs, AV.allI, za1, zat, zau, okI, ltI, zao, zbb, zcl, zck, zco, gA6, zbm, zap]; done) | (intro o ho; simp at ho; done)) (by first | rfl | (simp [AV.allIs, AV.allI, za1, zat, zau, okI, ltI, zao, zbb, zcl, zck, zco, gA6, zbm, zap]; done) | (intro o ho; simp at ho; done)) ?_
   rintro _ _ ⟨_, rfl, rfl, rfl⟩
   refine ⟨rfl, ?_⟩
   simp -dsimp -implicitDefEqProofs (disch := first | assumption | omega | (simp only [r_z, zab, zaa, zba] <;> omega) | decide) only [r_r, ↓reduceIte, Nat.reduceEqDiff, Nat.reduceAdd, D.fix, Int.reduceToNat, Nat.reduceMul, Nat.reduceBNe, Nat.reduceBEq, r_w, zas, zax, zae, zaf, zcl, zck, zco, zbm, gA6, zap, List.cons_append, List.nil_append, zc2]
   refine zot (S := zck a b) (T := zco a b l ++ [gA6 (nth b.gates q)]) (zq0 a b (nth b.gates q).c (by omega) (by omega) (by omega) (by omega)) rfl (Nat.le_of_ble_eq_true rfl) (by first | rfl | (simp [AV.allIs, AV.allI, za1, zat, zau, okI, ltI, zao, zbb, zcl, zck, zco, gA6, zbm, zap]; done) | (intro o ho; simp at ho; done)) (fun t => zbr (by first | rfl | (simp [AV.allIs, AV.allI, za1, zat, zau, okI, ltI, zao, zbb, zcl, zck, zco, gA6, zbm, zap]; done) | (intro o ho; simp at ho; done)) t) (fun t => zbr (by first | rfl | (simp [AV.allIs, AV.allI, za1, zat, zau, okI, ltI, zao, zbb, zcl, zck, zco, gA6, zbm, zap]; done) | (intro o ho; simp at ho; done)) t) (by first | rfl | (simp [AV.allIs, AV.allI, za1, zat, zau, okI, ltI, zao, zbb, zcl, zck, zco, gA6, zbm, zap]; done) | (intro o ho; simp at ho; done)) (by first | rfl | (simp [AV.allIs, AV.allI, za1, zat, zau, okI, ltI, zao, zbb, zcl, zck, zco, gA6, zbm, zap]; done) | (intro o ho; simp at ho; done)) (by first | rfl | (simp [AV.allIs, AV.allI, za1, zat, zau, okI, ltI, zao, zbb, zcl, zck, zco, gA6, zbm, zap]; done) | (intro o ho; simp at ho; done)) ?_
   rintro _ _ ⟨_, rfl, rfl, rfl⟩
   refine ⟨rfl, ?_⟩
   simp -dsimp -implicitDefEqProofs (disch := first | assumption | omega | (simp only [r_z, zab, zaa, zba] <;> omega) | decide) only [r_r, ↓reduceIte, Nat.reduceEqDiff, Nat.reduceAdd, D.fix, Int.reduceToNat, Nat.reduceMul, Nat.reduceBNe, Nat.reduceBEq, r_w, zas, zax, zae, zaf, zcl, zck, zco, zbm, gA6, zap, List.cons_append, List.nil_append, zc2]
   refine hK14 _ _ ?_
   refine zbo hp zaj hc rfl fun K15 hK15 => ?_
   simp -dsimp -implicitDefEqProofs (disch := first | assumption | omega | (simp only [r_z, zab, zaa, zba] <;> omega) | decide) only [r_r, ↓reduceIte, Nat.reduceEqDiff, Nat.reduceAdd, D.fix, Int.reduceToNat, Nat.reduceMul, Nat.reduceBNe, Nat.reduceBEq, zas, zax, zae, zaf, zcl, zck, zco, zbm, gA6, zap, List.cons_append, List.nil_append, zc2]
   refine zvt (S := zcl a b l) (T := [gA6 (mvG (2 + a.ins.length) a.gates.length (nth b.gates q))]) (jly a b l (mvG (2 + a.ins.length) a.gates.length (nth b.gates q)) (by omega) (by omega)) rfl (by first | rfl | (simp [AV.allIs, AV.allI, za1, zat, zau, okI, ltI, zao, zbb, zcl, zck, zco, gA6, zbm, zap]; done) | (intro o ho; simp at ho; done)) (fun t => zbr (by first | rfl | (simp [AV.allIs, AV.allI, za1, zat, zau, okI, ltI, zao, zbb, zcl, zck, zco, gA6, zbm, zap]; done) | (intro o ho; simp at ho; done)) t) (by first | rfl | (simp [AV.allIs, AV.allI, za1, zat, zau, okI, ltI, zao, zbb, zcl, zck, zco, gA6, zbm, zap]; done) | (intro o ho; simp at ho; done)) (by first | rfl | (simp [AV.allIs, AV.allI, za1, zat, zau, okI, ltI, zao, zbb, zcl, zck, zco, gA6, zbm, zap]; done) | (intro o ho; simp at ho; done)) (by first | rfl | (simp [AV.allIs, AV.allI, za1, zat, zau, okI, ltI, zao, zbb, zcl, zck, zco, gA6, zbm, zap]; done) | (intro o ho; simp at ho; done)) ?_
   rintro _ _ ⟨m, hmm, rfl, rfl⟩
   refine ⟨rfl, ?_⟩
   simp -dsimp -implicitDefEqProofs (disch := first | assumption | omega | (simp only [r_z, zab, zaa, zba] <;> omega) | decide) only [r_r, ↓reduceIte, Nat.reduceEqDiff, Nat.reduceAdd, D.fix, Int.reduceToNat, Nat.reduceMul, Nat.reduceBNe, Nat.reduceBEq, zas, zax, zae, zaf, zcl, zck, zco, zbm, gA6, zap, List.cons_append, List.nil_append, zc2]
   refine hK15 _ _ (hK12 _ _ ?_)
   refine zbo hp zaj hc rfl fun K16 hK16 => ?_
   simp -dsimp -implicitDefEqProofs (disch := first | assumption | omega | (simp only [r_z, zab, zaa, zba] <;> omega) | decide) only [r_r, ↓reduceIte, Nat.reduceEqDiff, Nat.reduceAdd, D.fix, Int.reduceToNat, Nat.reduceMul, Nat.reduceBNe, Nat.reduceBEq, zas, zax, zae, zaf, zcl, zck, zco, zbm, gA6, zap, List.cons_append, List.nil_append, zc2]
   refine hK16 _ _ ⟨_, _, _, ?_, ⟨q + 1, m, ⟨by omega, by rw [hmm, hl, zdy (by simpa using hlt), zif hlt, List.append_assoc]⟩, rfl, rfl, rfl⟩, ?_⟩
   ·first | omega | (simp only [List.length_cons]; omega) | (dsimp only; omega)
   ·refine Rt.trans (Rt.gc (keep := [0,1,2,3,4,5]) (by decide) (by decide) (by simp [fzH, gcH])) ?_
    refine Rt.end (by repeat (first | exact zak _ | refine zah ?_ (by first | rfl | (simp [r_f, zab, zaa, zba]; done) | simp [r_f, zab, zaa, zba, *]))) ?_
    first | rfl | (simp only [r_g, Nat.reduceAdd, ↓reduceIte, Nat.reduceEqDiff, zas, zax, zae, zaf, zcl, zck, zco, zbm, gA6, zap, List.cons_append, List.nil_append]; first | done | rfl)
  ·have hqe : q = b.gates.length := by simp at ht; omega
   have hl1 : l = a.gates ++ b.gates.map (mvG (2 + a.ins.length) a.gates.length) := by rw [hl, List.take_of_length_le (by simp; omega)]
   obtain ⟨base, hbase⟩ : ∃ base, base = 2 + a.ins.length + a.gates.length + b.gates.length := ⟨_, rfl⟩
   refine zbj (hK8 _ _ ?_)
   refine zac hp zaj hc rfl fun K17 hK17 => ?_
   simp -dsimp -implicitDefEqProofs (disch := first | assumption | omega | (simp only [r_z, zab, zaa, zba] <;> omega) | decide) only [r_r, ↓reduceIte, Nat.reduceEqDiff, Nat.reduceAdd, D.fix, Int.reduceToNat, Nat.reduceMul, Nat.reduceBNe, Nat.reduceBEq, zas, zax, zae, zaf, zcl, zck, zco, zbm, gA6, zap, List.cons_append, List.nil_append]
   refine hK17 _ _ ?_
   refine zam fun K18 hK18 => ?_
   refine zac hp zaj hc rfl fun K19 hK19 => ?_
   simp -dsimp -implicitDefEqProofs (disch := first | assumption | omega | (simp only [r_z, zab, zaa, zba] <;> omega) | decide) only [r_r, ↓reduceIte, Nat.reduceEqDiff, Nat.reduceAdd, D.fix, Int.reduceToNat, Nat.reduceMul, Nat.reduceBNe, Nat.reduceBEq, zas, zax, zae, zaf, zcl, zck, zco, zbm, gA6, zap, List.cons_append, List.nil_append, zc2]
   refine hK19 _ _ ?_
   refine zaz ?_
   refine za7 hp (fun τ' H' mm => ∃ (i : Nat) (l : List Gate), (i ≤ a.drive.length ∧ l = a.gates ++ b.gates.map (mvG (2 + a.ins.length) a.gates.length) ++ jg0 (2 + a.ins.length) a.gates.length a.drive b.drive i) ∧ mm = a.drive.length - i ∧ H' = zcl a b l ++ [.cells (avs (je6 base i))] ∧ τ' = frL [(2, .op 0 0), (3, .op 1 0), (4, .op 2 0), (5, .d (iD 0)), (6, .op 3 0), (7, .clo (.func 58) [] [.op 3 0, .op 0 0]), (8, .op 4 0), (9, .clo (.func 60) [] [.op 4 0, .op 3 0]), (12, .os 1 6 0 i), (74, .d (intsD a.drive)), (75, .d (iD a.drive.length)), (76, .d (iD i))]) (a.drive.length) ?_ ⟨0, l, ⟨Nat.zero_le _, by rw [hl1]; simp [jg0]⟩, rfl, rfl, rfl⟩ ?_
   ·refine Rt.trans (Rt.nil 12 1 rfl) ?_
    refine Rt.trans (Rt.gc (keep := [0,1,2,3,4,5,6]) (by decide) (by decide) (by simp [fzH, gcH])) ?_
    refine Rt.end (by repeat (first | exact zak _ | refine zah ?_ (by first | rfl | (simp [r_f, zab, zaa, zba]; done) | simp [r_f, zab, zaa, zba, *]))) ?_
    first | rfl | (simp only [r_g, Nat.reduceAdd, ↓reduceIte, Nat.reduceEqDiff, zas, zax, zae, zaf, zcl, zck, zco, zbm, gA6, zap, List.cons_append, List.nil_append]; first | done | rfl)
   rintro τ' H' mm ⟨i, l, ⟨hi2, hl2⟩, rfl, rfl, rfl⟩
   have hll2 : l.length = a.gates.length + b.gates.length + i := by rw [hl2]; simp [zhn]; omega
   refine zac hp zaj hc rfl fun K20 hK20 => ?_
   simp -dsimp -implicitDefEqProofs (disch := first | assumption | omega | (simp only [r_z, zab, zaa, zba] <;> omega) | decide) only [r_r, ↓reduceIte, Nat.reduceEqDiff, Nat.reduceAdd, D.fix, Int.reduceToNat, Nat.reduceMul, Nat.reduceBNe, Nat.reduceBEq, zas, zax, zae, zaf, zcl, zck, zco, zbm, gA6, zap, List.cons_append, List.nil_append, zc2]
   refine hK20 _ _ ?_
   refine zam fun K21 hK21 => ?_
   refine zaq rfl (fun ht => ?_) (fun ht => ?_)
   ·have hlt : i < a.drive.length := by simp at ht; omega
    have h1 := hm.da i hlt
    have h2 := hm.db i (by omega)
    refine zay (hK21 _ _ ?_)
    refine zam fun K22 hK22 => ?_
    refine zaz ?_
    refine zac hp zaj hc rfl fun K23 hK23 => ?_
    simp -dsimp -implicitDefEqProofs (disch := first | assumption | omega | (simp only [r_z, zab, zaa, zba] <;> omega) | decide) only [r_r, ↓reduceIte, Nat.reduceEqDiff, Nat.reduceAdd, D.fix, Int.reduceToNat, Nat.reduceMul, Nat.reduceBNe, Nat.reduceBEq, zas, zax, zae, zaf, zcl, zck, zco, zbm, gA6, zap, List.cons_append, List.nil_append, zcc, zc2]
    refine hK23 _ _ ?_
    refine zbo hp zaj hc rfl fun K24 hK24 => ?_
    simp -dsimp -implicitDefEqProofs (disch := first | assumption | omega | (simp only [r_z, zab, zaa, zba] <;> omega) | decide) only [r_r, ↓reduceIte, Nat.reduceEqDiff, Nat.reduceAdd, D.fix, Int.reduceToNat, Nat.reduceMul, Nat.reduceBNe, Nat.reduceBEq, zas, zax, zae, zaf, zcl, zck, zco, zbm, gA6, zap, List.cons_append, List.nil_append, zcc, zc2]
    refine zvt (S := zck a b) (T := zco a b l ++ [.cells (avs (je6 base i))]) (zq0 a b (nth b.drive i) (by omega) (by omega) (by omega) (by omega)) rfl (by first | rfl | (simp [AV.allIs, AV.allI, za1, zat, zau, okI, ltI, zao, zbb, zcl, zck, zco, gA6, zbm, zap]; done) | (intro o ho; simp at ho; done)) (fun t => zbr (by first | rfl | (simp [AV.allIs, AV.allI, za1, zat, zau, okI, ltI, zao, zbb, zcl, zck, zco, gA6, zbm, zap]; done) | (intro o ho; simp at ho; done)) t) (by first | rfl | (simp [AV.allIs, AV.allI, za1, zat, zau, okI, ltI, zao, zbb, zcl, zck, zco, gA6, zbm, zap]; done) | (intro o ho; simp at ho; done)) (by first | rfl | (simp [AV.allIs, AV.allI, za1, zat, zau, okI, ltI, zao, zbb, zcl, zck, zco, gA6, zbm, zap]; done) | (intro o ho; simp at ho; done)) (by first | rfl | (simp [AV.allIs, AV.allI, za1, zat, zau, okI, ltI, zao, zbb, zcl, zck, zco, gA6, zbm, zap]; done) | (intro o ho; simp at ho; done)) ?_
    rintro _ _ ⟨_, rfl, rfl, rfl⟩
    refine ⟨rfl, ?_⟩
    simp -dsimp -implicitDefEqProofs (disch := first | assumption | omega | (simp only [r_z, zab, zaa, zba] <;> omega) | decide) only [r_r, ↓reduceIte, Nat.reduceEqDiff, Nat.reduceAdd, D.fix, Int.reduceToNat, Nat.reduceMul, Nat.reduceBNe, Nat.reduceBEq, zas, zax, zae, zaf, zcl, zck, zco, zbm, gA6, zap, List.cons_append, List.nil_append, zcc, zc2]
    refine zvt (S := zcl a b l) (T := [.cells (avs (je6 base i))]) (jly a b l ⟨4, nth a.drive i, mvI (2 + a.ins.length) a.gates.length (nth b.drive i), 0, 0⟩ (by omega) (by omega)) rfl (by first | rfl | (simp [AV.allIs, AV.allI, za1, zat, zau, okI, ltI, zao, zbb, zcl, zck, zco, gA6, zbm, zap]; done) | (intro o ho; simp at ho; done)) (fun t => zbr (by first | rfl | (simp [AV.allIs, AV.allI, za1, zat, zau, okI, ltI, zao, zbb, zcl, zck, zco, gA6, zbm, zap]; done) | (intro o ho; simp at ho; done)) t) (by first | rfl | (simp [AV.allIs, AV.allI, za1, zat, zau, okI, ltI, zao, zbb, zcl, zck, zco, gA6, zbm, zap]; done) | (intro o ho; simp at ho; done)) (by first | rfl | (simp [AV.allIs, AV.allI, za1, zat, zau, okI, ltI, zao, zbb, zcl, zck, zco, gA6, zbm, zap]; done) | (intro o ho; simp at ho; done)) (by first | rfl | (simp [AV.allIs, AV.allI, za1, zat, zau, okI, ltI, zao, zbb, zcl, zck, zco, gA6, zbm, zap]; done) | (intro o ho; simp at ho; done)) ?_
    rintro _ _ ⟨m, hmm, rfl, rfl⟩
    refine ⟨rfl, ?_⟩
    simp -dsimp -implicitDefEqProofs (disch := first | assumption | omega | (simp only [r_z, zab, zaa, zba] <;> omega) | decide) only [r_r, ↓reduceIte, Nat.reduceEqDiff, Nat.reduceAdd, D.fix, Int.reduceToNat, Nat.reduceMul, Nat.reduceBNe, Nat.reduceBEq, zas, zax, zae, zaf, zcl, zck, zco, zbm, gA6, zap, List.cons_append, List.nil_append, zcc, zc2]
    refine hK24 _ _ (hK22 _ _ ?_)
    refine zbo hp zaj hc rfl fun K25 hK25 => ?_
    simp -dsimp -implicitDefEqProofs (disch := first | assumption | omega | (simp only [r_z, zab, zaa, zba] <;> omega) | decide) only [r_r, ↓reduceIte, Nat.reduceEqDiff, Nat.reduceAdd, D.fix, Int.reduceToNat, Nat.reduceMul, Nat.reduceBNe, Nat.reduceBEq, zas, zax, zae, zaf, zcl, zck, zco, zbm, gA6, zap, List.cons_append, List.nil_append, zc2]
    have hbi : (2 + (a.ins.length : Int) + l.length) = ((base + i : Nat) : Int) := by omega
    refine hK25 _ _ ⟨_, _, _, ?_, ⟨i + 1, m, ⟨by omega, by rw [hmm, hl2, List.append_assoc]; unfold jg0; rw [List.range_succ, List.map_append]; rfl⟩, rfl, rfl, rfl⟩, ?_⟩
    ·first | omega | (simp only [List.length_cons]; omega) | (dsimp only; omega)
    ·refine Rt.trans (Rt.gc (keep := [0,1,2,3,4,5,8]) (by decide) (by decide) (by simp [fzH, gcH])) ?_
     refine Rt.end (by repeat (first | exact zak _ | refine zah ?_ (by first | rfl | (simp [r_f, zab, zaa, zba]; done) | simp [r_f, zab, zaa, zba, *]))) ?_
     simp only [r_g, Nat.reduceAdd, ↓reduceIte, Nat.reduceEqDiff, zas, zax, zae, zaf, zcl, zck, zco, zbm, gA6, zap, List.cons_append, List.nil_append]; rw [hbi]; simp [je6, List.range_succ, iD]
   ·have hie : i = a.drive.length := by simp at ht; omega
    refine zbj (hK18 _ _ ?_)
    refine zac hp zaj hc rfl fun K26 hK26 => ?_
    simp -dsimp -implicitDefEqProofs (disch := first | assumption | omega | (simp only [r_z, zab, zaa, zba] <;> omega) | decide) only [r_r, ↓reduceIte, Nat.reduceEqDiff, Nat.reduceAdd, D.fix, Int.reduceToNat, Nat.reduceMul, Nat.reduceBNe, Nat.reduceBEq, zas, zax, zae, zaf, zcl, zck, zco, zbm, gA6, zap, List.cons_append, List.nil_append]
    refine hK26 _ _ ?_
    refine zam fun K27 hK27 => ?_
    refine zac hp zaj hc rfl fun K28 hK28 => ?_
    simp -dsimp -implicitDefEqProofs (disch := first | assumption | omega | (simp only [r_z, zab, zaa, zba] <;> omega) | decide) only [r_r, ↓reduceIte, Nat.reduceEqDiff, Nat.reduceAdd, D.fix, Int.reduceToNat, Nat.reduceMul, Nat.reduceBNe, Nat.reduceBEq, zas, zax, zae, zaf, zcl, zck, zco, zbm, gA6, zap, List.cons_append, List.nil_append, zc2]
    refine hK28 _ _ ?_
    refine zaz ?_
    refine za7 hp (fun τ' H' mm => ∃ (i : Nat) (l : List Gate), (i ≤ a.drive.length ∧ l = a.gates ++ b.gates.map (mvG (2 + a.ins.length) a.gates.length) ++ jg0 (2 + a.ins.length) a.gates.length a.drive b.drive a.drive.length ++ orL base a.drive.length (i - 1)) ∧ mm = a.drive.length - i ∧ H' = zcl a b l ++ [.cells (avs (je6 base a.drive.length))] ∧ τ' = frL [(4, .op 2 0), (5, .d (iD 0)), (6, .op 3 0), (8, .op 4 0), (9, .clo (.func 60) [] [.op 4 0, .op 3 0]), (15, .d (iD (jen base a.drive.length i))), (96, .os 1 6 0 a.drive.length), (97, .d (iD a.drive.length)), (98, .d (iD i))]) (a.drive.length) ?_ ⟨0, l, ⟨Nat.zero_le _, by rw [hl2, hie]; simp [orL]⟩, rfl, rfl, rfl⟩ ?_
    ·refine Rt.trans (Rt.gc (keep := [0,1,2,3,4,5,6]) (by decide) (by decide) (by simp [fzH, gcH])) ?_
     refine Rt.end (by repeat (first | exact zak _ | refine zah ?_ (by first | rfl | (simp [r_f, zab, zaa, zba]; done) | simp [r_f, zab, zaa, zba, *]))) ?_
     simp only [r_g, Nat.reduceAdd, ↓reduceIte, Nat.reduceEqDiff, zas, zax, zae, zaf, zcl, zck, zco, zbm, gA6, zap, List.cons_append, List.nil_append]; subst hie; rfl
    rintro τ' H' mm ⟨i, l, ⟨hi3, hl3⟩, rfl, rfl, rfl⟩
    have hll3 : l.length = a.gates.length + b.gates.length + a.drive.length + (i - 1) := by rw [hl3]; simp [zhn, jel]; omega
    refine zac hp zaj hc rfl fun K29 hK29 => ?_
    simp -dsimp -implicitDefEqProofs (disch := first | assumption | omega | (simp only [r_z, zab, zaa, zba] <;> omega) | decide) only [r_r, ↓reduceIte, Nat.reduceEqDiff, Nat.reduceAdd, D.fix, Int.reduceToNat, Nat.reduceMul, Nat.reduceBNe, Nat.reduceBEq, zas, zax, zae, zaf, zcl, zck, zco, zbm, gA6, zap, List.cons_append, List.nil_append, zc2]
    refine hK29 _ _ ?_
    refine zam fun K30 hK30 => ?_
    refine zaq rfl (fun ht => ?_) (fun ht => ?_)
    ·have hlt : i < a.drive.length := by simp at ht; omega
     refine zay (hK30 _ _ ?_)
     refine zam fun K31 hK31 => ?_
     refine zaz ?_
     refine zac hp zaj hc rfl fun K32 hK32 => ?_
     simp -dsimp -implicitDefEqProofs (disch := first | assumption | omega | (simp only [r_z, zab, zaa, zba] <;> omega) | decide) only [r_r, ↓reduceIte, Nat.reduceEqDiff, Nat.reduceAdd, D.fix, Int.reduceToNat, Nat.reduceMul, Nat.reduceBNe, Nat.reduceBEq, zas, zax, zae, zaf, zcl, zck, zco, zbm, gA6, zap, List.cons_append, List.nil_append, jlz hlt, zc2]
     refine hK32 _ _ ?_
     refine zac hp zaj hc rfl fun K33 hK33 => ?_
     rcases i with _ | i
     ·have q0 : (((0 : Nat) : Int) == 0) = true := rfl
      simp -dsimp -implicitDefEqProofs (disch := first | assumption | omega | (simp only [r_z, zab, zaa, zba] <;> omega) | decide) only [r_r, ↓reduceIte, Nat.reduceEqDiff, Nat.reduceAdd, D.fix, Int.reduceToNat, Nat.reduceMul, Nat.reduceBNe, Nat.reduceBEq, zas, zax, zae, zaf, zcl, zck, zco, zbm, gA6, zap, List.cons_append, List.nil_append, q0, zc2]
      refine hK33 _ _ ?_
      refine zaq rfl (fun ht => ?_) (fun ht => ?_)
      ·refine zbo hp zaj hc rfl fun K34 hK34 => ?_
       simp -dsimp -implicitDefEqProofs (disch := first | assumption | omega | (simp only [r_z, zab, zaa, zba] <;> omega) | decide) only [r_r, ↓reduceIte, Nat.reduceEqDiff, Nat.reduceAdd, D.fix, Int.reduceToNat, Nat.reduceMul, Nat.reduceBNe, Nat.reduceBEq, zas, zax, zae, zaf, zcl, zck, zco, zbm, gA6, zap, List.cons_append, List.nil_append]
       refine hK34 _ _ (hK31 _ _ ?_)
       refine zbo hp zaj hc rfl fun K35 hK35 => ?_
       simp -dsimp -implicitDefEqProofs (disch := first | assumption | omega | (simp only [r_z, zab, zaa, zba] <;> omega) | decide) only [r_r, ↓reduceIte, Nat.reduceEqDiff, Nat.reduceAdd, D.fix, Int.reduceToNat, Nat.reduceMul, Nat.reduceBNe, Nat.reduceBEq, zas, zax, zae, zaf, zcl, zck, zco, zbm, gA6, zap, List.cons_append, List.nil_append, zc2]
       refine hK35 _ _ ⟨_, _, _, ?_, ⟨0 + 1, l, ⟨by omega, hl3⟩, rfl, rfl, rfl⟩, ?_⟩
       ·first | omega | (simp only [List.length_cons]; omega) | (dsimp only; omega)
       ·refine Rt.trans (Rt.gc (keep := [0,1,2,3,4,5,6]) (by decide) (by decide) (by simp [fzH, gcH])) ?_
        refine Rt.end (by repeat (first | exact zak _ | refine zah ?_ (by first | rfl | (simp [r_f, zab, zaa, zba]; done) | simp [r_f, zab, zaa, zba, *]))) ?_
        first | rfl | (simp only [r_g, Nat.reduceAdd, ↓reduceIte, Nat.reduceEqDiff, zas, zax, zae, zaf, zcl, zck, zco, zbm, gA6, zap, List.cons_append, List.nil_append]; first | done | rfl)
      ·cases ht
     ·have q0 : (((i + 1 : Nat) : Int) == 0) = false := by simp; omega
      simp -dsimp -implicitDefEqProofs (disch := first | assumption | omega | (simp only [r_z, zab, zaa, zba] <;> omega) | decide) only [r_r, ↓reduceIte, Nat.reduceEqDiff, Nat.reduceAdd, D.fix, Int.reduceToNat, Nat.reduceMul, Nat.reduceBNe, Nat.reduceBEq, zas, zax, zae, zaf, zcl, zck, zco, zbm, gA6, zap, List.cons_append, List.nil_append, q0, zc2]
      refine hK33 _ _ ?_
      refine zaq rfl (fun ht => ?_) (fun ht => ?_)
      ·cases ht
      ·refine zbo hp zaj hc rfl fun K36 hK36 => ?_
       simp -dsimp -implicitDefEqProofs (disch := first | assumption | omega | (simp only [r_z, zab, zaa, zba] <;> omega) | decide) only [r_r, ↓reduceIte, Nat.reduceEqDiff, Nat.reduceAdd, D.fix, Int.reduceToNat, Nat.reduceMul, Nat.reduceBNe, Nat.reduceBEq, zas, zax, zae, zaf, zcl, zck, zco, zbm, gA6, zap, List.cons_append, List.nil_append, zc2]
       refine zvt (S := zcl a b l) (T := [.cells (avs (je6 base a.drive.length))]) (jly a b l ⟨3, jen base a.drive.length (i + 1), ((base + (i + 1) : Nat) : Int), 0, 0⟩ (by omega) (by omega)) rfl (by first | rfl | (simp [AV.allIs, AV.allI, za1, zat, zau, okI, ltI, zao, zbb, zcl, zck, zco, gA6, zbm, zap]; done) | (intro o ho; simp at ho; done)) (fun t => zbr (by first | rfl | (simp [AV.allIs, AV.allI, za1, zat, zau, okI, ltI, zao, zbb, zcl, zck, zco, gA6, zbm, zap]; done) | (intro o ho; simp at ho; done)) t) (by first | rfl | (simp [AV.allIs, AV.allI, za1, zat, zau, okI, ltI, zao, zbb, zcl, zck, zco, gA6, zbm, zap]; done) | (intro o ho; simp at ho; done)) (by first | rfl | (simp [AV.allIs, AV.allI, za1, zat, zau, okI, ltI, zao, zbb, zcl, zck, zco, gA6, zbm, zap]; done) | (intro o ho; simp at ho; done)) (by first | rfl | (simp [AV.allIs, AV.allI, za1, zat, zau, okI, ltI, zao, zbb, zcl, zck, zco, gA6, zbm, zap]; done) | (intro o ho; simp at ho; done)) ?_
       rintro _ _ ⟨m, hmm, rfl, rfl⟩
       refine ⟨rfl, ?_⟩
       simp -dsimp -implicitDefEqProofs (disch := first | assumption | omega | (simp only [r_z, zab, zaa, zba] <;> omega) | decide) only [r_r, ↓reduceIte, Nat.reduceEqDiff, Nat.reduceAdd, D.fix, Int.reduceToNat, Nat.reduceMul, Nat.reduceBNe, Nat.reduceBEq, zas, zax, zae, zaf, zcl, zck, zco, zbm, gA6, zap, List.cons_append, List.nil_append, zc2]
       refine hK36 _ _ (hK31 _ _ ?_)
       refine zbo hp zaj hc rfl fun K37 hK37 => ?_
       simp -dsimp -implicitDefEqProofs (disch := first | assumption | omega | (simp only [r_z, zab, zaa, zba] <;> omega) | decide) only [r_r, ↓reduceIte, Nat.reduceEqDiff, Nat.reduceAdd, D.fix, Int.reduceToNat, Nat.reduceMul, Nat.reduceBNe, Nat.reduceBEq, zas, zax, zae, zaf, zcl, zck, zco, zbm, gA6, zap, List.cons_append, List.nil_append, zc2]
       have hlast : (2 + (a.ins.length : Int) + l.length) = jen base a.drive.length (i + 1 + 1) := by show _ = ((base + a.drive.length + i : Nat) : Int); omega
       rw [hlast]
       refine hK37 _ _ ⟨_, _, _, ?_, ⟨i + 1 + 1, m, ⟨by omega, by rw [hmm, hl3, List.append_assoc]; congr 1; show _ = orL base a.drive.length (i + 1); unfold orL; rw [List.range_succ, List.map_append]; rfl⟩, rfl, rfl, rfl⟩, ?_⟩
       ·first | omega | (simp only [List.length_cons]; omega) | (dsimp only; omega)
       ·refine Rt.trans (Rt.gc (keep := [0,1,2,3,4,5,6]) (by decide) (by decide) (by simp [fzH, gcH])) ?_
        refine Rt.end (by repeat (first | exact zak _ | refine zah ?_ (by first | rfl | (simp [r_f, zab, zaa, zba]; done) | simp [r_f, zab, zaa, zba, *]))) ?_
        first | rfl | (simp only [r_g, Nat.reduceAdd, ↓reduceIte, Nat.reduceEqDiff, zas, zax, zae, zaf, zcl, zck, zco, zbm, gA6, zap, List.cons_append, List.nil_append]; first | done | rfl)
    ·have hie : i = a.drive.length := by simp at ht; omega
     have hfin : ¬ (600 : Int) < 2 + a.ins.length + l.length := by omega
     refine zbj (hK27 _ _ ?_)
     refine zac hp zaj hc rfl fun K38 hK38 => ?_
     simp -dsimp -implicitDefEqProofs (disch := first | assumption | omega | (simp only [r_z, zab, zaa, zba] <;> omega) | decide) only [r_r, ↓reduceIte, Nat.reduceEqDiff, Nat.reduceAdd, D.fix, Int.reduceToNat, Nat.reduceMul, Nat.reduceBNe, Nat.reduceBEq, zas, zax, zae, zaf, zcl, zck, zco, zbm, gA6, zap, List.cons_append, List.nil_append, zc2]
     refine hK38 _ _ ?_
     refine zam fun K39 hK39 => ?_
     refine zac hp zaj hc rfl fun K40 hK40 => ?_
     simp -dsimp -implicitDefEqProofs (disch := first | assumption | omega | (simp only [r_z, zab, zaa, zba] <;> omega) | decide) only [r_r, ↓reduceIte, Nat.reduceEqDiff, Nat.reduceAdd, D.fix, Int.reduceToNat, Nat.reduceMul, Nat.reduceBNe, Nat.reduceBEq, zas, zax, zae, zaf, zcl, zck, zco, zbm, gA6, zap, List.cons_append, List.nil_append, hfin, decide_false, zc2]
     refine hK40 _ _ ?_
     refine zaq rfl (fun ht => ?_) (fun ht => ?_)
     ·cases ht
     ·refine zay (hK39 _ _ ?_)
      refine zac hp zaj hc rfl fun K41 hK41 => ?_
      simp -dsimp -implicitDefEqProofs (disch := first | assumption | omega | (simp only [r_z, zab, zaa, zba] <;> omega) | decide) only [r_r, ↓reduceIte, Nat.reduceEqDiff, Nat.reduceAdd, D.fix, Int.reduceToNat, Nat.reduceMul, Nat.reduceBNe, Nat.reduceBEq, zas, zax, zae, zaf, zcl, zck, zco, zbm, gA6, zap, List.cons_append, List.nil_append, zc2]
      refine hK41 _ _ ?_
      refine za4 ?_
      try dsimp only [zjj, zc3]
      refine zj8 rfl ?_
      simp -dsimp -implicitDefEqProofs (disch := first | assumption | omega | (simp only [r_z, zab, zaa, zba] <;> omega) | decide) only [r_r, ↓reduceIte, Nat.reduceEqDiff, Nat.reduceAdd, D.fix, Int.reduceToNat, Nat.reduceMul, Nat.reduceBNe, Nat.reduceBEq, zas, zax, zae, zaf, zcl, zck, zco, zbm, gA6, zap, List.cons_append, List.nil_append, zds, zdt]
      show closeA _ _ = _
      simp (disch := first | assumption | omega | (simp only [r_z, zab, zaa, zba] <;> omega) | decide) only [r_c, Nat.reduceAdd, D.fix, ↓reduceIte, Nat.reduceEqDiff, zas, zax, zae, zaf, zcl, zck, zco, zbm, gA6, zap, List.cons_append, List.nil_append]
      have hme : zhw a b = ⟨a.ins, l, [⟨6, 0, 0⟩], [jen base a.drive.length i]⟩ := by
       unfold zhw zs6 jen
       rw [if_neg (by omega), hl3, hie, hbase]
      rw [hme]
      simp [za5, iD, zjh]
end Go.Proofs.Ytignimmnnccblaa
