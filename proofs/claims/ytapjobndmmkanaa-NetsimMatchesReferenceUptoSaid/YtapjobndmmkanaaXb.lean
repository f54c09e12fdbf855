/- The reference's values of nodes; lists of bools. -/
import Derived.Test.YtapjobndmmkanaaQr
import Derived.Test.YtapjobndmmkanaaXa
set_option linter.unusedVariables false
set_option linter.unusedSimpArgs false
set_option maxRecDepth 100000
set_option maxHeartbeats 4000000
namespace Go.Proofs.Ytapjobndmmkanaa
open Go Go.RowKit
theorem jbo : (((((type_of% @zgy) ∧ ((type_of% @zhv) ∧ (type_of% @zev))) ∧ (((type_of% @zew) ∧ (type_of% @zuk)) ∧ ((type_of% @zq0) ∧ (type_of% @zq1)))) ∧ (((type_of% @jq3) ∧ ((type_of% @zpn) ∧ (type_of% @jq4))) ∧ (((type_of% @jq5) ∧ (type_of% @zkq)) ∧ ((type_of% @zdc) ∧ (type_of% @zdd))))) ∧ ((((type_of% @zdh) ∧ ((type_of% @zho) ∧ (type_of% @zia))) ∧ (((type_of% @zmp) ∧ (type_of% @zmq)) ∧ ((type_of% @zpp) ∧ (type_of% @zus)))) ∧ (((type_of% @zut) ∧ ((type_of% @jbf) ∧ (type_of% @zll))) ∧ (((type_of% @zlm) ∧ (type_of% @zln)) ∧ ((type_of% @zie) ∧ (type_of% @zlp)))))) := ⟨⟨⟨⟨@zgy, ⟨@zhv, @zev⟩⟩, ⟨⟨@zew, @zuk⟩, ⟨@zq0, @zq1⟩⟩⟩, ⟨⟨@jq3, ⟨@zpn, @jq4⟩⟩, ⟨⟨@jq5, @zkq⟩, ⟨@zdc, @zdd⟩⟩⟩⟩, ⟨⟨⟨@zdh, ⟨@zho, @zia⟩⟩, ⟨⟨@zmp, @zmq⟩, ⟨@zpp, @zus⟩⟩⟩, ⟨⟨@zut, ⟨@jbf, @zll⟩⟩, ⟨⟨@zlm, @zln⟩, ⟨@zie, @zlp⟩⟩⟩⟩⟩
theorem zwk {p q : Prop} (hq : q) (h : p = q := by
 conv => lhs; simp -dsimp -implicitDefEqProofs (disch := first | assumption | omega | (simp only [r_z] <;> omega) | decide) only [r_r, ↓reduceIte, Nat.reduceEqDiff, Nat.reduceAdd, D.fix, Int.reduceToNat, Nat.reduceMul, Nat.reduceBNe, Nat.reduceBEq]) : p := h.mpr hq
theorem jbp {p q : Prop} (hq : q) (h : p = q := by
 conv => lhs; simp -dsimp -implicitDefEqProofs (disch := first | assumption | omega | (simp only [r_z] <;> omega) | decide) only [r_r, ↓reduceIte, Nat.reduceEqDiff, Nat.reduceAdd, D.fix, Int.reduceToNat, Nat.reduceMul, Nat.reduceBNe, Nat.reduceBEq, jbo]) : p := h.mpr hq
theorem yba {m : List Nat} {τ τ' : Fr} {H H' : zad} (h2 : H = H') (h : zgu τ τ' := by
 repeat (first | exact zar _ | refine zam ?_ (by first | rfl | (simp [r_f]; done) | simp [r_f, *]))) : Rt m τ H τ' H' := Rt.end h h2
theorem jyf {p q : Prop} (hq : q) (h : p = q := by
 conv => lhs; simp (disch := first | assumption | omega | (simp only [r_z] <;> omega) | decide) only [r_c, Nat.reduceAdd, D.fix, ↓reduceIte, Nat.reduceEqDiff]) : p := h.mpr hq
theorem jpd (a b : List Bool) (ha : a.length ≤ maxLen) : zaz Try.prog 14 [boolsD a, boolsD b] (.d (oD (decide (a = b)))) := by
 refine zaw (fn := Try.f14) (by kernel_rfl) Try.func14 rfl (Nat.le_of_ble_eq_true rfl) fun c hc hp => ?_
 refine za0 (τ' := frL [(0, .d (boolsD a)), (1, .d (boolsD b))]) (by repeat (first | exact zar _ | refine zam ?_ (by first | rfl | (simp [r_f]; done) | simp [r_f, *]))) ?_
 unfold maxLen at ha
 refine szq hp (fun _ hZ => zwk hZ) ?_
 refine zaa fun K2 hK2 => ?_
 refine szq hp (fun _ hZ => jbp hZ) ?_
 refine zah rfl (fun ht => ?_) (fun ht => ?_)
 ·have hne : a ≠ b := fun e => by subst e; simp at ht
  refine szq hp (fun _ hZ => zwk hZ) ?_
  refine zal ?_
  show closeA _ _ = _
  refine jyf ?_
  simp [hne]
 ·have hl : a.length = b.length := by simp at ht; omega
  refine zaf (hK2 _ _ ?_)
  refine zaa fun K5 hK5 => ?_
  refine szq hp (fun _ hZ => zwk hZ) ?_
  refine zac ?_
  refine zan hp (fun τ' H' mm => ∃ k, (k ≤ a.length ∧ a.take k = b.take k) ∧ mm = a.length - k ∧ H' = [] ∧ τ' = frL [(5, .d (iD k)), (0, .d (boolsD a)), (1, .d (boolsD b))]) (a.length) ?_ ⟨0, ⟨Nat.zero_le _, rfl⟩, rfl, rfl, rfl⟩ ?_
  ·refine yba ?_
   first | rfl | (simp only [r_g, Nat.reduceAdd, ↓reduceIte, Nat.reduceEqDiff]; first | done | rfl)
  rintro τ' H' mm ⟨k, ⟨hk, htake⟩, rfl, rfl, rfl⟩
  refine zaa fun K7 hK7 => ?_
  refine szq hp (fun _ hZ => jbp hZ) ?_
  refine zah rfl (fun ht => ?_) (fun ht => ?_)
  ·have hlt : k < a.length := by simp at ht; omega
   have hlt2 : k < b.length := by omega
   refine zaf (hK7 _ _ ?_)
   refine zaa fun K9 hK9 => ?_
   refine zac ?_
   refine zas zai hc za8 rfl (q := 0) (by kernel_rfl) (by kernel_rfl) fun K10 hK10 => ?_
   refine jbp ?_
   refine hK10 _ _ ?_
   refine zah rfl (fun ht => ?_) (fun ht => ?_)
   ·have hne : a ≠ b := fun e => by subst e; simp at ht
    refine szq hp (fun _ hZ => zwk hZ) ?_
    refine zal ?_
    show closeA _ _ = _
    refine jyf ?_
    simp [hne]
   ·refine zaf (hK9 _ _ ?_)
    refine za5 hp zai hc rfl fun K12 hK12 => ?_
    refine jbp ?_
    refine hK12 _ _ ⟨_, _, _, ?_, ⟨k + 1, ⟨by omega, zl6 hlt hlt2 htake (by simpa using ht)⟩, rfl, rfl, rfl⟩, ?_⟩
    ·first | omega | (simp only [List.length_cons]; omega) | (dsimp only; omega)
    ·refine yba ?_
     first | rfl | (simp only [r_g, Nat.reduceAdd, ↓reduceIte, Nat.reduceEqDiff]; first | done | rfl)
  ·have hge : k = a.length := by simp at ht; omega
   have he : a = b := by rw [hge, List.take_length, hl, List.take_length] at htake; exact htake
   refine zau (hK5 _ _ ?_)
   refine szq hp (fun _ hZ => zwk hZ) ?_
   refine zal ?_
   show closeA _ _ = _
   refine jyf ?_
   simp [he]
def zb9 (n : Nat) (l : List Int) : List Bool := (List.range n).map fun i => decide (i < l.length ∧ nth l i % 2 = 1)
theorem zcw (n : Nat) (l : List Int) : (zb9 n l).length = n := by simp [zb9]
theorem zmf (n : Nat) (l : List Int) : zb9 (n + 1) l = zb9 n l ++ [decide (n < l.length ∧ nth l n % 2 = 1)] := by simp [zb9, List.range_succ]
theorem jpe {p q : Prop} (hq : q) (h : p = q := by
 conv => lhs; simp -dsimp -implicitDefEqProofs (disch := first | assumption | omega | (simp only [r_z, zcw] <;> omega) | decide) only [r_r, ↓reduceIte, Nat.reduceEqDiff, Nat.reduceAdd, D.fix, Int.reduceToNat, Nat.reduceMul, Nat.reduceBNe, Nat.reduceBEq, Int.ofNat_lt]) : p := h.mpr hq
theorem jjt {p q : Prop} (hq : q) (h : p = q := by
 conv => lhs; simp -dsimp -implicitDefEqProofs (disch := first | assumption | omega | (simp only [r_z, zcw] <;> omega) | decide) only [r_r, ↓reduceIte, Nat.reduceEqDiff, Nat.reduceAdd, D.fix, Int.reduceToNat, Nat.reduceMul, Nat.reduceBNe, Nat.reduceBEq, Int.ofNat_lt, jbo]) : p := h.mpr hq
theorem jzp {m : List Nat} {τ τ' : Fr} {H H' : zad} (h2 : H = H') (h : zgu τ τ' := by
 repeat (first | exact zar _ | refine zam ?_ (by first | rfl | (simp [r_f, zcw]; done) | simp [r_f, zcw, *]))) : Rt m τ H τ' H' := Rt.end h h2
theorem jvq {p q r : Prop} (e : r) (hq : q) (h : r → p = q := by
 intro hY
 conv => lhs; simp -dsimp -implicitDefEqProofs (disch := first | assumption | omega | (simp only [r_z, zcw] <;> omega) | decide) only [r_r, ↓reduceIte, Nat.reduceEqDiff, Nat.reduceAdd, D.fix, Int.reduceToNat, Nat.reduceMul, Nat.reduceBNe, Nat.reduceBEq, Int.ofNat_lt, decide_true, decide_false, jbo, hY]) : p := (h e).mpr hq
theorem zo3 (k : List Nat) {m : List Nat} {τ τ1 : Fr} {H H1 : zad} (h : Rt m (fun t => gcV k (τ t)) (gcH k H) τ1 H1) (a : ∀ i ∈ m, k[i]? = some i := by decide) (b : k.Nodup := by decide) (c : ∀ i ∈ k, i < H.length := by
 simp [fzH, gcH]) : Rt m τ H τ1 H1 := Rt.trans (Rt.gc a b c) h
theorem jad (n : Nat) (l : List Int) (hn : n ≤ 1000000000) (hl : zfx l) : zaz Try.prog 13 [iD n, bytesD l] (.d (boolsD (zb9 n l))) := by
 refine zaw (fn := Try.f13) (by kernel_rfl) Try.func13 rfl (Nat.le_of_ble_eq_true rfl) fun c hc hp => ?_
 refine za0 (τ' := frL [(0, .d (iD n)), (1, .d (bytesD l))]) (by repeat (first | exact zar _ | refine zam ?_ (by first | rfl | (simp [r_f, zcw]; done) | simp [r_f, zcw, *]))) ?_
 refine szq hp (fun _ hZ => jpe hZ) ?_
 refine szq hp (fun _ hZ => jjt hZ) ?_
 refine zaa fun K3 hK3 => ?_
 refine szq hp (fun _ hZ => jpe hZ) ?_
 refine zac ?_
 refine zan hp (fun τ' H' mm => ∃ k, (k ≤ n) ∧ mm = n - k ∧ H' = [.cells (avs ((zb9 k l).map oD))] ∧ τ' = frL [(5, .os 1 0 0 k), (6, .d (iD k)), (0, .d (iD n)), (1, .d (bytesD l))]) (n) ?_ ⟨0, Nat.zero_le _, rfl, rfl, rfl⟩ ?_
 ·refine jzp ?_
  first | rfl | (simp only [r_g, Nat.reduceAdd, ↓reduceIte, Nat.reduceEqDiff, Int.ofNat_lt]; first | done | rfl)
 rintro τ' H' mm ⟨k, hk, rfl, rfl, rfl⟩
 refine zaa fun K5 hK5 => ?_
 refine szq hp (fun _ hZ => jjt hZ) ?_
 refine zah rfl (fun ht => ?_) (fun ht => ?_)
 ·have hlt : k < n := by simp at ht; omega
  refine zaf (hK5 _ _ ?_)
  refine zaa fun K7 hK7 => ?_
  refine zac ?_
  refine za5 hp zai hc rfl fun K8 hK8 => ?_
  by_cases hg : k < l.length
  ·have hb := hl _ (zb0 hg)
   refine jvq hg ?_
   refine hK8 _ _ (hK7 _ _ ?_)
   refine za5 hp zai hc rfl fun K9 hK9 => ?_
   refine jjt ?_
   refine hK9 _ _ ⟨_, _, _, ?_, ⟨k + 1, by omega, rfl, rfl, rfl⟩, ?_⟩
   ·first | omega | (simp only [List.length_cons]; omega) | (dsimp only; omega)
   ·refine zo3 [2] ?_
    refine jzp ?_
    simp only [r_g, Nat.reduceAdd, ↓reduceIte, Nat.reduceEqDiff, Int.ofNat_lt]; simp [zmf, hg, oD, Bool.beq_eq_decide_eq]
  ·refine jvq hg ?_
   refine hK8 _ _ (hK7 _ _ ?_)
   refine za5 hp zai hc rfl fun K10 hK10 => ?_
   refine jjt ?_
   refine hK10 _ _ ⟨_, _, _, ?_, ⟨k + 1, by omega, rfl, rfl, rfl⟩, ?_⟩
   ·first | omega | (simp only [List.length_cons]; omega) | (dsimp only; omega)
   ·refine zo3 [2] ?_
    refine jzp ?_
    simp only [r_g, Nat.reduceAdd, ↓reduceIte, Nat.reduceEqDiff, Int.ofNat_lt]; simp [zmf, hg, oD, Bool.beq_eq_decide_eq]
 ·have hge : k = n := by simp at ht; omega
  subst hge
  refine zau (hK3 _ _ ?_)
  refine szq hp (fun _ hZ => jpe hZ) ?_
  refine zal ?_
  show closeA _ _ = _
  simp (disch := first | assumption | omega | (simp only [r_z, zcw] <;> omega) | decide) only [r_c, Nat.reduceAdd, D.fix, ↓reduceIte, Nat.reduceEqDiff, Int.ofNat_lt, zcw]
def zp3 (l : List Bool) (k : Nat) : List Bool := l.set k (!nth l k)
theorem zc2 (l : List Bool) (k : Nat) : (zp3 l k).length = l.length := by simp [zp3]
theorem jbq (l : List Bool) (k : Int) (h0 : 0 ≤ k) (hk : k < l.length) (h1 : l.length ≤ 1000000) : zaz Try.prog 57 [boolsD l, iD k] (.d (boolsD (zp3 l k.toNat))) := by
 refine zaw (fn := Try.f57) (by kernel_rfl) Try.func57 rfl (Nat.le_of_ble_eq_true rfl) fun c hc hp => ?_
 refine za0 (τ' := frL [(0, .d (boolsD l)), (1, .d (iD k))]) (by repeat (first | exact zar _ | refine zam ?_ (by first | rfl | (simp [r_f]; done) | simp [r_f, *]))) ?_
 refine szq hp (fun _ hZ => zwk hZ) ?_
 refine szq hp (fun _ hZ => jbp hZ) ?_
 have hk' : k.toNat < l.length := by omega
 refine szq hp (fun _ hZ => jbp hZ) ?_
 refine szq hp (fun _ hZ => zwk hZ) ?_
 refine zal ?_
 show closeA _ _ = _
 refine jyf ?_
 simp [zp3]
theorem jf0 (a b c : Bool) : zaz Try.prog 89 [oD a, oD b, oD c] (.d (iD (jm1 a b c))) := by
 cases a <;> cases b <;> cases c <;> exact zbq (n := 60) za8 zai (by kernel_rfl)
theorem jpf {p q : Prop} (hq : q) (h : p = q := by
 conv => lhs; simp -dsimp -implicitDefEqProofs (disch := first | assumption | omega | (simp only [r_z] <;> omega) | decide) only [r_r, ↓reduceIte, Nat.reduceEqDiff, Nat.reduceAdd, D.fix, Int.reduceToNat, Nat.reduceMul, Nat.reduceBNe, Nat.reduceBEq, intssD]) : p := h.mpr hq
theorem jju {p q r : Prop} (e : r) (hq : q) (h : r → p = q := by
 intro hY
 conv => lhs; simp -dsimp -implicitDefEqProofs (disch := first | assumption | omega | (simp only [r_z] <;> omega) | decide) only [r_r, ↓reduceIte, Nat.reduceEqDiff, Nat.reduceAdd, D.fix, Int.reduceToNat, Nat.reduceMul, Nat.reduceBNe, Nat.reduceBEq, intssD, zay, jbo, hY]) : p := (h e).mpr hq
theorem jzq {p q : Prop} (hq : q) (h : p = q := by
 conv => lhs; simp (disch := first | assumption | omega | (simp only [r_z] <;> omega) | decide) only [r_c, Nat.reduceAdd, D.fix, ↓reduceIte, Nat.reduceEqDiff, intssD]) : p := h.mpr hq
theorem jpg (mems : List (List Int)) (n x : Int) (hn : 0 ≤ n) (hn2 : n < 1000000) (hx : 0 ≤ x) : zaz Try.prog 88 [intssD mems, iD n, iD x] (.d (oD (zo1 mems n x))) := by
 have hu : IntKind.u64.wrap (n % 8) = n % 8 := zwd (by omega) (by omega)
 refine zaw (fn := Try.f88) (by kernel_rfl) Try.func88 rfl (Nat.le_of_ble_eq_true rfl) fun c hc hp => ?_
 refine za0 (τ' := frL [(0, .d (intssD mems)), (1, .d (iD n)), (2, .d (iD x))]) (by repeat (first | exact zar _ | refine zam ?_ (by first | rfl | (simp [r_f]; done) | simp [r_f, *]))) ?_
 refine szq hp (fun _ hZ => jpf hZ) ?_
 refine zaa fun K2 hK2 => ?_
 refine zag hp zai hc rfl fun K3 hK3 => ?_
 by_cases h1 : n / 8 < mems.length
 by_cases h2 : x < (nth mems (n / 8).toNat).length
 ·have q1 : decide ((mems.length : Int) ≤ n / 8) = false := by simp; omega
  have q2 : decide (((nth mems (n / 8).toNat).length : Int) ≤ x) = false := by simp; omega
  refine jju (sza q1 q2) ?_
  refine hK3 _ _ ?_
  refine szf ?_
  refine zaf (hK2 _ _ ?_)
  refine szq hp (fun _ hZ => jju hu hZ) ?_
  refine zal ?_
  show closeA _ _ = _
  refine jzq ?_
  simp [zo1, h1, h2, ji6]
 ·have q1 : decide ((mems.length : Int) ≤ n / 8) = false := by simp; omega
  have q2 : decide (((nth mems (n / 8).toNat).length : Int) ≤ x) = true := by simp; omega
  refine jju (sza q1 q2) ?_
  refine hK3 _ _ ?_
  refine szt ?_
  refine szq hp (fun _ hZ => jpf hZ) ?_
  refine zal ?_
  show closeA _ _ = _
  refine jzq ?_
  simp [zo1, h1, h2]
 ·have q1 : decide ((mems.length : Int) ≤ n / 8) = true := by simp; omega
  have h2 := h1
  have q2 := q1
  refine jju (sza q1 q2) ?_
  refine hK3 _ _ ?_
  refine szt ?_
  refine szq hp (fun _ hZ => jpf hZ) ?_
  refine zal ?_
  show closeA _ _ = _
  refine jzq ?_
  simp [zo1, h1]
theorem zfy {p q : Prop} (hq : q) (h : p = q := by
 conv => lhs; simp -dsimp -implicitDefEqProofs (disch := first | assumption | omega | (simp only [r_z, zae, zab, zbx] <;> omega) | decide) only [r_r, ↓reduceIte, Nat.reduceEqDiff, Nat.reduceAdd, D.fix, Int.reduceToNat, Nat.reduceMul, Nat.reduceBNe, Nat.reduceBEq, zby, zb1, zao, zaj, zcc, zcd, zbj, zb8, jbo]) : p := h.mpr hq
theorem zj6 {p q : Prop} (hq : q) (h : p = q := by
 conv => lhs; simp -dsimp -implicitDefEqProofs (disch := first | assumption | omega | (simp only [r_z, zae, zab, zbx] <;> omega) | decide) only [r_r, ↓reduceIte, Nat.reduceEqDiff, Nat.reduceAdd, D.fix, Int.reduceToNat, Nat.reduceMul, Nat.reduceBNe, Nat.reduceBEq, zby, zb1, zao, zaj, zcc, zcd, zbj, zb8]) : p := h.mpr hq
theorem zp4 {m : List Nat} {τ τ' : Fr} {H H' : zad} (h2 : H = H') (h : zgu τ τ' := by
 repeat (first | exact zar _ | refine zam ?_ (by first | rfl | (simp [r_f, zae, zab, zbx]; done) | simp [r_f, zae, zab, zbx, *]))) : Rt m τ H τ' H' := Rt.end h h2
theorem ybb {p q : Prop} (hq : q) (h : p = q := by
 conv => lhs; simp only [r_g, Nat.reduceAdd, ↓reduceIte, Nat.reduceEqDiff, zby, zb1, zao, zaj, zcc, zcd, zbj, zb8]) : p := h.mpr hq
theorem zst {p : Prop} (h : p := by
 first | rfl | (simp only [r_g, Nat.reduceAdd, ↓reduceIte, Nat.reduceEqDiff, zby, zb1, zao, zaj, zcc, zcd, zbj, zb8]; first | done | rfl)) : p := h
theorem jf1 (n : Net) (inp : List Bool) (mems : List (List Int)) (hg : GatesOk (2 + inp.length) n.gates) (h1 : inp.length ≤ 1000000) (h2 : n.gates.length ≤ 1000000) : zaz Try.prog 46 [zby n, boolsD inp, intssD mems] (.d (boolsD (zhd n.gates inp mems))) := by
 refine zaw (fn := Try.f46) (by kernel_rfl) Try.func46 rfl (Nat.le_of_ble_eq_true rfl) fun c hc hp => ?_
 refine za0 (τ' := frL [(0, .d (zby n)), (1, .d (boolsD inp)), (2, .d (intssD mems))]) (by repeat (first | exact zar _ | refine zam ?_ (by first | rfl | (simp [r_f, zae, zab, zbx]; done) | simp [r_f, zae, zab, zbx, *]))) ?_
 refine szq hp (fun _ hZ => zfy hZ) ?_
 refine szq hp (fun _ hZ => zfy hZ) ?_
 refine zaa fun K3 hK3 => ?_
 refine szq hp (fun _ hZ => zj6 hZ) ?_
 refine zac ?_
 refine zan hp (fun τ' H' mm => ∃ (k : Nat), (k ≤ n.gates.length) ∧ mm = n.gates.length - k ∧ H' = [.cells (avs (zb1 n)), .cells (avs ((zhx mems (false :: true :: inp) (n.gates.take k)).map oD))] ∧ τ' = frL [(2, .d (intssD mems)), (3, .op 0 0), (7, .os 1 1 0 (2 + inp.length + k)), (8, .d (iD k))]) (n.gates.length) ?_ ⟨0, Nat.zero_le _, rfl, rfl, rfl⟩ ?_
 ·refine zo3 [0,2] ?_
  refine zp4 ?_
  refine ybb ?_; simp [zhx, oD]; rfl
 rintro τ' H' mm ⟨k, hk, rfl, rfl, rfl⟩
 refine zaa fun K5 hK5 => ?_
 refine szq hp (fun _ hZ => zfy hZ) ?_
 refine zah rfl (fun ht => ?_) (fun ht => ?_)
 ·have hlt : k < n.gates.length := by simp at ht; omega
  have ok := hg k hlt
  obtain ⟨o1, o2, a0, a1, b0, b1, c0, c1, n0, n1⟩ := ok
  have hl : (zhx mems (false :: true :: inp) (n.gates.take k)).length = 2 + inp.length + k := by rw [zbx]; simp; omega
  refine zaf (hK5 _ _ ?_)
  refine zaa fun K7 hK7 => ?_
  refine zac ?_
  refine szq hp (fun _ hZ => zfy hZ) ?_
  refine zas zai hc za8 rfl (q := 0) (by kernel_rfl) (by kernel_rfl) fun K9 hK9 => ?_
  simp -dsimp -implicitDefEqProofs (disch := first | assumption | omega | (simp only [r_z, zae, zab, zbx] <;> omega) | decide) only [r_r, ↓reduceIte, Nat.reduceEqDiff, Nat.reduceAdd, D.fix, Int.reduceToNat, Nat.reduceMul, Nat.reduceBNe, Nat.reduceBEq, zby, zb1, zao, zaj, zcc, zcd, zbj, zb8, zay, jbo]
  obtain ⟨x, hx⟩ : ∃ x, x = nth (zhx mems (false :: true :: inp) (n.gates.take k)) (nth n.gates k).a.toNat := ⟨_, rfl⟩
  obtain ⟨y, hy⟩ : ∃ y, y = nth (zhx mems (false :: true :: inp) (n.gates.take k)) (nth n.gates k).b.toNat := ⟨_, rfl⟩
  obtain ⟨z, hz⟩ : ∃ z, z = nth (zhx mems (false :: true :: inp) (n.gates.take k)) (nth n.gates k).c.toNat := ⟨_, rfl⟩
  have hop : opN mems (zhx mems (false :: true :: inp) (n.gates.take k)) (nth n.gates k) = if (nth n.gates k).op = 7 then zo1 mems (nth n.gates k).n (jm1 x y z) else if (nth n.gates k).op = 1 then !x else if (nth n.gates k).op = 2 then x && y else if (nth n.gates k).op = 3 then x || y else if (nth n.gates k).op = 4 then x != y else if (nth n.gates k).op = 5 then (if x then y else z) else x && (y || z) || y && z := by rw [hx, hy, hz]; rfl
  rw [← hx, ← hy, ← hz]
  obtain ⟨w0, hw0⟩ : ∃ w0, w0 = opN mems (zhx mems (false :: true :: inp) (n.gates.take k)) (nth n.gates k) := ⟨_, rfl⟩
  rw [← hw0] at hop
  replace hw0 := hw0.symm
  clear hx hy hz
  refine hK9 _ _ ?_
  refine szq hp (fun _ hZ => zj6 hZ) ?_
  refine zaa fun K11 hK11 => ?_
  have hJ11 : ∀ τ' H', (∃ τ1 H1, H1 = [.cells (avs (zb1 n)), .cells (avs ((zhx mems (false :: true :: inp) (n.gates.take k)).map oD)), .cells (avs (zb8 (nth n.gates k)))] ∧ τ1 = frL [(2, .d (intssD mems)), (3, .op 0 0), (7, .os 1 1 0 (2 + inp.length + k)), (8, .d (iD k)), (13, .d (oD w0))] ∧ Rt [] τ' H' τ1 H1) → K11 τ' H' := by
   rintro τ' H' ⟨_, _, rfl, rfl, hrt⟩
   refine hK11 _ _ (zbg hp hrt ?_)
   clear hrt
   refine szs hp (fun _ hZ => zfy hZ) (hK7 _ _ ?_)
   refine za5 hp zai hc rfl fun K13 hK13 => ?_
   refine zfy ?_
   refine hK13 _ _ ⟨_, _, _, ?_, ⟨k + 1, by omega, rfl, rfl, rfl⟩, ?_⟩
   ·first | omega | (simp only [List.length_cons]; omega) | (dsimp only; omega)
   ·refine zo3 [0,4] ?_
    refine zp4 ?_
    refine ybb ?_; simp [zd7 _ _ hlt, hw0, oD]
  refine szq hp (fun _ hZ => zfy hZ) ?_
  refine zac ?_
  refine szq hp (fun _ hZ => zfy hZ) ?_
  refine zah rfl (fun ht => ?_) (fun ht => ?_)
  ·rw [show (nth n.gates k).op = 1 by simpa using ht] at hop
   replace hop : w0 = !x := hop
   refine za5 hp zai hc rfl fun K16 hK16 => ?_
   refine zfy ?_
   refine hK16 _ _ (hJ11 _ _ ⟨_, _, rfl, rfl, ?_⟩)
   refine zo3 [0,1,2] ?_
   refine zp4 ?_
   exact zst
  ·have m1 : (nth n.gates k).op ≠ 1 := by simpa using ht
   refine szq hp (fun _ hZ => zfy hZ) ?_
   refine zah rfl (fun ht => ?_) (fun ht => ?_)
   ·rw [show (nth n.gates k).op = 2 by simpa using ht] at hop
    replace hop : w0 = (x && y) := hop
    refine za5 hp zai hc rfl fun K18 hK18 => ?_
    cases x
    ·refine zj6 ?_
     refine hK18 _ _ (hJ11 _ _ ⟨_, _, rfl, rfl, ?_⟩)
     refine zo3 [0,1,2] ?_
     refine zp4 ?_
     exact zst
    ·refine zj6 ?_
     refine hK18 _ _ (hJ11 _ _ ⟨_, _, rfl, rfl, ?_⟩)
     refine zo3 [0,1,2] ?_
     refine zp4 ?_
     exact zst
   ·have m2 : (nth n.gates k).op ≠ 2 := by simpa using ht
    refine szq hp (fun _ hZ => zfy hZ) ?_
    refine zah rfl (fun ht => ?_) (fun ht => ?_)
    ·rw [show (nth n.gates k).op = 3 by simpa using ht] at hop
     replace hop : w0 = (x || y) := hop
     refine za5 hp zai hc rfl fun K20 hK20 => ?_
     cases x
     ·refine zj6 ?_
      refine hK20 _ _ (hJ11 _ _ ⟨_, _, rfl, rfl, ?_⟩)
      refine zo3 [0,1,2] ?_
      refine zp4 ?_
      exact zst
     ·refine zj6 ?_
      refine hK20 _ _ (hJ11 _ _ ⟨_, _, rfl, rfl, ?_⟩)
      refine zo3 [0,1,2] ?_
      refine zp4 ?_
      exact zst
    ·have m3 : (nth n.gates k).op ≠ 3 := by simpa using ht
     refine szq hp (fun _ hZ => zfy hZ) ?_
     refine zah rfl (fun ht => ?_) (fun ht => ?_)
     ·rw [show (nth n.gates k).op = 4 by simpa using ht] at hop
      replace hop : w0 = (x != y) := hop
      refine za5 hp zai hc rfl fun K22 hK22 => ?_
      refine zfy ?_
      refine hK22 _ _ (hJ11 _ _ ⟨_, _, rfl, rfl, ?_⟩)
      refine zo3 [0,1,2] ?_
      refine zp4 ?_
      exact zst
     ·have m4 : (nth n.gates k).op ≠ 4 := by simpa using ht
      refine szq hp (fun _ hZ => zfy hZ) ?_
      refine zah rfl (fun ht => ?_) (fun ht => ?_)
      ·rw [show (nth n.gates k).op = 5 by simpa using ht] at hop
       replace hop : w0 = (if x then y else z) := hop
       refine za5 hp zai hc rfl fun K24 hK24 => ?_
       cases x <;> cases y
       ·refine zfy ?_
        refine hK24 _ _ (hJ11 _ _ ⟨_, _, rfl, rfl, ?_⟩)
        refine zo3 [0,1,2] ?_
        refine zp4 ?_
        exact zst
       ·refine zfy ?_
        refine hK24 _ _ (hJ11 _ _ ⟨_, _, rfl, rfl, ?_⟩)
        refine zo3 [0,1,2] ?_
        refine zp4 ?_
        exact zst
       ·refine zfy ?_
        refine hK24 _ _ (hJ11 _ _ ⟨_, _, rfl, rfl, ?_⟩)
        refine zo3 [0,1,2] ?_
        refine zp4 ?_
        exact zst
       ·refine zfy ?_
        refine hK24 _ _ (hJ11 _ _ ⟨_, _, rfl, rfl, ?_⟩)
        refine zo3 [0,1,2] ?_
        refine zp4 ?_
        exact zst
      ·have m5 : (nth n.gates k).op ≠ 5 := by simpa using ht
       refine szq hp (fun _ hZ => zfy hZ) ?_
       refine zah rfl (fun ht => ?_) (fun ht => ?_)
       ·rw [show (nth n.gates k).op = 6 by simpa using ht] at hop
        replace hop : w0 = (x && (y || z) || y && z) := hop
        refine za5 hp zai hc rfl fun K26 hK26 => ?_
        cases x <;> cases y <;> cases z
        ·refine zj6 ?_
         refine hK26 _ _ (hJ11 _ _ ⟨_, _, rfl, rfl, ?_⟩)
         refine zo3 [0,1,2] ?_
         refine zp4 ?_
         exact zst
        ·refine zj6 ?_
         refine hK26 _ _ (hJ11 _ _ ⟨_, _, rfl, rfl, ?_⟩)
         refine zo3 [0,1,2] ?_
         refine zp4 ?_
         exact zst
        ·refine zj6 ?_
         refine hK26 _ _ (hJ11 _ _ ⟨_, _, rfl, rfl, ?_⟩)
         refine zo3 [0,1,2] ?_
         refine zp4 ?_
         exact zst
        ·refine zj6 ?_
         refine hK26 _ _ (hJ11 _ _ ⟨_, _, rfl, rfl, ?_⟩)
         refine zo3 [0,1,2] ?_
         refine zp4 ?_
         exact zst
        ·refine zj6 ?_
         refine hK26 _ _ (hJ11 _ _ ⟨_, _, rfl, rfl, ?_⟩)
         refine zo3 [0,1,2] ?_
         refine zp4 ?_
         exact zst
        ·refine zj6 ?_
         refine hK26 _ _ (hJ11 _ _ ⟨_, _, rfl, rfl, ?_⟩)
         refine zo3 [0,1,2] ?_
         refine zp4 ?_
         exact zst
        ·refine zj6 ?_
         refine hK26 _ _ (hJ11 _ _ ⟨_, _, rfl, rfl, ?_⟩)
         refine zo3 [0,1,2] ?_
         refine zp4 ?_
         exact zst
        ·refine zj6 ?_
         refine hK26 _ _ (hJ11 _ _ ⟨_, _, rfl, rfl, ?_⟩)
         refine zo3 [0,1,2] ?_
         refine zp4 ?_
         exact zst
       ·have m6 : (nth n.gates k).op ≠ 6 := by simpa using ht
        refine szq hp (fun _ hZ => zfy hZ) ?_
        refine zah rfl (fun ht => ?_) (fun ht => ?_)
        ·rw [show (nth n.gates k).op = 7 by simpa using ht] at hop
         replace hop : w0 = zo1 mems (nth n.gates k).n (jm1 x y z) := hop
         refine zfj zai hc za8 rfl (q := 0) (by kernel_rfl) (by kernel_rfl) fun K28 hK28 => ?_
         refine zfy ?_
         refine za1 (jf0 x y z) rfl ?_
         refine zfy ?_
         refine za1 (jpg mems (nth n.gates k).n (jm1 x y z) n0 n1 (jm2 x y z).1) rfl ?_
         refine zfy ?_
         refine hK28 _ _ (hJ11 _ _ ⟨_, _, rfl, rfl, ?_⟩)
         refine zo3 [0,1,2] ?_
         refine zp4 ?_
         exact zst
        ·have m7 : (nth n.gates k).op ≠ 7 := by simpa using ht
         exfalso
         omega
 ·have hge : k = n.gates.length := by simp at ht; omega
  refine zau (hK3 _ _ ?_)
  refine szq hp (fun _ hZ => zj6 hZ) ?_
  refine zal ?_
  show closeA _ _ = _
  simp (disch := first | assumption | omega | (simp only [r_z, zae, zab, zbx] <;> omega) | decide) only [r_c, Nat.reduceAdd, D.fix, ↓reduceIte, Nat.reduceEqDiff, zby, zb1, zao, zaj, zcc, zcd, zbj, zb8]
  rw [hge, List.take_length]; simp [zhd, zbx]; omega
end Go.Proofs.Ytapjobndmmkanaa
