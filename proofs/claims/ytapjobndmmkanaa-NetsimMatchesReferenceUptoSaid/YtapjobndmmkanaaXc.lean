/- The reference's input values, and sensitive outputs. -/
import Derived.Test.YtapjobndmmkanaaQr
import Derived.Test.YtapjobndmmkanaaXb
set_option linter.unusedVariables false
set_option linter.unusedSimpArgs false
set_option maxRecDepth 100000
set_option maxHeartbeats 4000000
namespace Go.Proofs.Ytapjobndmmkanaa
open Go Go.RowKit
theorem jjv : (((((type_of% @zhw) ∧ ((type_of% @zjb) ∧ (type_of% @zkr))) ∧ (((type_of% @zks) ∧ (type_of% @zgy)) ∧ ((type_of% @zhv) ∧ (type_of% @zfb)))) ∧ ((((type_of% @zfp) ∧ (type_of% @zfq)) ∧ ((type_of% @zgz) ∧ (type_of% @zev))) ∧ (((type_of% @zew) ∧ (type_of% @zje)) ∧ ((type_of% @zjf) ∧ (type_of% @zmt))))) ∧ (((((type_of% @zgp) ∧ (type_of% @zic)) ∧ ((type_of% @zfa) ∧ (type_of% @zdc))) ∧ (((type_of% @zdd) ∧ (type_of% @zdh)) ∧ ((type_of% @zgq) ∧ (type_of% @zh8)))) ∧ ((((type_of% @zmn) ∧ (type_of% @zmo)) ∧ ((type_of% @zpo) ∧ (type_of% @zsn))) ∧ (((type_of% @zq0) ∧ (type_of% @zq1)) ∧ ((type_of% @zsp) ∧ (type_of% @zh9)))))) := ⟨⟨⟨⟨@zhw, ⟨@zjb, @zkr⟩⟩, ⟨⟨@zks, @zgy⟩, ⟨@zhv, @zfb⟩⟩⟩, ⟨⟨⟨@zfp, @zfq⟩, ⟨@zgz, @zev⟩⟩, ⟨⟨@zew, @zje⟩, ⟨@zjf, @zmt⟩⟩⟩⟩, ⟨⟨⟨⟨@zgp, @zic⟩, ⟨@zfa, @zdc⟩⟩, ⟨⟨@zdd, @zdh⟩, ⟨@zgq, @zh8⟩⟩⟩, ⟨⟨⟨@zmn, @zmo⟩, ⟨@zpo, @zsn⟩⟩, ⟨⟨@zq0, @zq1⟩, ⟨@zsp, @zh9⟩⟩⟩⟩⟩
def inC (heads : List Head) (rooms : List Bool) : List D := [za7 heads, boolsD rooms]
theorem zo4 {p q : Prop} (hq : q) (h : p = q := by
 conv => lhs; simp -dsimp -implicitDefEqProofs (disch := first | assumption | omega | (simp only [r_z, zab, zae, zbb, zap] <;> omega) | decide) only [r_r, ↓reduceIte, Nat.reduceEqDiff, Nat.reduceAdd, D.fix, Int.reduceToNat, Nat.reduceMul, Nat.reduceBNe, Nat.reduceBEq, zby, zb1, zao, zaj, zcg, za7, boolsD, inC, za6, zbn, zbj, iD, oD, jjv]) : p := h.mpr hq
theorem jph {p q : Prop} (hq : q) (h : p = q := by
 conv => lhs; simp -dsimp -implicitDefEqProofs (disch := first | assumption | omega | (simp only [r_z, zab, zae, zbb, zap] <;> omega) | decide) only [r_r, ↓reduceIte, Nat.reduceEqDiff, Nat.reduceAdd, D.fix, Int.reduceToNat, Nat.reduceMul, Nat.reduceBNe, Nat.reduceBEq, zby, zb1, zao, zaj, zcg, za7, boolsD, inC, za6, zbn, zbj, iD, oD]) : p := h.mpr hq
theorem jf2 {m : List Nat} {τ τ' : Fr} {H H' : zad} (h2 : H = H') (h : zgu τ τ' := by
 repeat (first | exact zar _ | refine zam ?_ (by first | rfl | (simp [r_f, zab, zae, zbb, zap]; done) | simp [r_f, zab, zae, zbb, zap, *]))) : Rt m τ H τ' H' := Rt.end h h2
theorem jhu (k : List Nat) {m : List Nat} {τ τ1 : Fr} {H H1 : zad} (h : Rt m (fun t => gcV k (τ t)) (gcH k H) τ1 H1) (a : ∀ i ∈ m, k[i]? = some i := by decide) (b : k.Nodup := by decide) (c : ∀ i ∈ k, i < H.length := by
 simp [fzH, gcH]) : Rt m τ H τ1 H1 := Rt.trans (Rt.gc a b c) h
theorem jf3 {p q r : Prop} (e : r) (hq : q) (h : r → p = q := by
 intro hY
 conv => lhs; simp -dsimp -implicitDefEqProofs (disch := first | assumption | omega | (simp only [r_z, zab, zae, zbb, zap] <;> omega) | decide) only [r_r, ↓reduceIte, Nat.reduceEqDiff, Nat.reduceAdd, D.fix, Int.reduceToNat, Nat.reduceMul, Nat.reduceBNe, Nat.reduceBEq, zby, zb1, zao, zaj, zcg, za7, boolsD, inC, za6, zbn, zbj, iD, oD, zay, jjv, hY]) : p := (h e).mpr hq
theorem jbr {p q r : Prop} (e : r) (hq : q) (h : r → p = q := by
 intro hY
 conv => lhs; simp -dsimp -implicitDefEqProofs (disch := first | assumption | omega | (simp only [r_z, zab, zae, zbb, zap] <;> omega) | decide) only [r_r, ↓reduceIte, Nat.reduceEqDiff, Nat.reduceAdd, D.fix, Int.reduceToNat, Nat.reduceMul, Nat.reduceBNe, Nat.reduceBEq, zby, zb1, zao, zaj, zcg, za7, boolsD, inC, za6, zbn, zbj, iD, oD, jfl, jfm, jjv, hY]) : p := (h e).mpr hq
theorem jhv {p : Prop} (h : p := by
 first | rfl | (simp only [r_g, Nat.reduceAdd, ↓reduceIte, Nat.reduceEqDiff, zby, zb1, zao, zaj, zcg, za7, boolsD, inC, za6, zbn, zbj, iD, oD]; first | done | rfl)) : p := h
theorem zu3 (n : Net) (s : PSt) (heads : List Head) (rooms : List Bool) (hi : n.ins.length ≤ 1000000) (hw : ∀ w ∈ n.ins, WireIn w) (h1 : s.regs.length ≤ 1000000) (h2 : heads.length ≤ 1000000) (h3 : rooms.length ≤ 1000000) : zaz Try.prog 18 [zby n, .agg (zcg s), .agg (inC heads rooms)] (.d (boolsD (zme s heads rooms n.ins))) := by
 refine zaw (fn := Try.f18) (by kernel_rfl) Try.func18 rfl (Nat.le_of_ble_eq_true rfl) fun c hc hp => ?_
 refine za0 (τ' := frL [(0, .d (zby n)), (1, .d (.agg (zcg s))), (2, .d (.agg (inC heads rooms)))]) (by repeat (first | exact zar _ | refine zam ?_ (by first | rfl | (simp [r_f, zab, zae, zbb, zap]; done) | simp [r_f, zab, zae, zbb, zap, *]))) ?_
 refine szq hp (fun _ hZ => zo4 hZ) ?_
 refine szq hp (fun _ hZ => zo4 hZ) ?_
 refine zaa fun K3 hK3 => ?_
 refine szq hp (fun _ hZ => jph hZ) ?_
 refine zac ?_
 refine zan hp (fun τ' H' mm => ∃ (k : Nat), (k ≤ n.ins.length) ∧ mm = n.ins.length - k ∧ H' = [.cells (avs (zb1 n)), .cells (avs (zcg s)), .cells (avs (inC heads rooms)), .cells (avs (((zme s heads rooms n.ins).take k).map oD))] ∧ τ' = frL [(3, .op 0 0), (4, .op 1 0), (5, .op 2 0), (7, .os 1 3 0 k), (8, .d (iD k))]) (n.ins.length) ?_ ⟨0, Nat.zero_le _, rfl, rfl, rfl⟩ ?_
 ·refine jf2 ?_
  exact jhv
 rintro τ' H' mm ⟨k, hk, rfl, rfl, rfl⟩
 refine zaa fun K5 hK5 => ?_
 refine szq hp (fun _ hZ => zo4 hZ) ?_
 refine zah rfl (fun ht => ?_) (fun ht => ?_)
 ·have hlt : k < n.ins.length := by simp at ht; omega
  obtain ⟨k1, k4, i0, b0, b7, i2⟩ := hw _ (zb0 hlt)
  have hnv : nth (zme s heads rooms n.ins) k = inV s heads rooms (nth n.ins k) := zgm hlt
  have hlk : ((zme s heads rooms n.ins).take k).length = k := by simp [zbb]; omega
  refine zaf (hK5 _ _ ?_)
  refine zaa fun K7 hK7 => ?_
  refine zac ?_
  refine szq hp (fun _ hZ => zo4 hZ) ?_
  refine szq hp (fun _ hZ => jph hZ) ?_
  refine zaa fun K10 hK10 => ?_
  have hJ10 : ∀ τ' H', (∃ τ1 H1, ∃ (v : Bool), (v = inV s heads rooms (nth n.ins k)) ∧ H1 = [.cells (avs (zb1 n)), .cells (avs (zcg s)), .cells (avs (inC heads rooms)), .cells (avs (((zme s heads rooms n.ins).take k).map oD))] ∧ τ1 = frL [(3, .op 0 0), (4, .op 1 0), (5, .op 2 0), (7, .os 1 3 0 k), (8, .d (iD k)), (10, .d (oD v))] ∧ Rt [] τ' H' τ1 H1) → K10 τ' H' := by
   rintro τ' H' ⟨_, _, v, hv, rfl, rfl, hrt⟩
   refine hK10 _ _ (zbg hp hrt ?_)
   clear hrt
   refine szs hp (fun _ hZ => zo4 hZ) (hK7 _ _ ?_)
   refine za5 hp zai hc rfl fun K12 hK12 => ?_
   refine zo4 ?_
   refine hK12 _ _ ⟨_, _, _, ?_, ⟨k + 1, by omega, rfl, rfl, rfl⟩, ?_⟩
   ·first | omega | (simp only [List.length_cons]; omega) | (dsimp only; omega)
   ·refine jhu [0,1,2,5] ?_
    refine jf2 ?_
    simp only [r_g, Nat.reduceAdd, ↓reduceIte, Nat.reduceEqDiff, zby, zb1, zao, zaj, zcg, za7, boolsD, inC, za6, zbn, zbj, iD, oD]; rw [zeu (by rw [zbb]; exact hlt), hnv, ← hv]; simp [oD, zb1, zcg, inC, avs, zao, zaj, za7, boolsD]
  refine szq hp (fun _ hZ => zo4 hZ) ?_
  refine zac ?_
  refine szq hp (fun _ hZ => zo4 hZ) ?_
  refine zah rfl (fun ht => ?_) (fun ht => ?_)
  ·have e1 : (nth n.ins k).kind = 1 := by simpa using ht
   refine zfj zai hc za8 rfl (q := 0) (by kernel_rfl) (by kernel_rfl) fun K15 hK15 => ?_
   by_cases hin : (nth n.ins k).i < s.regs.length
   ·have hin2 : (nth n.ins k).i.toNat < s.regs.length := by omega
    have q5 : decide ((nth n.ins k).i < (s.regs.length : Int)) = true := decide_eq_true hin
    refine jf3 q5 ?_
    refine za1 (jvm (nth s.regs (nth n.ins k).i.toNat) (nth n.ins k).bit b0 b7) rfl ?_
    refine jf3 q5 ?_
    refine hK15 _ _ (hJ10 _ _ ⟨_, _, (ji6 (nth s.regs (nth n.ins k).i.toNat) (nth n.ins k).bit), by simp [inV, e1, hin], rfl, rfl, ?_⟩)
    refine jhu [0,1,2,3] ?_
    refine jf2 ?_
    exact jhv
   ·have q5 : decide ((nth n.ins k).i < (s.regs.length : Int)) = false := decide_eq_false hin
    refine jf3 q5 ?_
    refine hK15 _ _ (hJ10 _ _ ⟨_, _, false, by simp [inV, e1, hin], rfl, rfl, ?_⟩)
    refine jhu [0,1,2,3] ?_
    refine jf2 ?_
    exact jhv
  ·have m1 : (nth n.ins k).kind ≠ 1 := by simpa using ht
   refine szq hp (fun _ hZ => zo4 hZ) ?_
   refine zah rfl (fun ht => ?_) (fun ht => ?_)
   ·have e2 : (nth n.ins k).kind = 2 := by simpa using ht
    refine zfj zai hc za8 rfl (q := 0) (by kernel_rfl) (by kernel_rfl) fun K17 hK17 => ?_
    by_cases hin : (nth n.ins k).i < heads.length
    rcases tf (nth heads (nth n.ins k).i.toNat).has with e3 | e3
    ·have hin2 : (nth n.ins k).i.toNat < heads.length := by omega
     have q5 : decide ((nth n.ins k).i < (heads.length : Int)) = true := decide_eq_true hin
     refine jbr (sza q5 e3) ?_
     refine za1 (jvm (nth heads (nth n.ins k).i.toNat).v (nth n.ins k).bit b0 b7) rfl ?_
     refine jbr (sza q5 e3) ?_
     refine hK17 _ _ (hJ10 _ _ ⟨_, _, (ji6 (nth heads (nth n.ins k).i.toNat).v (nth n.ins k).bit), by simp [inV, e2, hin, e3], rfl, rfl, ?_⟩)
     refine jhu [0,1,2,3] ?_
     refine jf2 ?_
     exact jhv
    ·have hin2 : (nth n.ins k).i.toNat < heads.length := by omega
     have q5 : decide ((nth n.ins k).i < (heads.length : Int)) = true := decide_eq_true hin
     refine jbr (sza q5 e3) ?_
     refine hK17 _ _ (hJ10 _ _ ⟨_, _, false, by simp [inV, e2, hin, e3], rfl, rfl, ?_⟩)
     refine jhu [0,1,2,3] ?_
     refine jf2 ?_
     exact jhv
    ·have q5 : decide ((nth n.ins k).i < (heads.length : Int)) = false := decide_eq_false hin
     have e3 := q5
     refine jbr (sza q5 e3) ?_
     refine hK17 _ _ (hJ10 _ _ ⟨_, _, false, by simp [inV, e2, hin], rfl, rfl, ?_⟩)
     refine jhu [0,1,2,3] ?_
     refine jf2 ?_
     exact jhv
   ·have m2 : (nth n.ins k).kind ≠ 2 := by simpa using ht
    refine szq hp (fun _ hZ => zo4 hZ) ?_
    refine zah rfl (fun ht => ?_) (fun ht => ?_)
    ·have e3 : (nth n.ins k).kind = 3 := by simpa using ht
     refine za5 hp zai hc rfl fun K19 hK19 => ?_
     by_cases hin : (nth n.ins k).i < heads.length
     ·have hin2 : (nth n.ins k).i.toNat < heads.length := by omega
      have q5 : decide ((nth n.ins k).i < (heads.length : Int)) = true := decide_eq_true hin
      refine jbr q5 ?_
      refine hK19 _ _ (hJ10 _ _ ⟨_, _, (nth heads (nth n.ins k).i.toNat).has, by simp [inV, e3, hin], rfl, rfl, ?_⟩)
      refine jhu [0,1,2,3] ?_
      refine jf2 ?_
      exact jhv
     ·have q5 : decide ((nth n.ins k).i < (heads.length : Int)) = false := decide_eq_false hin
      refine jbr q5 ?_
      refine hK19 _ _ (hJ10 _ _ ⟨_, _, false, by simp [inV, e3, hin], rfl, rfl, ?_⟩)
      refine jhu [0,1,2,3] ?_
      refine jf2 ?_
      exact jhv
    ·have m3 : (nth n.ins k).kind ≠ 3 := by simpa using ht
     refine szq hp (fun _ hZ => zo4 hZ) ?_
     refine zah rfl (fun ht => ?_) (fun ht => ?_)
     ·have e4 : (nth n.ins k).kind = 4 := by simpa using ht
      refine za5 hp zai hc rfl fun K21 hK21 => ?_
      by_cases hin : (nth n.ins k).i < rooms.length
      ·have hin2 : (nth n.ins k).i.toNat < rooms.length := by omega
       have q5 : decide ((nth n.ins k).i < (rooms.length : Int)) = true := decide_eq_true hin
       refine jf3 q5 ?_
       refine hK21 _ _ (hJ10 _ _ ⟨_, _, (nth rooms (nth n.ins k).i.toNat), by simp [inV, e4, hin], rfl, rfl, ?_⟩)
       refine jhu [0,1,2,3] ?_
       refine jf2 ?_
       exact jhv
      ·have q5 : decide ((nth n.ins k).i < (rooms.length : Int)) = false := decide_eq_false hin
       refine jf3 q5 ?_
       refine hK21 _ _ (hJ10 _ _ ⟨_, _, false, by simp [inV, e4, hin], rfl, rfl, ?_⟩)
       refine jhu [0,1,2,3] ?_
       refine jf2 ?_
       exact jhv
     ·have m4 : (nth n.ins k).kind ≠ 4 := by simpa using ht
      exfalso
      omega
 ·have hkk : k = n.ins.length := by simp at ht; omega
  refine zau (hK3 _ _ ?_)
  refine szq hp (fun _ hZ => jph hZ) ?_
  refine zal ?_
  show closeA _ _ = _
  simp (disch := first | assumption | omega | (simp only [r_z, zab, zae, zbb, zap] <;> omega) | decide) only [r_c, Nat.reduceAdd, D.fix, ↓reduceIte, Nat.reduceEqDiff, zby, zb1, zao, zaj, zcg, za7, boolsD, inC, za6, zbn, zbj, iD, oD]
  rw [hkk, List.take_of_length_le (by rw [zbb]; exact Nat.le_refl _)]; simp [zbb]
theorem jpi {p q : Prop} (hq : q) (h : p = q := by
 conv => lhs; simp -dsimp -implicitDefEqProofs (disch := first | assumption | omega | (simp only [r_z] <;> omega) | decide) only [r_r, ↓reduceIte, Nat.reduceEqDiff, Nat.reduceAdd, D.fix, Int.reduceToNat, Nat.reduceMul, Nat.reduceBNe, Nat.reduceBEq, zby, zb1, zao, zaj, jjv]) : p := h.mpr hq
theorem zsu (n : Net) (inp : List Bool) (mems : List (List Int)) (hg : GatesOk (2 + inp.length) n.gates) (h1 : inp.length ≤ 1000000) (h2 : n.gates.length ≤ 1000000) : zaz Try.prog 16 [zby n, boolsD inp, intssD mems] (.d (boolsD (zhd n.gates inp mems))) := by
 refine zaw (fn := Try.f16) (by kernel_rfl) Try.func16 rfl (Nat.le_of_ble_eq_true rfl) fun c hc hp => ?_
 refine za0 (τ' := frL [(0, .d (zby n)), (1, .d (boolsD inp)), (2, .d (intssD mems))]) (by repeat (first | exact zar _ | refine zam ?_ (by first | rfl | (simp [r_f]; done) | simp [r_f, *]))) ?_
 refine szq hp (fun _ hZ => jpi hZ) ?_
 refine zag hp zai hc rfl fun K2 hK2 => ?_
 refine jpi ?_
 refine za1 (jf1 n inp mems hg h1 h2) rfl ?_
 refine jpi ?_
 refine hK2 _ _ ?_
 refine zal ?_
 show closeA _ _ = _
 simp (disch := first | assumption | omega | (simp only [r_z] <;> omega) | decide) only [r_c, Nat.reduceAdd, D.fix, ↓reduceIte, Nat.reduceEqDiff, zby, zb1, zao, zaj]
end Go.Proofs.Ytapjobndmmkanaa
