/- Equal firings are the same. -/
import Derived.Test.YtapjobndmmkanaaQr
import Derived.Test.YtapjobndmmkanaaXb
set_option linter.unusedVariables false
set_option linter.unusedSimpArgs false
set_option maxRecDepth 100000
set_option maxHeartbeats 4000000
namespace Go.Proofs.Ytapjobndmmkanaa
open Go Go.RowKit
theorem jf4 : (((((type_of% @zum) ∧ ((type_of% @zun) ∧ (type_of% @zfa))) ∧ ((type_of% @zdc) ∧ ((type_of% @zdd) ∧ (type_of% @zq0)))) ∧ (((type_of% @zq1) ∧ ((type_of% @jq3) ∧ (type_of% @zgo))) ∧ ((type_of% @zht) ∧ ((type_of% @zhu) ∧ (type_of% @zkq))))) ∧ ((((type_of% @je3) ∧ ((type_of% @zli) ∧ (type_of% @zlj))) ∧ ((type_of% @zkr) ∧ ((type_of% @zks) ∧ (type_of% @zgy)))) ∧ (((type_of% @zlk) ∧ ((type_of% @zmn) ∧ (type_of% @zmo))) ∧ ((type_of% @zpo) ∧ ((type_of% @jbd) ∧ (type_of% @jbe)))))) := ⟨⟨⟨⟨@zum, ⟨@zun, @zfa⟩⟩, ⟨@zdc, ⟨@zdd, @zq0⟩⟩⟩, ⟨⟨@zq1, ⟨@jq3, @zgo⟩⟩, ⟨@zht, ⟨@zhu, @zkq⟩⟩⟩⟩, ⟨⟨⟨@je3, ⟨@zli, @zlj⟩⟩, ⟨@zkr, ⟨@zks, @zgy⟩⟩⟩, ⟨⟨@zlk, ⟨@zmn, @zmo⟩⟩, ⟨@zpo, ⟨@jbd, @jbe⟩⟩⟩⟩⟩
theorem jf5 {p q : Prop} (hq : q) (h : p = q := by
 conv => lhs; simp -dsimp -implicitDefEqProofs (disch := first | assumption | omega | (simp only [r_z] <;> omega) | decide) only [r_r, ↓reduceIte, Nat.reduceEqDiff, Nat.reduceAdd, D.fix, Int.reduceToNat, Nat.reduceMul, Nat.reduceBNe, Nat.reduceBEq, zcg, intssD, zay, jf4]) : p := h.mpr hq
theorem jvs {p q : Prop} (hq : q) (h : p = q := by
 conv => lhs; simp -dsimp -implicitDefEqProofs (disch := first | assumption | omega | (simp only [r_z] <;> omega) | decide) only [r_r, ↓reduceIte, Nat.reduceEqDiff, Nat.reduceAdd, D.fix, Int.reduceToNat, Nat.reduceMul, Nat.reduceBNe, Nat.reduceBEq, zcg, intssD, zay, bne_self_eq_false, jf4]) : p := h.mpr hq
theorem jvt {p q : Prop} (hq : q) (h : p = q := by
 conv => lhs; simp -dsimp -implicitDefEqProofs (disch := first | assumption | omega | (simp only [r_z] <;> omega) | decide) only [r_r, ↓reduceIte, Nat.reduceEqDiff, Nat.reduceAdd, D.fix, Int.reduceToNat, Nat.reduceMul, Nat.reduceBNe, Nat.reduceBEq, zcg, intssD, zay]) : p := h.mpr hq
theorem ybc {m : List Nat} {τ τ' : Fr} {H H' : zad} (h2 : H = H') (h : zgu τ τ' := by
 repeat (first | exact zar _ | refine zam ?_ (by first | rfl | (simp [r_f]; done) | simp [r_f, *]))) : Rt m τ H τ' H' := Rt.end h h2
theorem ybd {p : Prop} (h : p := by
 first | rfl | (simp only [r_g, Nat.reduceAdd, ↓reduceIte, Nat.reduceEqDiff, zcg, intssD, zay]; first | done | rfl)) : p := h
theorem jvu (s : PSt) (h1 : s.regs.length ≤ 1000000) (h2 : s.mems.length ≤ 1000000) (h3 : ∀ l ∈ s.mems, l.length ≤ 1000000) : zaz Try.prog 49 [.agg (zcg s), .agg (zcg s)] (.d (oD true)) := by
 have m6 : (1000000 : Nat) ≤ maxLen := by unfold maxLen; decide
 have hi1 := jfh s.regs s.regs (by omega)
 rw [show decide (s.regs = s.regs) = true by simp] at hi1
 refine zaw (fn := Try.f49) (by kernel_rfl) Try.func49 rfl (Nat.le_of_ble_eq_true rfl) fun c hc hp => ?_
 refine za0 (τ' := frL [(0, .d (.agg (zcg s))), (1, .d (.agg (zcg s)))]) (by repeat (first | exact zar _ | refine zam ?_ (by first | rfl | (simp [r_f]; done) | simp [r_f, *]))) ?_
 refine szq hp (fun _ hZ => jf5 hZ) ?_
 refine zaa fun K2 hK2 => ?_
 refine zag hp zai hc rfl fun K3 hK3 => ?_
 refine jvs ?_
 refine za1 (hi1) rfl ?_
 refine jvs ?_
 refine hK3 _ _ ?_
 refine szf ?_
 refine zaf (hK2 _ _ ?_)
 refine zaa fun K4 hK4 => ?_
 refine szq hp (fun _ hZ => jvt hZ) ?_
 refine zac ?_
 refine zan hp (fun τ' H' mm => ∃ (k : Nat), (k ≤ s.mems.length) ∧ mm = s.mems.length - k ∧ H' = [.cells (avs (zcg s)), .cells (avs (zcg s))] ∧ τ' = frL [(2, .op 0 0), (3, .op 1 0), (5, .d (iD k))]) (s.mems.length) ?_ ⟨0, Nat.zero_le _, rfl, rfl, rfl⟩ ?_
 ·refine ybc ?_
  exact ybd
 rintro τ' H' mm ⟨k, hk, rfl, rfl, rfl⟩
 refine zaa fun K6 hK6 => ?_
 refine szq hp (fun _ hZ => jf5 hZ) ?_
 refine zah rfl (fun ht => ?_) (fun ht => ?_)
 ·have hlt : k < s.mems.length := by simp at ht; omega
  have hi2 := jfh (nth s.mems k) (nth s.mems k) (by have := h3 _ (zb0 hlt); omega)
  rw [show decide (nth s.mems k = nth s.mems k) = true by simp] at hi2
  refine zaf (hK6 _ _ ?_)
  refine zaa fun K8 hK8 => ?_
  refine zac ?_
  refine zas zai hc za8 rfl (q := 0) (by kernel_rfl) (by kernel_rfl) fun K9 hK9 => ?_
  refine jf5 ?_
  refine za1 (hi2) rfl ?_
  refine jf5 ?_
  refine hK9 _ _ ?_
  refine szf ?_
  refine zaf (hK8 _ _ ?_)
  refine za5 hp zai hc rfl fun K10 hK10 => ?_
  refine jf5 ?_
  refine hK10 _ _ ⟨_, _, _, ?_, ⟨k + 1, by omega, rfl, rfl, rfl⟩, ?_⟩
  ·first | omega | (simp only [List.length_cons]; omega) | (dsimp only; omega)
  ·refine ybc ?_
   exact ybd
 ·refine zau (hK4 _ _ ?_)
  refine szq hp (fun _ hZ => jvt hZ) ?_
  refine zal ?_
  show closeA _ _ = _
  simp (disch := first | assumption | omega | (simp only [r_z] <;> omega) | decide) only [r_c, Nat.reduceAdd, D.fix, ↓reduceIte, Nat.reduceEqDiff, zcg, intssD, zay]
theorem jf6 {p q : Prop} (hq : q) (h : p = q := by
 conv => lhs; simp -dsimp -implicitDefEqProofs (disch := first | assumption | omega | (simp only [r_z, zap] <;> omega) | decide) only [r_r, ↓reduceIte, Nat.reduceEqDiff, Nat.reduceAdd, D.fix, Int.reduceToNat, Nat.reduceMul, Nat.reduceBNe, Nat.reduceBEq, zgv, boolsD, za7, zay, zcv, r_e, jf4]) : p := h.mpr hq
theorem jpl {p q : Prop} (hq : q) (h : p = q := by
 conv => lhs; simp -dsimp -implicitDefEqProofs (disch := first | assumption | omega | (simp only [r_z, zap] <;> omega) | decide) only [r_r, ↓reduceIte, Nat.reduceEqDiff, Nat.reduceAdd, D.fix, Int.reduceToNat, Nat.reduceMul, Nat.reduceBNe, Nat.reduceBEq, zgv, boolsD, za7, zay, zcv, r_e, bne_self_eq_false, jf4]) : p := h.mpr hq
theorem jpm {p q : Prop} (hq : q) (h : p = q := by
 conv => lhs; simp -dsimp -implicitDefEqProofs (disch := first | assumption | omega | (simp only [r_z, zap] <;> omega) | decide) only [r_r, ↓reduceIte, Nat.reduceEqDiff, Nat.reduceAdd, D.fix, Int.reduceToNat, Nat.reduceMul, Nat.reduceBNe, Nat.reduceBEq, zgv, boolsD, za7, zay, zcv, r_e]) : p := h.mpr hq
theorem jyh {m : List Nat} {τ τ' : Fr} {H H' : zad} (h2 : H = H') (h : zgu τ τ' := by
 repeat (first | exact zar _ | refine zam ?_ (by first | rfl | (simp [r_f, zap]; done) | simp [r_f, zap, *]))) : Rt m τ H τ' H' := Rt.end h h2
theorem jyi {p : Prop} (h : p := by
 first | rfl | (simp only [r_g, Nat.reduceAdd, ↓reduceIte, Nat.reduceEqDiff, zgv, boolsD, za7, zay, zcv, r_e]; first | done | rfl)) : p := h
theorem jpn (f : Fir) (h1 : f.st.regs.length ≤ 1000000) (h2 : f.st.mems.length ≤ 1000000) (h3 : ∀ l ∈ f.st.mems, l.length ≤ 1000000) (h4 : f.pops.length ≤ 1000000) (h5 : f.puts.length ≤ 1000000) : zaz Try.prog 19 [.agg (zgv f), .agg (zgv f)] (.d (oD true)) := by
 have hs := jvu f.st h1 h2 h3
 refine zaw (fn := Try.f19) (by kernel_rfl) Try.func19 rfl (Nat.le_of_ble_eq_true rfl) fun c hc hp => ?_
 refine za0 (τ' := frL [(0, .d (.agg (zgv f))), (1, .d (.agg (zgv f)))]) (by repeat (first | exact zar _ | refine zam ?_ (by first | rfl | (simp [r_f, zap]; done) | simp [r_f, zap, *]))) ?_
 refine szq hp (fun _ hZ => jf6 hZ) ?_
 refine zaa fun K2 hK2 => ?_
 refine zag hp zai hc rfl fun K3 hK3 => ?_
 refine jpl ?_
 refine za1 (hs) rfl ?_
 refine jpl ?_
 refine hK3 _ _ ?_
 refine szf ?_
 refine zaf (hK2 _ _ ?_)
 refine zaa fun K4 hK4 => ?_
 refine szq hp (fun _ hZ => jpm hZ) ?_
 refine zac ?_
 refine zan hp (fun τ' H' mm => ∃ (k : Nat), (k ≤ f.pops.length) ∧ mm = f.pops.length - k ∧ H' = [.cells (avs (zgv f)), .cells (avs (zgv f))] ∧ τ' = frL [(2, .op 0 0), (3, .op 1 0), (5, .d (iD k))]) (f.pops.length) ?_ ⟨0, Nat.zero_le _, rfl, rfl, rfl⟩ ?_
 ·refine jyh ?_
  exact jyi
 rintro τ' H' mm ⟨k, hk, rfl, rfl, rfl⟩
 refine zaa fun K6 hK6 => ?_
 refine szq hp (fun _ hZ => jf6 hZ) ?_
 refine zah rfl (fun ht => ?_) (fun ht => ?_)
 ·have hlt : k < f.pops.length := by simp at ht; omega
  refine zaf (hK6 _ _ ?_)
  refine zaa fun K8 hK8 => ?_
  refine zac ?_
  refine zas zai hc za8 rfl (q := 0) (by kernel_rfl) (by kernel_rfl) fun K9 hK9 => ?_
  refine jpl ?_
  refine hK9 _ _ ?_
  refine szf ?_
  refine zaf (hK8 _ _ ?_)
  refine za5 hp zai hc rfl fun K10 hK10 => ?_
  refine jf6 ?_
  refine hK10 _ _ ⟨_, _, _, ?_, ⟨k + 1, by omega, rfl, rfl, rfl⟩, ?_⟩
  ·first | omega | (simp only [List.length_cons]; omega) | (dsimp only; omega)
  ·refine jyh ?_
   exact jyi
 ·refine zau (hK4 _ _ ?_)
  refine zaa fun K11 hK11 => ?_
  refine szq hp (fun _ hZ => jpm hZ) ?_
  refine zac ?_
  refine zan hp (fun τ' H' mm => ∃ (k : Nat), (k ≤ f.puts.length) ∧ mm = f.puts.length - k ∧ H' = [.cells (avs (zgv f)), .cells (avs (zgv f))] ∧ τ' = frL [(2, .op 0 0), (3, .op 1 0), (6, .d (iD k))]) (f.puts.length) ?_ ⟨0, Nat.zero_le _, rfl, rfl, rfl⟩ ?_
  ·refine jyh ?_
   exact jyi
  rintro τ' H' mm ⟨k, hk2, rfl, rfl, rfl⟩
  refine zaa fun K13 hK13 => ?_
  refine szq hp (fun _ hZ => jf6 hZ) ?_
  refine zah rfl (fun ht => ?_) (fun ht => ?_)
  ·have hlt : k < f.puts.length := by simp at ht; omega
   refine zaf (hK13 _ _ ?_)
   refine zaa fun K15 hK15 => ?_
   refine zac ?_
   refine zas zai hc za8 rfl (q := 0) (by kernel_rfl) (by kernel_rfl) fun K16 hK16 => ?_
   simp -dsimp -implicitDefEqProofs (disch := first | assumption | omega | (simp only [r_z, zap] <;> omega) | decide) only [r_r, ↓reduceIte, Nat.reduceEqDiff, Nat.reduceAdd, D.fix, Int.reduceToNat, Nat.reduceMul, Nat.reduceBNe, Nat.reduceBEq, zgv, boolsD, za7, zay, zcv, r_e, jjd, zrc, bne_self_eq_false, jf4, zqv jt8, zqv jt8]
   refine hK16 _ _ ?_
   refine zah rfl (fun ht => ?_) (fun ht => ?_)
   ·simp at ht
   ·refine zaf (hK15 _ _ ?_)
    refine za5 hp zai hc rfl fun K17 hK17 => ?_
    refine jf6 ?_
    refine hK17 _ _ ⟨_, _, _, ?_, ⟨k + 1, by omega, rfl, rfl, rfl⟩, ?_⟩
    ·first | omega | (simp only [List.length_cons]; omega) | (dsimp only; omega)
    ·refine jyh ?_
     exact jyi
  ·refine zau (hK11 _ _ ?_)
   refine szq hp (fun _ hZ => jpm hZ) ?_
   refine zal ?_
   show closeA _ _ = _
   simp (disch := first | assumption | omega | (simp only [r_z, zap] <;> omega) | decide) only [r_c, Nat.reduceAdd, D.fix, ↓reduceIte, Nat.reduceEqDiff, zgv, boolsD, za7, zay, zcv, r_e]
theorem jf7 (out : List Wire) (s : PSt) (v : List Bool) (e0 e1 : Nat) (h1 : s.regs.length ≤ 1000) (h2 : s.mems.length ≤ 1000) (h3 : ∀ l ∈ s.mems, l.length ≤ 1000) (h4 : e0 ≤ 1000) (h5 : e1 ≤ 1000) :
  zaz Try.prog 19 [.agg (zgv (efF out s v e0 e1)), .agg (zgv (efF out s v e0 e1))] (.d (oD true)) := by
 refine jpn (efF out s v e0 e1) ?_ ?_ ?_ ?_ ?_
 ·show (zg3 out v s.regs.length).length ≤ _; rw [zbc]; omega
 ·show (zhe out v s.mems s.mems.length).length ≤ _; rw [zbd]; omega
 ·intro l hl
  obtain ⟨i, hi, rfl⟩ := List.mem_map.1 (show l ∈ zhe out v s.mems s.mems.length from hl)
  have hi' : i < s.mems.length := by simpa using hi
  rw [jjk]; have := h3 _ (zb0 hi'); omega
 ·show (zmz out v e0).length ≤ _; rw [zbe]; omega
 ·show (zp1 out v e1).length ≤ _; rw [zbf]; omega
end Go.Proofs.Ytapjobndmmkanaa
