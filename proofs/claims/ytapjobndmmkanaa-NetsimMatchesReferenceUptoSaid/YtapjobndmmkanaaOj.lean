/- The reference's netlists of processes that bytes describe. -/
import Derived.Test.YtapjobndmmkanaaQr
import Derived.Test.YtapjobndmmkanaaWl
import Derived.Test.YtapjobndmmkanaaOh
set_option linter.unusedVariables false
set_option linter.unusedSimpArgs false
set_option maxRecDepth 100000
set_option maxHeartbeats 4000000
namespace Go.Proofs.Ytapjobndmmkanaa
open Go Go.RowKit
theorem yap : (((type_of% @jin) ∧ (type_of% @jio)) ∧ ((type_of% @zhw) ∧ ((type_of% @zuo) ∧ (type_of% @jfa)))) := ⟨⟨@jin, @jio⟩, ⟨@zhw, ⟨@zuo, @jfa⟩⟩⟩
theorem jks {p q : Prop} (hq : q) (h : p = q := by
 conv => lhs; simp -dsimp -implicitDefEqProofs (disch := first | assumption | omega | (simp only [r_z] <;> omega) | decide) only [r_r, ↓reduceIte, Nat.reduceEqDiff, Nat.reduceAdd, D.fix, Int.reduceToNat, Nat.reduceMul, Nat.reduceBNe, Nat.reduceBEq, jat, zdi, zby, zb1, zao, zaj, intsD, yap]) : p := h.mpr hq
theorem jqv (b : List Int) (hb : zfx b) (hl : b.length ≤ maxLen) : zf5 Try.prog 11 [.agg [bytesD b]] (fun r => ∃ p, Proc p ∧ r = .d (zby (jrc p))) := by
 refine zit (fn := Try.f11) (by kernel_rfl) Try.func11 rfl (Nat.le_of_ble_eq_true rfl) fun c hc hp => ?_
 refine za0 (τ' := frL [(0, .d (.agg [bytesD b]))]) (by repeat (first | exact zar _ | refine zam ?_ (by first | rfl | (simp [r_f]; done) | simp [r_f, *]))) ?_
 refine szq hp (fun _ hZ => jks hZ) ?_
 refine zag hp zai hc rfl fun K2 hK2 => ?_
 refine jks ?_
 refine jsn (jqg b hb hl) rfl fun r hr => ?_
 obtain ⟨p, hp', rfl⟩ := hr
 have hc1 := hp'.cost; have hc2 := hp'.ins
 have hbu := jkr p hp'.ok (by omega) (by omega)
 refine jks ?_
 refine za1 (hbu) rfl ?_
 refine jks ?_
 refine hK2 _ _ ?_
 refine zal ?_
 try dsimp only [zbm, zaq]
 refine zak rfl ?_
 simp -dsimp -implicitDefEqProofs (disch := first | assumption | omega | (simp only [r_z] <;> omega) | decide) only [r_r, ↓reduceIte, Nat.reduceEqDiff, Nat.reduceAdd, D.fix, Int.reduceToNat, Nat.reduceMul, Nat.reduceBNe, Nat.reduceBEq, jat, zdi, zby, zb1, zao, zaj, intsD, zhw, zjb]
 show ∃ r, closeA _ _ = some r ∧ _
 simp (disch := first | assumption | omega | (simp only [r_z] <;> omega) | decide) only [r_c, Nat.reduceAdd, D.fix, ↓reduceIte, Nat.reduceEqDiff, jat, zdi, zby, zb1, zao, zaj, intsD]
 exact ⟨_, rfl, p, hp', rfl⟩
/- Netlists of processes are valid. -/
section
section
variable {p : Pr}
theorem jxx (h : Proc p) : ∀ i, i ≤ p.regs.length → (zdx p i).out.length ≤ 3 * i
 | 0, _ => by simp [zdx]
 | i + 1, hi => by
  have ih := jxx h i (by omega)
  have hs := (zu6 h.ok (show i < p.regs.length by omega) (zlx h.ok i (by omega))).b.wid
  have := (h.rw i (by omega)).2
  rw [zdx]; simp only [List.length_append, za9, hs]; omega
theorem jxy (h : Proc p) : ∀ i, i ≤ p.takes.length → (zdq p i).out.length ≤ 9 + i
 | 0, _ => by have := jxx h _ (Nat.le_refl _); have := h.r3; rw [zdq]; omega
 | i + 1, hi => by
  have ih := jxy h i (by omega)
  rw [zdq]; simp only [List.length_append, List.length_cons, List.length_nil]; omega
theorem jxz (h : Proc p) : ∀ i, i ≤ p.puts.length → (zdl p i).out.length ≤ 11 + 3 * i
 | 0, _ => by have := jxy h _ (Nat.le_refl _); have := h.t2; rw [zdl]; omega
 | i + 1, hi => by
  have ih := jxz h i (by omega)
  have hs := (zu7 h.ok (show i < p.puts.length by omega) (zly h.ok i (by omega))).hb.wid
  have := (h.qw i (by omega)).2
  rw [zdl]; simp only [List.length_append, List.length_cons, List.length_nil, za9, hs]; omega
theorem jx0 (h : Proc p) : ∀ i, i ≤ p.mems.length → (zcm p i).out.length ≤ 17 + 6 * i
 | 0, _ => by have := jxz h _ (Nat.le_refl _); have := h.q2; rw [zcm]; omega
 | i + 1, hi => by
  have ih := jx0 h i (by omega)
  have hs := (zu8 h.ok (show i < p.mems.length by omega) (zj9 h.ok i (by omega)) rfl rfl rfl rfl).hw.wid
  have := (h.mw i (by omega)).2.1
  rw [zcm]; simp only [List.length_append, List.length_cons, List.length_nil, za9, hs]; omega
theorem zf0 {α : Type} {P : α → Prop} {l m : List α} (h : ∀ x ∈ l, P x) (h' : ∀ x ∈ m, P x) : ∀ x ∈ l ++ m, P x := fun x hx => by
 rcases List.mem_append.1 hx with hx | hx
 ·exact h x hx
 ·exact h' x hx
theorem zin {P : Wire → Prop} {kind i : Int} {w : Nat} (h : ∀ k, k < w → P ⟨kind, i, (k : Int)⟩) : ∀ x ∈ zji kind i w, P x := fun x hx => by
 obtain ⟨k, hk, rfl⟩ := List.mem_map.1 hx
 exact h k (List.mem_range.1 hk)
theorem yb8 (h : Proc p) : ∀ i, i ≤ p.regs.length → ∀ w ∈ zpg p i, WireIn w
 | 0, _ => by intro w hw; simp [zpg] at hw
 | i + 1, hi => by
  rw [zpg]
  have := (h.rw i (by omega)).2; have := h.r3
  exact zf0 (yb8 h i (by omega)) (zin fun k hk => ⟨by simp, by simp, by simp, by simp, by simp only; omega, by simp only; omega⟩)
theorem yb9 (h : Proc p) : ∀ i, i ≤ p.takes.length → ∀ w ∈ zmg p i, WireIn w
 | 0, _ => yb8 h _ (Nat.le_refl _)
 | i + 1, hi => by
  rw [zmg]
  have := (h.tw i (by omega)).2; have := h.t2
  exact zf0 (zf0 (yb9 h i (by omega)) (zin fun k hk => ⟨by simp, by simp, by simp, by simp, by simp only; omega, by simp only; omega⟩)) (zin fun k hk => ⟨by simp, by simp, by simp, by simp, by simp only; omega, by simp only; omega⟩)
theorem yca (h : Proc p) : ∀ i, i ≤ p.puts.length → ∀ w ∈ zoa p i, WireIn w
 | 0, _ => yb9 h _ (Nat.le_refl _)
 | i + 1, hi => by
  rw [zoa]
  have := h.q2
  exact zf0 (yca h i (by omega)) (zin fun k hk => ⟨by simp, by simp, by simp, by simp, by simp only; omega, by simp only; omega⟩)
theorem jhl {P : Wire → Prop} {x : Wire} (h : P x) : ∀ w ∈ [x], P w := fun w hw => by rw [List.mem_singleton.1 hw]; exact h
theorem ycb (h : Proc p) : ∀ i, i ≤ p.regs.length → ∀ w ∈ (zdx p i).out, WireOut w
 | 0, _ => by intro w hw; simp [zdx] at hw
 | i + 1, hi => by
  have hs := (zu6 h.ok (show i < p.regs.length by omega) (zlx h.ok i (by omega))).b.wid
  rw [zdx]; simp only [hs]
  have := (h.rw i (by omega)).2; have := h.r3
  exact zf0 (ycb h i (by omega)) (zin fun k hk => ⟨by simp, by simp, by simp, by simp only; omega, by simp only; omega⟩)
theorem ycc (h : Proc p) : ∀ i, i ≤ p.takes.length → ∀ w ∈ (zdq p i).out, WireOut w
 | 0, _ => ycb h _ (Nat.le_refl _)
 | i + 1, hi => by
  rw [zdq]; simp only
  have := h.t2
  exact zf0 (ycc h i (by omega)) (jhl ⟨by simp, by simp, by simp, by simp, by simp only; omega⟩)
theorem ycd (h : Proc p) : ∀ i, i ≤ p.puts.length → ∀ w ∈ (zdl p i).out, WireOut w
 | 0, _ => ycc h _ (Nat.le_refl _)
 | i + 1, hi => by
  have hs := (zu7 h.ok (show i < p.puts.length by omega) (zly h.ok i (by omega))).hb.wid
  rw [zdl]; simp only [hs]
  have := (h.qw i (by omega)).2; have := h.q2
  exact zf0 (zf0 (ycd h i (by omega)) (jhl ⟨by simp, by simp, by simp, by simp, by simp only; omega⟩)) (zin fun k hk => ⟨by simp, by simp, by simp, by simp only; omega, by simp only; omega⟩)
theorem yce (h : Proc p) : ∀ i, i ≤ p.mems.length → ∀ w ∈ (zcm p i).out, WireOut w
 | 0, _ => ycd h _ (Nat.le_refl _)
 | i + 1, hi => by
  have hs := (zu8 h.ok (show i < p.mems.length by omega) (zj9 h.ok i (by omega)) rfl rfl rfl rfl).hw.wid
  rw [zcm]; simp only [hs]
  have := (h.mw i (by omega)).2.1; have := h.m1
  exact zf0 (zf0 (zf0 (yce h i (by omega)) (jhl ⟨by simp, by simp, by simp, by simp, by simp only; omega⟩)) (zin fun k hk => ⟨by simp, by simp, by simp, by simp only; omega, by simp only; omega⟩)) (zin fun k hk => ⟨by simp, by simp, by simp, by simp only; omega, by simp only; omega⟩)
theorem yaq (h : Proc p) : NetW (jrc p) := by
 have ho := zj9 h.ok _ (Nat.le_refl _)
 have h1 := ho.len; have h2 := h.cost; have h3 := h.ins
 have h4 := jx0 h _ (Nat.le_refl _); have h5 := h.m1
 have hc : cMP p p.mems.length = zo8 p := rfl
 refine ⟨by show (zbl p).length ≤ _; omega, by show (zcm p p.mems.length).gs.length ≤ _; omega, by show (zcm p p.mems.length).out.length ≤ _; omega, ho.ol, fun k hk => ?_, ?_, yca h _ (Nat.le_refl _), yce h _ (Nat.le_refl _)⟩
 ·have := ho.gi.rg k hk
  exact ⟨this.o1, this.o2, this.a0, this.a1, this.b0, this.b1, this.c0, this.c1, this.n0, Int.lt_of_lt_of_le this.n1 (by decide)⟩
 ·exact fun k hk => ho.dn k hk
end
/- The law of shapes. -/
end
theorem yc2 : (type_of% @jip) := @jip
theorem zvk : zaz Try.prog 9 [] (.d (oD true)) := zbq (n := 100) za8 zai (by kernel_rfl)
end Go.Proofs.Ytapjobndmmkanaa
