/- What the inputs of netsim's laws read as. -/
import Derived.Test.YtapjobndmmkanaaUb
import Derived.Test.YtapjobndmmkanaaOh
import Derived.ProofKit
import Derived.LaidMore
import Derived.Carry
import Derived.WalkKit
import Derived.OpenShut
import Derived.JoinedCond
set_option linter.unusedVariables false
set_option linter.unusedSimpArgs false
namespace Go.Proofs.Ytapjobndmmkanaa
open Go Go.RowKit Go.ChangeShapes
section
variable {H : Type} {enc : TypeId × Value → H} {w : World} {sp : Nat → Bool}
theorem jvd {n : Int} (h : (Lit.int .u8 n).wf = true) : 0 ≤ n ∧ n < 256 := by
 have := bounds_u8 h; omega
theorem zz9 : Op enc Try.prog w sp 5 (fun n : Int => [bD n]) (fun n => 0 ≤ n ∧ n < 256) := (Op.int Try.underlying5).conv fun n h => ⟨n, jvd h, rfl⟩
theorem zwj : Op enc Try.prog w sp 3 (fun n : Int => [iD n]) (fun _ => True) := (Op.int Try.underlying3).conv fun n _ => ⟨n, trivial, rfl⟩
theorem jaa : Op enc Try.prog w sp 4 (fun b : Bool => [oD b]) (fun _ => True) := (Op.bool Try.underlying4).conv fun b _ => ⟨b, trivial, rfl⟩
theorem zu2 : Op enc Try.prog w sp 22 (fun l : List Int => [bytesD l]) (fun l => l.length ≤ maxLen ∧ zfx l) :=
 (Op.slice Try.underlying22 (wd := 1) (by kernel_rfl) (by omega) (fun _ => rfl) zz9).conv fun l h => ⟨l, h, by rw [zf9]; rfl⟩
theorem jve {l : List Int} (h : l.length = 5) : l = [nth l 0, nth l 1, nth l 2, nth l 3, nth l 4] := by
 match l, h with
 | [a, b, c, d, e], _ => rfl
theorem jvf {l : List Int} (h : l.length = 4) : l = [nth l 0, nth l 1, nth l 2, nth l 3] := by
 match l, h with
 | [a, b, c, d], _ => rfl
theorem jvg {l : List Int} (h : l.length = 2) : l = [nth l 0, nth l 1] := by
 match l, h with
 | [a, b], _ => rfl
theorem jvh : Op enc Try.prog w sp 118 r5C (fun g => B1 g.a ∧ B1 g.b ∧ B1 g.c ∧ B1 g.d ∧ B1 g.e) :=
 (Op.arr Try.underlying118 (wd := 1) (by kernel_rfl) (by kernel_rfl) (by omega) (fun _ => rfl) zz9).conv fun l h => by
  have hm : ∀ k, k < 5 → B1 (nth l k) := fun k hk => h.2 _ (zb0 (by omega))
  refine ⟨⟨nth l 0, nth l 1, nth l 2, nth l 3, nth l 4⟩, ⟨hm 0 (by omega), hm 1 (by omega), hm 2 (by omega), hm 3 (by omega), hm 4 (by omega)⟩, ?_⟩
  rw [zf9]
  conv => lhs; rw [jve h.1]
  rfl
theorem jvi : Op enc Try.prog w sp 96 r4C (fun g => B1 g.a ∧ B1 g.b ∧ B1 g.c ∧ B1 g.d) :=
 (Op.arr Try.underlying96 (wd := 1) (by kernel_rfl) (by kernel_rfl) (by omega) (fun _ => rfl) zz9).conv fun l h => by
  have hm : ∀ k, k < 4 → B1 (nth l k) := fun k hk => h.2 _ (zb0 (by omega))
  refine ⟨⟨nth l 0, nth l 1, nth l 2, nth l 3⟩, ⟨hm 0 (by omega), hm 1 (by omega), hm 2 (by omega), hm 3 (by omega)⟩, ?_⟩
  rw [zf9]
  conv => lhs; rw [jvf h.1]
  rfl
theorem rop_raw : Op enc Try.prog w sp 28 zkc RawOk :=
 (Op.str Try.underlying28 (e := 3) (by kernel_rfl) (.cons (wd := 1) rfl (by kernel_rfl) zu2
  (.cons (wd := 1) rfl (by kernel_rfl) (Op.slice Try.underlying25 (wd := 5) (by kernel_rfl) (by omega) jzg jvh)
  (.cons (wd := 1) rfl (by kernel_rfl) (Op.slice Try.underlying26 (wd := 4) (by kernel_rfl) (by omega) jzh jvi) .nil rfl) rfl) rfl)).conv fun p h => by
  obtain ⟨a, b, c, u⟩ := p
  obtain ⟨⟨_, h1⟩, ⟨_, h2⟩, ⟨_, h3⟩, _⟩ := h
  exact ⟨⟨a, b, c⟩, ⟨fun k hk => h1 _ (zb0 hk), fun k hk => h2 _ (zb0 hk), fun k hk => h3 _ (zb0 hk)⟩, rfl⟩
theorem rop_raw12 : Op enc Try.prog w sp 24 (fun b : List Int => [bytesD b]) (fun b => b.length ≤ maxLen ∧ zfx b) :=
 (Op.str Try.underlying24 (e := 1) (by kernel_rfl) (.cons (wd := 1) rfl (by kernel_rfl) zu2 .nil rfl)).conv fun p h => by
  obtain ⟨a, u⟩ := p
  exact ⟨a, h.1, rfl⟩
theorem jjp : Op enc Try.prog w sp 73 zcv (fun _ => True) := by
 refine (Op.str Try.underlying73 (e := 2) (by kernel_rfl) (.cons (wd := 1) rfl (by kernel_rfl) jaa (.cons (wd := 1) rfl (by kernel_rfl) zwj .nil rfl) rfl)).conv ?_
 exact fun p _ => ⟨⟨p.1, p.2.1⟩, trivial, rfl⟩
theorem jvj {n : Int} (h : (Lit.int .i8 n).wf = true) : -128 ≤ n ∧ n < 128 := by
 simp [Lit.wf] at h; have e1 : IntKind.i8.min = -128 := by decide
 have e2 : IntKind.i8.max = 127 := by decide
 omega
theorem jvk : Op enc Try.prog w sp 38 (fun p : Int × Int => [eD p.1, eD p.2]) (fun p => (-128 ≤ p.1 ∧ p.1 < 128) ∧ -128 ≤ p.2 ∧ p.2 < 128) :=
 (Op.arr Try.underlying38 (wd := 1) (by kernel_rfl) (by kernel_rfl) (by omega) (fun _ => rfl) ((Op.int Try.underlying37).conv (f' := fun n : Int => [eD n]) (Ok' := fun n => -128 ≤ n ∧ n < 128) fun n h => ⟨n, jvj h, rfl⟩)).conv fun l h => by
  refine ⟨(nth l 0, nth l 1), ⟨h.2 _ (zb0 (by omega)), h.2 _ (zb0 (by omega))⟩, ?_⟩
  rw [zf9]
  conv => lhs; rw [jvg h.1]
  rfl
theorem zn9 {α : Type} (l : List α) : (l.map fun _ => 1).sum = l.length := by induction l with | nil => rfl | cons a l ih => simp [ih]; omega
theorem jab : OpK enc Try.prog w sp 29 (fun l : List Int => [intsD l]) (fun _ => True) (fun l => l.length + 1) :=
 (OpK.slice Try.underlying29 (wd := 1) (by kernel_rfl) (by omega) (fun _ => rfl) (OpK.of zwj)).conv fun l h => ⟨l, trivial, by rw [zf9]; rfl, by rw [zn9]; exact Nat.le_refl _⟩
theorem jfu : OpK enc Try.prog w sp 34 (fun l : List Bool => [boolsD l]) (fun _ => True) (fun l => l.length + 1) :=
 (OpK.slice Try.underlying34 (wd := 1) (by kernel_rfl) (by omega) (fun _ => rfl) (OpK.of jaa)).conv fun l h => ⟨l, trivial, by rw [zf9]; rfl, by rw [zn9]; exact Nat.le_refl _⟩
theorem jfv : OpK enc Try.prog w sp 22 (fun l : List Int => [bytesD l]) zfx (fun l => l.length + 1) :=
 (OpK.slice Try.underlying22 (wd := 1) (by kernel_rfl) (by omega) (fun _ => rfl) (OpK.of zz9)).conv fun l h => ⟨l, h.2, by rw [zf9]; rfl, by rw [zn9]; exact Nat.le_refl _⟩
theorem jfw : OpK enc Try.prog w sp 33 (fun l : List Head => [za7 l]) (fun _ => True) (fun l => l.length + 1) :=
 (OpK.slice Try.underlying33 (wd := 2) (by kernel_rfl) (by omega) zrc (OpK.of jjp)).conv fun l h => ⟨l, trivial, rfl, by rw [zn9]; exact Nat.le_refl _⟩
theorem jfx : OpK enc Try.prog w sp 30 (fun l : List (List Int) => [intssD l]) (fun _ => True) (fun l => (l.map fun r => r.length + 1).sum) :=
 (OpK.slice Try.underlying30 (wd := 1) (by kernel_rfl) (by omega) (fun _ => rfl) jab).conv fun l h => ⟨l, trivial, by rw [zf9]; rfl, by simp⟩
theorem jo8 : OpK enc Try.prog w sp 32 zcg (fun _ => True) (fun s => s.regs.length + (s.mems.map fun r => r.length + 1).sum) :=
 (OpK.str Try.underlying32 (e := 2) (by kernel_rfl) (.cons (wd := 1) rfl (by kernel_rfl) jab (.cons (wd := 1) rfl (by kernel_rfl) jfx .nil rfl) rfl)).conv fun p _ => ⟨⟨p.1, p.2.1⟩, trivial, rfl, by simp only; omega⟩
theorem jvl : OpK enc Try.prog w sp 36 (fun p : List Head × List Bool => [za7 p.1, boolsD p.2]) (fun _ => True) (fun p => p.1.length + p.2.length) :=
 (OpK.str Try.underlying36 (e := 2) (by kernel_rfl) (.cons (wd := 1) rfl (by kernel_rfl) jfw (.cons (wd := 1) rfl (by kernel_rfl) jfu .nil rfl) rfl)).conv fun p _ => ⟨(p.1, p.2.1), trivial, rfl, by simp only; omega⟩
theorem jac (z : Odd) : ∀ k, k ≤ z.s.mems.length → zn8 z k = zn8 z 0 + ((z.s.mems.take k).map List.length).sum
 | 0, _ => by simp
 | k + 1, h => by
  show zn8 z k + (nth z.s.mems k).length = _
  rw [jac z k (by omega), zeu (by omega)]; simp; omega
theorem jjq (l : List (List Int)) : (l.map fun r => r.length + 1).sum = (l.map List.length).sum + l.length := by induction l with | nil => rfl | cons a l ih => simp [ih]; omega
structure OddOk (z : Odd) : Prop where
 v : zfx z.v
 a : -128 ≤ z.e0 ∧ z.e0 < 128
 b : -128 ≤ z.e1 ∧ z.e1 < 128
theorem kop_odd : OpK enc Try.prog w sp 40 zp2 OddOk (fun z => zn8 z z.s.mems.length) :=
 (OpK.str Try.underlying40 (e := 8) (by kernel_rfl) (.cons (wd := 2) rfl (by kernel_rfl) jo8 (.cons (wd := 2) rfl (by kernel_rfl) jvl (.cons (wd := 1) rfl (by kernel_rfl) jfv (.cons (wd := 1) rfl (by kernel_rfl) (OpK.of zwj) (.cons (wd := 2) rfl (by kernel_rfl) (OpK.of jvk) .nil rfl) rfl) rfl) rfl) rfl)).conv fun p h => by
  obtain ⟨s, ⟨hd, rm⟩, v, k, ⟨e0, e1⟩, u⟩ := p
  refine ⟨⟨s, hd, rm, v, k, e0, e1⟩, ⟨h.2.2.1, h.2.2.2.2.1.1, h.2.2.2.2.1.2⟩, rfl, ?_⟩
  rw [jac _ _ (Nat.le_refl _), zn8, List.take_length]
  have := jjq s.mems
  simp only
  omega
end
theorem own : ownKnob Try.prog.godebug = none := by kernel_rfl
end Go.Proofs.Ytapjobndmmkanaa
