/- What the inputs of netsim's laws read as. -/
import Derived.Test.YtapjobndmmkanaaUb
import Derived.Test.YtapjobndmmkanaaOh
import Derived.ProofKit
import Derived.LaidMore
import Derived.Carry
import Derived.WalkKit
import Derived.OpenShut
import Derived.JoinedCond
set_option linter.unusedVariables false
set_option linter.unusedSimpArgs false
namespace Go.Proofs.Ytapjobndmmkanaa
open Go Go.RowKit Go.ChangeShapes
section
variable {H : Type} {enc : TypeId × Value → H} {w : World} {sp : Nat → Bool}
theorem jeb {n : Int} (h : (Lit.int .u8 n).wf = true) : 0 ≤ n ∧ n < 256 := by
 have := bounds_u8 h; omega
theorem zpq : Op enc Try.prog w sp 5 (fun n : Int => [bD n]) (fun n => 0 ≤ n ∧ n < 256) := (Op.int Try.underlying5).conv fun n h => ⟨n, jeb h, rfl⟩
theorem zm0 : Op enc Try.prog w sp 3 (fun n : Int => [iD n]) (fun _ => True) := (Op.int Try.underlying3).conv fun n _ => ⟨n, trivial, rfl⟩
theorem zpr : Op enc Try.prog w sp 4 (fun b : Bool => [oD b]) (fun _ => True) := (Op.bool Try.underlying4).conv fun b _ => ⟨b, trivial, rfl⟩
theorem zun : Op enc Try.prog w sp 22 (fun l : List Int => [bytesD l]) (fun l => l.length ≤ maxLen ∧ jab l) :=
 (Op.slice Try.underlying22 (wd := 1) (by kernel_rfl) (by omega) (fun _ => rfl) zpq).conv fun l h => ⟨l, h, by rw [zc9]; rfl⟩
theorem jec {l : List Int} (h : l.length = 5) : l = [nth l 0, nth l 1, nth l 2, nth l 3, nth l 4] := by
 match l, h with
 | [a, b, c, d, e], _ => rfl
theorem jed {l : List Int} (h : l.length = 4) : l = [nth l 0, nth l 1, nth l 2, nth l 3] := by
 match l, h with
 | [a, b, c, d], _ => rfl
theorem jee {l : List Int} (h : l.length = 2) : l = [nth l 0, nth l 1] := by
 match l, h with
 | [a, b], _ => rfl
theorem jef : Op enc Try.prog w sp 118 r5C (fun g => B1 g.a ∧ B1 g.b ∧ B1 g.c ∧ B1 g.d ∧ B1 g.e) :=
 (Op.arr Try.underlying118 (wd := 1) (by kernel_rfl) (by kernel_rfl) (by omega) (fun _ => rfl) zpq).conv fun l h => by
  have hm : ∀ k, k < 5 → B1 (nth l k) := fun k hk => h.2 _ (zdc (by omega))
  refine ⟨⟨nth l 0, nth l 1, nth l 2, nth l 3, nth l 4⟩, ⟨hm 0 (by omega), hm 1 (by omega), hm 2 (by omega), hm 3 (by omega), hm 4 (by omega)⟩, ?_⟩
  rw [zc9]
  conv => lhs; rw [jec h.1]
  rfl
theorem jeg : Op enc Try.prog w sp 96 r4C (fun g => B1 g.a ∧ B1 g.b ∧ B1 g.c ∧ B1 g.d) :=
 (Op.arr Try.underlying96 (wd := 1) (by kernel_rfl) (by kernel_rfl) (by omega) (fun _ => rfl) zpq).conv fun l h => by
  have hm : ∀ k, k < 4 → B1 (nth l k) := fun k hk => h.2 _ (zdc (by omega))
  refine ⟨⟨nth l 0, nth l 1, nth l 2, nth l 3⟩, ⟨hm 0 (by omega), hm 1 (by omega), hm 2 (by omega), hm 3 (by omega)⟩, ?_⟩
  rw [zc9]
  conv => lhs; rw [jed h.1]
  rfl
theorem rop_raw : Op enc Try.prog w sp 28 zbb RawOk :=
 (Op.str Try.underlying28 (e := 3) (by kernel_rfl) (.cons (wd := 1) rfl (by kernel_rfl) zun
  (.cons (wd := 1) rfl (by kernel_rfl) (Op.slice Try.underlying25 (wd := 5) (by kernel_rfl) (by omega) jfe jef)
  (.cons (wd := 1) rfl (by kernel_rfl) (Op.slice Try.underlying26 (wd := 4) (by kernel_rfl) (by omega) jff jeg) .nil rfl) rfl) rfl)).conv fun p h => by
  obtain ⟨a, b, c, u⟩ := p
  obtain ⟨⟨_, h1⟩, ⟨_, h2⟩, ⟨_, h3⟩, _⟩ := h
  exact ⟨⟨a, b, c⟩, ⟨fun k hk => h1 _ (zdc hk), fun k hk => h2 _ (zdc hk), fun k hk => h3 _ (zdc hk)⟩, rfl⟩
theorem zwp : Op enc Try.prog w sp 73 za2 (fun _ => True) := by
 refine (Op.str Try.underlying73 (e := 2) (by kernel_rfl) (.cons (wd := 1) rfl (by kernel_rfl) zpr (.cons (wd := 1) rfl (by kernel_rfl) zm0 .nil rfl) rfl)).conv ?_
 exact fun p _ => ⟨⟨p.1, p.2.1⟩, trivial, rfl⟩
theorem jeh : Op enc Try.prog w sp 38 (fun p : Int × Int => [eD p.1, eD p.2]) (fun _ => True) :=
 (Op.arr Try.underlying38 (wd := 1) (by kernel_rfl) (by kernel_rfl) (by omega) (fun _ => rfl) ((Op.int Try.underlying37).conv (f' := fun n : Int => [eD n]) (Ok' := fun _ => True) fun n _ => ⟨n, trivial, rfl⟩)).conv fun l h => by
  refine ⟨(nth l 0, nth l 1), trivial, ?_⟩
  rw [zc9]
  conv => lhs; rw [jee h.1]
  rfl
theorem zgq {α : Type} (l : List α) : (l.map fun _ => 1).sum = l.length := by induction l with | nil => rfl | cons a l ih => simp [ih]; omega
theorem zps : OpK enc Try.prog w sp 29 (fun l : List Int => [intsD l]) (fun _ => True) (fun l => l.length + 1) :=
 (OpK.slice Try.underlying29 (wd := 1) (by kernel_rfl) (by omega) (fun _ => rfl) (OpK.of zm0)).conv fun l h => ⟨l, trivial, by rw [zc9]; rfl, by rw [zgq]; exact Nat.le_refl _⟩
theorem zuo : OpK enc Try.prog w sp 34 (fun l : List Bool => [boolsD l]) (fun _ => True) (fun l => l.length + 1) :=
 (OpK.slice Try.underlying34 (wd := 1) (by kernel_rfl) (by omega) (fun _ => rfl) (OpK.of zpr)).conv fun l h => ⟨l, trivial, by rw [zc9]; rfl, by rw [zgq]; exact Nat.le_refl _⟩
theorem zup : OpK enc Try.prog w sp 22 (fun l : List Int => [bytesD l]) jab (fun l => l.length + 1) :=
 (OpK.slice Try.underlying22 (wd := 1) (by kernel_rfl) (by omega) (fun _ => rfl) (OpK.of zpq)).conv fun l h => ⟨l, h.2, by rw [zc9]; rfl, by rw [zgq]; exact Nat.le_refl _⟩
theorem zuq : OpK enc Try.prog w sp 33 (fun l : List Head => [zai l]) (fun _ => True) (fun l => l.length + 1) :=
 (OpK.slice Try.underlying33 (wd := 2) (by kernel_rfl) (by omega) zpk (OpK.of zwp)).conv fun l h => ⟨l, trivial, rfl, by rw [zgq]; exact Nat.le_refl _⟩
theorem zur : OpK enc Try.prog w sp 30 (fun l : List (List Int) => [intssD l]) (fun _ => True) (fun l => (l.map fun r => r.length + 1).sum) :=
 (OpK.slice Try.underlying30 (wd := 1) (by kernel_rfl) (by omega) (fun _ => rfl) zps).conv fun l h => ⟨l, trivial, by rw [zc9]; rfl, by simp⟩
theorem jap : OpK enc Try.prog w sp 32 za6 (fun _ => True) (fun s => s.regs.length + (s.mems.map fun r => r.length + 1).sum) :=
 (OpK.str Try.underlying32 (e := 2) (by kernel_rfl) (.cons (wd := 1) rfl (by kernel_rfl) zps (.cons (wd := 1) rfl (by kernel_rfl) zur .nil rfl) rfl)).conv fun p _ => ⟨⟨p.1, p.2.1⟩, trivial, rfl, by simp only; omega⟩
theorem jei : OpK enc Try.prog w sp 36 (fun p : List Head × List Bool => [zai p.1, boolsD p.2]) (fun _ => True) (fun p => p.1.length + p.2.length) :=
 (OpK.str Try.underlying36 (e := 2) (by kernel_rfl) (.cons (wd := 1) rfl (by kernel_rfl) zuq (.cons (wd := 1) rfl (by kernel_rfl) zuo .nil rfl) rfl)).conv fun p _ => ⟨(p.1, p.2.1), trivial, rfl, by simp only; omega⟩
theorem zpt (z : Odd) : ∀ k, k ≤ z.s.mems.length → zgp z k = zgp z 0 + ((z.s.mems.take k).map List.length).sum
 | 0, _ => by simp
 | k + 1, h => by
  show zgp z k + (nth z.s.mems k).length = _
  rw [zpt z k (by omega), zgj (by omega)]; simp; omega
theorem zwq (l : List (List Int)) : (l.map fun r => r.length + 1).sum = (l.map List.length).sum + l.length := by induction l with | nil => rfl | cons a l ih => simp [ih]; omega
structure OddOk (z : Odd) : Prop where
 v : jab z.v
theorem kop_odd : OpK enc Try.prog w sp 40 zbw OddOk (fun z => zgp z z.s.mems.length) :=
 (OpK.str Try.underlying40 (e := 8) (by kernel_rfl) (.cons (wd := 2) rfl (by kernel_rfl) jap (.cons (wd := 2) rfl (by kernel_rfl) jei (.cons (wd := 1) rfl (by kernel_rfl) zup (.cons (wd := 1) rfl (by kernel_rfl) (OpK.of zm0) (.cons (wd := 2) rfl (by kernel_rfl) (OpK.of jeh) .nil rfl) rfl) rfl) rfl) rfl)).conv fun p h => by
  obtain ⟨s, ⟨hd, rm⟩, v, k, ⟨e0, e1⟩, u⟩ := p
  refine ⟨⟨s, hd, rm, v, k, e0, e1⟩, ⟨h.2.2.1⟩, rfl, ?_⟩
  rw [zpt _ _ (Nat.le_refl _), zgp, List.take_length]
  have := zwq s.mems
  simp only
  omega
end
theorem own : ownKnob Try.prog.godebug = none := by kernel_rfl
end Go.Proofs.Ytapjobndmmkanaa
