/- What the rows' inputs read as. -/
import Derived.Test.YtignimmnnccblaaEd
import Derived.Test.YtignimmnnccblaaAS
import Derived.Test.YtignimmnnccblaaRows
import Derived.ProofKit
import Derived.LaidMore
import Derived.Carry
set_option linter.unusedVariables false
set_option linter.unusedSimpArgs false
namespace Go.Proofs.Ytignimmnnccblaa
open Go Go.RowKit Go.ChangeShapes
section
variable {H : Type} {enc : TypeId × Value → H} {w : World} {sp : Nat → Bool}
theorem jtb {n : Int} (h : (Lit.int .u8 n).wf = true) : 0 ≤ n ∧ n < 256 := by
 have := bounds_u8 h; omega
theorem op_u8 : Op enc Try.prog w sp 5 (fun n : Int => [bD n]) (fun n => 0 ≤ n ∧ n < 256) := (Op.int Try.underlying5).conv fun n h => ⟨n, jtb h, rfl⟩
theorem jro : Op enc Try.prog w sp 5 (fun n : Nat => [u8D n]) (fun n => n < 256) := op_u8.conv fun n h => ⟨n.toNat, by omega, by unfold u8D; rw [show ((n.toNat : Nat) : Int) = n by omega]⟩
theorem jlp : Op enc Try.prog w sp 4 (fun b : Bool => [oD b]) (fun _ => True) := (Op.bool Try.underlying4).conv fun b _ => ⟨b, trivial, rfl⟩
theorem jgz : Op enc Try.prog w sp 22 (fun l : List Int => [bytesD l]) (fun l => l.length ≤ maxLen ∧ ∀ b ∈ l, B1 b) :=
 (Op.slice Try.underlying22 (wd := 1) (by kernel_rfl) (by omega) (fun _ => rfl) op_u8).conv fun l h => ⟨l, h, by rw [zk2]; rfl⟩
theorem op_bools : Op enc Try.prog w sp 39 (fun l : List Bool => [boolsD l]) (fun l => l.length ≤ maxLen) :=
 (Op.slice Try.underlying39 (wd := 1) (by kernel_rfl) (by omega) (fun _ => rfl) jlp).conv fun l h => ⟨l, h.1, by rw [zk2]; rfl⟩
theorem jtc {l : List Int} (h : l.length = 5) : l = [nth l 0, nth l 1, nth l 2, nth l 3, nth l 4] := by
 match l, h with
 | [a, b, c, d, e], _ => rfl
theorem jtd {l : List Int} (h : l.length = 4) : l = [nth l 0, nth l 1, nth l 2, nth l 3] := by
 match l, h with
 | [a, b, c, d], _ => rfl
theorem jte : Op enc Try.prog w sp 99 r5C (fun g => B1 g.a ∧ B1 g.b ∧ B1 g.c ∧ B1 g.d ∧ B1 g.e) :=
 (Op.arr Try.underlying99 (wd := 1) (by kernel_rfl) (by kernel_rfl) (by omega) (fun _ => rfl) op_u8).conv fun l h => by
  have hm : ∀ k, k < 5 → B1 (nth l k) := fun k hk => h.2 _ (zb3 (by omega))
  refine ⟨⟨nth l 0, nth l 1, nth l 2, nth l 3, nth l 4⟩, ⟨hm 0 (by omega), hm 1 (by omega), hm 2 (by omega), hm 3 (by omega), hm 4 (by omega)⟩, ?_⟩
  rw [zk2]
  conv => lhs; rw [jtc h.1]
  rfl
theorem jtf : Op enc Try.prog w sp 27 r4C (fun g => B1 g.a ∧ B1 g.b ∧ B1 g.c ∧ B1 g.d) :=
 (Op.arr Try.underlying27 (wd := 1) (by kernel_rfl) (by kernel_rfl) (by omega) (fun _ => rfl) op_u8).conv fun l h => by
  have hm : ∀ k, k < 4 → B1 (nth l k) := fun k hk => h.2 _ (zb3 (by omega))
  refine ⟨⟨nth l 0, nth l 1, nth l 2, nth l 3⟩, ⟨hm 0 (by omega), hm 1 (by omega), hm 2 (by omega), hm 3 (by omega)⟩, ?_⟩
  rw [zk2]
  conv => lhs; rw [jtd h.1]
  rfl
theorem jrp {l : List Nat} (h : l.length = 4) : l = [nth l 0, nth l 1, nth l 2, nth l 3] := by
 match l, h with
 | [a, b, c, d], _ => rfl
theorem op_s4 : Op enc Try.prog w sp 27 (fun p : Nat × Nat × Nat × Nat => [u8D p.1, u8D p.2.1, u8D p.2.2.1, u8D p.2.2.2]) (fun p => p.1 < 256 ∧ p.2.1 < 256 ∧ p.2.2.1 < 256 ∧ p.2.2.2 < 256) :=
 (Op.arr Try.underlying27 (wd := 1) (by kernel_rfl) (by kernel_rfl) (by omega) (fun _ => rfl) jro).conv fun l h => by
  have hm : ∀ k, k < 4 → nth l k < 256 := fun k hk => h.2 _ (zb3 (by omega))
  refine ⟨(nth l 0, nth l 1, nth l 2, nth l 3), ⟨hm 0 (by omega), hm 1 (by omega), hm 2 (by omega), hm 3 (by omega)⟩, ?_⟩
  rw [zk2]
  conv => lhs; rw [jrp h.1]
  rfl
structure RawL (x : RawN) : Prop where
 ok : RawOk x
 ins : x.ins.length ≤ maxLen
 gates : x.gates.length ≤ maxLen
 out : x.out.length ≤ maxLen
theorem op_rawL : Op enc Try.prog w sp 26 zch RawL :=
 (Op.str Try.underlying26 (e := 3) (by kernel_rfl) (.cons (wd := 1) rfl (by kernel_rfl) jgz
  (.cons (wd := 1) rfl (by kernel_rfl) (Op.slice Try.underlying23 (wd := 5) (by kernel_rfl) (by omega) jrh jte)
  (.cons (wd := 1) rfl (by kernel_rfl) (Op.slice Try.underlying24 (wd := 4) (by kernel_rfl) (by omega) jri jtf) .nil rfl) rfl) rfl)).conv fun p h => by
  obtain ⟨a, b, c, u⟩ := p
  obtain ⟨⟨g1, h1⟩, ⟨g2, h2⟩, ⟨g3, h3⟩, _⟩ := h
  exact ⟨⟨a, b, c⟩, ⟨⟨fun k hk => h1 _ (zb3 hk), fun k hk => h2 _ (zb3 hk), fun k hk => h3 _ (zb3 hk)⟩, g1, g2, g3⟩, rfl⟩
end
theorem own : ownKnob Try.prog.godebug = none := by kernel_rfl
end Go.Proofs.Ytignimmnnccblaa
