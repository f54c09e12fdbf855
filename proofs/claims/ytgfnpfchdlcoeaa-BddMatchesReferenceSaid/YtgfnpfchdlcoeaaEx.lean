/- What the rows' inputs read as. -/
import Derived.Test.YtgfnpfchdlcoeaaEd
import Derived.Test.YtgfnpfchdlcoeaaAS
import Derived.Test.YtgfnpfchdlcoeaaRows
import Derived.ProofKit
import Derived.LaidMore
import Derived.Carry
set_option linter.unusedVariables false
set_option linter.unusedSimpArgs false
namespace Go.Proofs.Ytgfnpfchdlcoeaa
open Go Go.RowKit Go.ChangeShapes
section
variable {H : Type} {enc : TypeId × Value → H} {w : World} {sp : Nat → Bool}
theorem jsm {n : Int} (h : (Lit.int .u8 n).wf = true) : 0 ≤ n ∧ n < 256 := by
 have := bounds_u8 h; omega
theorem jpt {n : Int} (h : (Lit.int .i64 n).wf = true) : I64 n := by
 simp [Lit.wf] at h
 obtain ⟨h1, h2⟩ := h
 exact ⟨h1, by omega⟩
theorem op_u8 : Op enc Try.prog w sp 5 (fun n : Int => [bD n]) (fun n => 0 ≤ n ∧ n < 256) := (Op.int Try.underlying5).conv fun n h => ⟨n, jsm h, rfl⟩
theorem jpu : Op enc Try.prog w sp 5 (fun n : Nat => [u8D n]) (fun n => n < 256) := op_u8.conv fun n h => ⟨n.toNat, by omega, by unfold u8D; rw [show ((n.toNat : Nat) : Int) = n by omega]⟩
theorem zqg : Op enc Try.prog w sp 3 (fun n : Int => [iD n]) I64 := (Op.int Try.underlying3).conv fun n h => ⟨n, jpt h, rfl⟩
theorem jl8 : Op enc Try.prog w sp 4 (fun b : Bool => [oD b]) (fun _ => True) := (Op.bool Try.underlying4).conv fun b _ => ⟨b, trivial, rfl⟩
theorem jii : Op enc Try.prog w sp 22 (fun l : List Int => [zbm l]) (fun l => l.length ≤ maxLen ∧ ∀ b ∈ l, B1 b) :=
 (Op.slice Try.underlying22 (wd := 1) (by kernel_rfl) (by omega) (fun _ => rfl) op_u8).conv fun l h => ⟨l, h, by rw [zit]; rfl⟩
theorem jij : Op enc Try.prog w sp 33 (fun l : List Bool => [zas l]) (fun l => l.length ≤ maxLen) :=
 (Op.slice Try.underlying33 (wd := 1) (by kernel_rfl) (by omega) (fun _ => rfl) jl8).conv fun l h => ⟨l, h.1, by rw [zit]; rfl⟩
theorem jsn {l : List Int} (h : l.length = 5) : l = [nth l 0, nth l 1, nth l 2, nth l 3, nth l 4] := by
 match l, h with
 | [a, b, c, d, e], _ => rfl
theorem jso {l : List Int} (h : l.length = 4) : l = [nth l 0, nth l 1, nth l 2, nth l 3] := by
 match l, h with
 | [a, b, c, d], _ => rfl
theorem jsp {l : List Nat} (h : l.length = 3) : l = [nth l 0, nth l 1, nth l 2] := by
 match l, h with
 | [a, b, c], _ => rfl
theorem jsq : Op enc Try.prog w sp 87 r5C (fun g => B1 g.a ∧ B1 g.b ∧ B1 g.c ∧ B1 g.d ∧ B1 g.e) :=
 (Op.arr Try.underlying87 (wd := 1) (by kernel_rfl) (by kernel_rfl) (by omega) (fun _ => rfl) op_u8).conv fun l h => by
  have hm : ∀ k, k < 5 → B1 (nth l k) := fun k hk => h.2 _ (zcf (by omega))
  refine ⟨⟨nth l 0, nth l 1, nth l 2, nth l 3, nth l 4⟩, ⟨hm 0 (by omega), hm 1 (by omega), hm 2 (by omega), hm 3 (by omega), hm 4 (by omega)⟩, ?_⟩
  rw [zit]
  conv => lhs; rw [jsn h.1]
  rfl
theorem jsr : Op enc Try.prog w sp 88 r4C (fun g => B1 g.a ∧ B1 g.b ∧ B1 g.c ∧ B1 g.d) :=
 (Op.arr Try.underlying88 (wd := 1) (by kernel_rfl) (by kernel_rfl) (by omega) (fun _ => rfl) op_u8).conv fun l h => by
  have hm : ∀ k, k < 4 → B1 (nth l k) := fun k hk => h.2 _ (zcf (by omega))
  refine ⟨⟨nth l 0, nth l 1, nth l 2, nth l 3⟩, ⟨hm 0 (by omega), hm 1 (by omega), hm 2 (by omega), hm 3 (by omega)⟩, ?_⟩
  rw [zit]
  conv => lhs; rw [jso h.1]
  rfl
theorem op_s3 : Op enc Try.prog w sp 27 (fun p : Nat × Nat × Nat => [u8D p.1, u8D p.2.1, u8D p.2.2]) (fun p => p.1 < 256 ∧ p.2.1 < 256 ∧ p.2.2 < 256) :=
 (Op.arr Try.underlying27 (wd := 1) (by kernel_rfl) (by kernel_rfl) (by omega) (fun _ => rfl) jpu).conv fun l h => by
  have hm : ∀ k, k < 3 → nth l k < 256 := fun k hk => h.2 _ (zcf (by omega))
  refine ⟨(nth l 0, nth l 1, nth l 2), ⟨hm 0 (by omega), hm 1 (by omega), hm 2 (by omega)⟩, ?_⟩
  rw [zit]
  conv => lhs; rw [jsp h.1]
  rfl
theorem op_raw : Op enc Try.prog w sp 26 ziq RawOk :=
 (Op.str Try.underlying26 (e := 3) (by kernel_rfl) (.cons (wd := 1) rfl (by kernel_rfl) jii
  (.cons (wd := 1) rfl (by kernel_rfl) (Op.slice Try.underlying23 (wd := 5) (by kernel_rfl) (by omega) jsk jsq)
  (.cons (wd := 1) rfl (by kernel_rfl) (Op.slice Try.underlying24 (wd := 4) (by kernel_rfl) (by omega) jsl jsr) .nil rfl) rfl) rfl)).conv fun p h => by
  obtain ⟨a, b, c, u⟩ := p
  obtain ⟨⟨_, h1⟩, ⟨_, h2⟩, ⟨_, h3⟩, _⟩ := h
  exact ⟨⟨a, b, c⟩, ⟨fun k hk => h1 _ (zcf hk), fun k hk => h2 _ (zcf hk), fun k hk => h3 _ (zcf hk)⟩, rfl⟩
end
theorem own : ownKnob Try.prog.godebug = none := by kernel_rfl
end Go.Proofs.Ytgfnpfchdlcoeaa
