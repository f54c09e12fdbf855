/- What the inputs of netlist's laws read as. -/
import Derived.Test.YtapjobndmmkanaaAS
import Derived.Test.YtapjobndmmkanaaRows
import Derived.Test.YtapjobndmmkanaaVa
import Derived.ProofKit
import Derived.LaidMore
import Derived.Carry
import Derived.WalkKit
import Derived.OpenShut
import Derived.JoinedCond
set_option linter.unusedVariables false
set_option linter.unusedSimpArgs false
namespace Go.Proofs.Ytapjobndmmkanaa
open Go Go.RowKit Go.ChangeShapes
section
variable {H : Type} {enc : TypeId × Value → H} {w : World} {sp : Nat → Bool}
theorem jwg {n : Int} (h : (Lit.int .u8 n).wf = true) : 0 ≤ n ∧ n < 256 := by
 have := bounds_u8 h; omega
theorem lop_u8 : Op enc Try.prog w sp 5 (fun n : Int => [bD n]) (fun n => 0 ≤ n ∧ n < 256) := (Op.int Try.underlying5).conv fun n h => ⟨n, jwg h, rfl⟩
theorem lop_u8n : Op enc Try.prog w sp 5 (fun n : Nat => [.val (.int .u8 n)]) (fun n => n < 256) := lop_u8.conv fun n h => ⟨n.toNat, by omega, by rw [show ((n.toNat : Nat) : Int) = n by omega]; rfl⟩
theorem jge : Op enc Try.prog w sp 22 (fun l : List Int => [bytesD l]) (fun l => l.length ≤ maxLen ∧ zg6 l) :=
 (Op.slice Try.underlying22 (wd := 1) (by kernel_rfl) (by omega) (fun _ => rfl) lop_u8).conv fun l h => ⟨l, h, by rw [zq9]; rfl⟩
theorem jwh {l : List Nat} (h : l.length = 2) : l = [nth l 0, nth l 1] := by
 match l, h with
 | [a, b], _ => rfl
theorem jwi {l : List Nat} (h : l.length = 4) : l = [nth l 0, nth l 1, nth l 2, nth l 3] := by
 match l, h with
 | [a, b, c, d], _ => rfl
theorem lop_s2 : Op enc Try.prog w sp 75 (fun p : Nat × Nat => [.val (.int .u8 p.1), .val (.int .u8 p.2)]) (fun p => p.1 < 256 ∧ p.2 < 256) :=
 (Op.arr Try.underlying75 (wd := 1) (by kernel_rfl) (by kernel_rfl) (by omega) (fun _ => rfl) lop_u8n).conv fun l h => by
  have hm : ∀ k, k < 2 → nth l k < 256 := fun k hk => h.2 _ (zb3 (by omega))
  refine ⟨(nth l 0, nth l 1), ⟨hm 0 (by omega), hm 1 (by omega)⟩, ?_⟩
  rw [zq9]
  conv => lhs; rw [jwh h.1]
  rfl
theorem lop_s4 : Op enc Try.prog w sp 96 (fun p : Nat × Nat × Nat × Nat => [.val (.int .u8 p.1), .val (.int .u8 p.2.1), .val (.int .u8 p.2.2.1), .val (.int .u8 p.2.2.2)]) (fun p => p.1 < 256 ∧ p.2.1 < 256 ∧ p.2.2.1 < 256 ∧ p.2.2.2 < 256) :=
 (Op.arr Try.underlying96 (wd := 1) (by kernel_rfl) (by kernel_rfl) (by omega) (fun _ => rfl) lop_u8n).conv fun l h => by
  have hm : ∀ k, k < 4 → nth l k < 256 := fun k hk => h.2 _ (zb3 (by omega))
  refine ⟨(nth l 0, nth l 1, nth l 2, nth l 3), ⟨hm 0 (by omega), hm 1 (by omega), hm 2 (by omega), hm 3 (by omega)⟩, ?_⟩
  rw [zq9]
  conv => lhs; rw [jwi h.1]
  rfl
theorem lop_raw12 : Op enc Try.prog w sp 24 (fun b : List Int => [bytesD b]) (fun b => b.length ≤ maxLen ∧ zg6 b) :=
 (Op.str Try.underlying24 (e := 1) (by kernel_rfl) (.cons (wd := 1) rfl (by kernel_rfl) jge .nil rfl)).conv fun p h => by
  obtain ⟨a, u⟩ := p
  exact ⟨a, h.1, rfl⟩
theorem yat : ownKnob Try.prog.godebug = none := by kernel_rfl
end
end Go.Proofs.Ytapjobndmmkanaa
