/- The meaning of the functions: as the net is simulated. -/
import Derived.Test.YtgfnpfchdlcoeaaEa
set_option linter.unusedVariables false
set_option linter.unusedSimpArgs false
namespace Go.Proofs.Ytgfnpfchdlcoeaa
open Go Go.RowKit
theorem low_num {fs : List T} {a : Nat → Bool} {x y z : Int} : (low fs [x, y, z] a 3 : Int) = num3 ((nth fs x.toNat).eval a) ((nth fs y.toNat).eval a) ((nth fs z.toNat).eval a) := by
  show ((0 + (if (nth fs x.toNat).eval a = true then 2 ^ 0 else 0) + (if (nth fs y.toNat).eval a = true then 2 ^ 1 else 0) + (if (nth fs z.toNat).eval a = true then 2 ^ 2 else 0) : Nat) : Int) = _
  unfold num3
  cases (nth fs x.toNat).eval a <;> cases (nth fs y.toNat).eval a <;> cases (nth fs z.toNat).eval a <;> rfl
end Go.Proofs.Ytgfnpfchdlcoeaa
