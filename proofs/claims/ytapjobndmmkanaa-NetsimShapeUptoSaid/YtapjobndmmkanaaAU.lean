/- Of no program: calls whose result lies in one new object of the caller's own. -/
import Derived.Test.YtapjobndmmkanaaAT
set_option linter.unusedVariables false
set_option linter.unusedSimpArgs false
namespace Go.Proofs.Ytapjobndmmkanaa
open Go Go.RowKit
section
variable {P : Program} {H : zag} {N : Nat} {sm : List Nat} {τ : Fr}
end
end Go.Proofs.Ytapjobndmmkanaa
