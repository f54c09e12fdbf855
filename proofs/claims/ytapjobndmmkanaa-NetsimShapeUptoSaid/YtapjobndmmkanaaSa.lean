/- The library's sort, of a row of the caller's own. -/
import Derived.Test.YtapjobndmmkanaaAZ
import Derived.Test.YtapjobndmmkanaaSx
import Derived.Test.YtapjobndmmkanaaTy
import Derived.Sort.OwnSortedInts
set_option linter.unusedVariables false
set_option linter.unusedSimpArgs false
namespace Go.Proofs.Ytapjobndmmkanaa
open Go Go.RowKit Go.Sort
section
variable {c : Cx} {τ : Fr} {a : Act} {w w' : World} {pl : List (Option (Nat × Nat))} {H : zag}
end
end Go.Proofs.Ytapjobndmmkanaa
