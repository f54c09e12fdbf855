/- Of no program: loops over the elements of a set, in whatever order they come. -/
import Derived.Test.YtapjobndmmkanaaAV
import Derived.Maps.RangeWalk
import Derived.Sort.MapsRangeIn
set_option linter.unusedVariables false
set_option linter.unusedSimpArgs false
namespace Go.Proofs.Ytapjobndmmkanaa
open Go Go.RowKit Go.Maps
open Go.WideElems (Fit rd rg rg_of)
section
variable {P : Program} {kt : TypeId}
end
section
variable {P : Program} {c c1 : Cx} {τ τ' : Fr} {a a' : Act} {w w' w1 : World} {pl pl' : List (Option (Nat × Nat))} {H H' : zag} {r : Nat} {ks : List Nat}
end
section
variable {P : Program} {c : Cx} {τ : Fr} {H : zag} {Q : Exit → Fr → zag → Prop}
end
end Go.Proofs.Ytapjobndmmkanaa
