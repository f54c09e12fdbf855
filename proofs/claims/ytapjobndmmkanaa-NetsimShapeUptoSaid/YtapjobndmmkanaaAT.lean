/- Of no program: sets of integers, kept in maps of the call's own. -/
import Derived.Test.YtapjobndmmkanaaAR
set_option linter.unusedVariables false
set_option linter.unusedSimpArgs false
namespace Go.Proofs.Ytapjobndmmkanaa
open Go Go.RowKit
def I64 (n : Int) : Prop := -9223372036854775808 ≤ n ∧ n < 9223372036854775808
section
variable {P : Program} {KT : TypeId → Bool} {H : zag} {ρ : Operand → AV} {N : Nat}
def je7 : Option AObj → Option (List (Value × Nat × AV))
 | some (.map es _) => some es
 | _ => none
end
end Go.Proofs.Ytapjobndmmkanaa
