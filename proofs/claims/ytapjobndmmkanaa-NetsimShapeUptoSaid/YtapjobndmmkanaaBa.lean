/- Of no program: reduced ordered trees; two that have the same values are equal. -/
import Derived.Test.YtapjobndmmkanaaAV
set_option linter.unusedVariables false
set_option linter.unusedSimpArgs false
namespace Go.Proofs.Ytapjobndmmkanaa
inductive T where
 | leaf (b : Bool)
 | node (v : Nat) (lo hi : T)
 deriving DecidableEq, Inhabited
def upd (a : Nat → Bool) (v : Nat) (b : Bool) : Nat → Bool := fun i => if i = v then b else a i
end Go.Proofs.Ytapjobndmmkanaa
