/- netsim.Eval: the values of all nodes. -/
import Derived.Test.YtgfnpfchdlcoeaaQ
import Derived.Test.YtgfnpfchdlcoeaaDa
set_option linter.unusedVariables false
set_option linter.unusedSimpArgs false
namespace Go.Proofs.Ytgfnpfchdlcoeaa
open Go Go.RowKit
/-- A gate whose operands lie below m. -/
structure GateOk (m : Nat) (g : Gate) : Prop where
  o1 : 1 ≤ g.op
  o2 : g.op ≤ 7
  a0 : 0 ≤ g.a
  a1 : g.a < m
  b0 : 0 ≤ g.b
  b1 : g.b < m
  c0 : 0 ≤ g.c
  c1 : g.c < m
  n0 : 0 ≤ g.n
  n1 : g.n < 1000000
def GatesOk (m : Nat) (l : List Gate) : Prop := ∀ k, k < l.length → GateOk (m + k) (nth l k)
end Go.Proofs.Ytgfnpfchdlcoeaa
