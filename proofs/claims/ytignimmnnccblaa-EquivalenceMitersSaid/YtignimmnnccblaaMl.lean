/- Comparisons and their order: the law. -/
import Derived.Test.YtignimmnnccblaaQr
import Derived.Test.YtignimmnnccblaaMk
set_option linter.unusedVariables false
set_option linter.unusedSimpArgs false
set_option maxRecDepth 100000
set_option maxHeartbeats 4000000
namespace Go.Proofs.Ytignimmnnccblaa
open Go Go.RowKit
section
variable {a b a' b' : Net} {sh : Sh} {is is' : Bool} {L L' : List Bool} {E E' : Int}
end
theorem Chg.pair {m : Nat} {a b : Net} (ha : NetQ m a) (h : Chg m a b) (hm : m + 18 ≤ 100) (hs : a.gates.length + b.gates.length ≤ 180) : Pair a b := ⟨ha.up (by omega), h.q.up hm, h.ins, h.out, h.dl, hs⟩
def fpC (n : Net) : D := .fp (zax n) 0
end Go.Proofs.Ytignimmnnccblaa
