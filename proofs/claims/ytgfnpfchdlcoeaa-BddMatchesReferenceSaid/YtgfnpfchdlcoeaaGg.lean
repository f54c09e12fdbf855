/- The theorem of the support. -/
import Derived.Test.YtgfnpfchdlcoeaaQr
import Derived.Test.YtgfnpfchdlcoeaaQ
import Derived.Test.YtgfnpfchdlcoeaaGf
set_option linter.unusedVariables false
set_option linter.unusedSimpArgs false
set_option maxRecDepth 100000
set_option maxHeartbeats 4000000
namespace Go.Proofs.Ytgfnpfchdlcoeaa
open Go Go.RowKit
def zwh (t : T) (j : Nat) : List Int := ((List.range j).filter fun v => decide (v ∈ t.vs)).map fun (v : Nat) => (v : Int)
theorem jml (t : T) (j : Nat) : zwh t (j + 1) = if j ∈ t.vs then zwh t j ++ [(j : Int)] else zwh t j := by
 unfold zwh
 rw [List.range_succ, List.filter_append, List.map_append]
 by_cases h : j ∈ t.vs
 ·rw [if_pos h]; simp [h]
 ·rw [if_neg h]; simp [h]
theorem jgb (t : T) (j : Nat) : (zwh t j).length ≤ j := by
 unfold zwh
 rw [List.length_map]
 exact Nat.le_trans (List.length_filter_le _ _) (by simp)
end Go.Proofs.Ytgfnpfchdlcoeaa
