/-
  No cell of these rows narrows 'for every input' (looked for: loops, veiled, ifaces, maps, wideKeys, modest, calm, conditions, laid).
  DERIVED. THE GIVEN ROWS OF THIS SEAT. 6 by the template 'for every input the law returns true; each argument reads behind the call as it read before'; 0 by the template 'total and deterministic' (their statements: YtinefghmmbggeaaTotals.lean).
  GIVEN WITH THE SEED: the statements are not yours to turn. If you find one false, say at which input.
  Laid BY PROGRAM, IN A SANDBOX (cutbox-rows.mjs): the forced cells as the released guide's own fill.sh prints them over the translation ca52697fe34dd720… (all of the seat's roots in one cut). By AI agents, Wed Nov 11 2026. No macro, syntax, notation, axiom, sorry.
-/
import Derived.Test.YtinefghmmbggeaaChecked
import GoSem.Claim
import GoSem.ClaimJoined
import GoSem.ClaimMapViews
import Derived.JoinedTies
import Derived.KernelRfl
namespace Go.Proofs.Ytinefghmmbggeaa
/- THE CELL 'sum', in the pinned program and in every row, IS THE sha256 OF THE DUMP (.gsa) THAT YtinefghmmbggeaaProg.lean LOADS. Nothing in Lean hashes anything: it is a label: what it is worth is what the hold of that sum in a sandbox is worth. -/
noncomputable def Try.pinned : Pinned := { name := "ytinefghmmbggeaa", sum := "ca52697fe34dd7204364a5128253e06e47b0304396583212fefce1074f7ac84f", checked := Try.checked }
namespace Rows
def none {H : Type} : Left H := { results := [], args := [] }

/-- 'wireloomlaw51.RolloutMatchesReference': WHATEVER THE INPUT: true; the input reads as it did. -/
def rolloutMatchesReferenceSpec : ChangeSpec := { name := "rolloutMatchesReference", fn := fun _ => fun
  | [d1, d2, d3] => { results := [.lit (.bool true)], args := [d1, d2, d3] }
  | _ => none }
def rolloutMatchesReferenceRow : OpenClaim := { program := "ytinefghmmbggeaa", sum := "ca52697fe34dd7204364a5128253e06e47b0304396583212fefce1074f7ac84f", func := "wireloom/wireloomlaw51.RolloutMatchesReference", spec := "rolloutMatchesReference", unfollowed := true, recurses := true, apart := false }
def RolloutMatchesReferenceSaid : Prop := rolloutMatchesReferenceRow.holds Try.pinned (OpenSpec.ofChange rolloutMatchesReferenceSpec)

/-- ITS FALSE NEIGHBOUR: 'it returns false'. Refute it at one input. -/
def rolloutMatchesReferenceWrong : ChangeSpec := { name := "rolloutMatchesReference", fn := fun _ => fun
  | [d1, d2, d3] => { results := [.lit (.bool false)], args := [d1, d2, d3] }
  | _ => none }
def RolloutMatchesReferenceWrongFalsely : Prop := rolloutMatchesReferenceRow.holds Try.pinned (OpenSpec.ofChange rolloutMatchesReferenceWrong)

/-- 'wireloomlaw51.RolloutOrder': WHATEVER THE INPUT: true; the input reads as it did. -/
def rolloutOrderSpec : ChangeSpec := { name := "rolloutOrder", fn := fun _ => fun
  | [d] => { results := [.lit (.bool true)], args := [d] }
  | _ => none }
def rolloutOrderRow : OpenClaim := { program := "ytinefghmmbggeaa", sum := "ca52697fe34dd7204364a5128253e06e47b0304396583212fefce1074f7ac84f", func := "wireloom/wireloomlaw51.RolloutOrder", spec := "rolloutOrder", unfollowed := true, recurses := true, apart := false }
def RolloutOrderSaid : Prop := rolloutOrderRow.holds Try.pinned (OpenSpec.ofChange rolloutOrderSpec)

/-- ITS FALSE NEIGHBOUR: 'it returns false'. Refute it at one input. -/
def rolloutOrderWrong : ChangeSpec := { name := "rolloutOrder", fn := fun _ => fun
  | [d] => { results := [.lit (.bool false)], args := [d] }
  | _ => none }
def RolloutOrderWrongFalsely : Prop := rolloutOrderRow.holds Try.pinned (OpenSpec.ofChange rolloutOrderWrong)

/-- 'wireloomlaw51.RolloutHolds': WHATEVER THE INPUT: true; the input reads as it did. -/
def rolloutHoldsSpec : ChangeSpec := { name := "rolloutHolds", fn := fun _ => fun
  | [d1, d2] => { results := [.lit (.bool true)], args := [d1, d2] }
  | _ => none }
def rolloutHoldsRow : OpenClaim := { program := "ytinefghmmbggeaa", sum := "ca52697fe34dd7204364a5128253e06e47b0304396583212fefce1074f7ac84f", func := "wireloom/wireloomlaw51.RolloutHolds", spec := "rolloutHolds", unfollowed := true, recurses := true, apart := false }
def RolloutHoldsSaid : Prop := rolloutHoldsRow.holds Try.pinned (OpenSpec.ofChange rolloutHoldsSpec)

/-- ITS FALSE NEIGHBOUR: 'it returns false'. Refute it at one input. -/
def rolloutHoldsWrong : ChangeSpec := { name := "rolloutHolds", fn := fun _ => fun
  | [d1, d2] => { results := [.lit (.bool false)], args := [d1, d2] }
  | _ => none }
def RolloutHoldsWrongFalsely : Prop := rolloutHoldsRow.holds Try.pinned (OpenSpec.ofChange rolloutHoldsWrong)

/-- 'wireloomlaw51.RolloutBack': WHATEVER THE INPUT: true; the input reads as it did. -/
def rolloutBackSpec : ChangeSpec := { name := "rolloutBack", fn := fun _ => fun
  | [d1, d2] => { results := [.lit (.bool true)], args := [d1, d2] }
  | _ => none }
def rolloutBackRow : OpenClaim := { program := "ytinefghmmbggeaa", sum := "ca52697fe34dd7204364a5128253e06e47b0304396583212fefce1074f7ac84f", func := "wireloom/wireloomlaw51.RolloutBack", spec := "rolloutBack", unfollowed := true, recurses := true, apart := false }
def RolloutBackSaid : Prop := rolloutBackRow.holds Try.pinned (OpenSpec.ofChange rolloutBackSpec)

/-- ITS FALSE NEIGHBOUR: 'it returns false'. Refute it at one input. -/
def rolloutBackWrong : ChangeSpec := { name := "rolloutBack", fn := fun _ => fun
  | [d1, d2] => { results := [.lit (.bool false)], args := [d1, d2] }
  | _ => none }
def RolloutBackWrongFalsely : Prop := rolloutBackRow.holds Try.pinned (OpenSpec.ofChange rolloutBackWrong)

/-- 'wireloomlaw51.RolloutProgress': WHATEVER THE INPUT: true; the input reads as it did. -/
def rolloutProgressSpec : ChangeSpec := { name := "rolloutProgress", fn := fun _ => fun
  | [d1, d2] => { results := [.lit (.bool true)], args := [d1, d2] }
  | _ => none }
def rolloutProgressRow : OpenClaim := { program := "ytinefghmmbggeaa", sum := "ca52697fe34dd7204364a5128253e06e47b0304396583212fefce1074f7ac84f", func := "wireloom/wireloomlaw51.RolloutProgress", spec := "rolloutProgress", unfollowed := true, recurses := true, apart := false }
def RolloutProgressSaid : Prop := rolloutProgressRow.holds Try.pinned (OpenSpec.ofChange rolloutProgressSpec)

/-- ITS FALSE NEIGHBOUR: 'it returns false'. Refute it at one input. -/
def rolloutProgressWrong : ChangeSpec := { name := "rolloutProgress", fn := fun _ => fun
  | [d1, d2] => { results := [.lit (.bool false)], args := [d1, d2] }
  | _ => none }
def RolloutProgressWrongFalsely : Prop := rolloutProgressRow.holds Try.pinned (OpenSpec.ofChange rolloutProgressWrong)

/-- 'wireloomlaw51.RolloutRepeats': WHATEVER THE INPUT: true; the input reads as it did. -/
def rolloutRepeatsSpec : ChangeSpec := { name := "rolloutRepeats", fn := fun _ => fun
  | [d1, d2, d3] => { results := [.lit (.bool true)], args := [d1, d2, d3] }
  | _ => none }
def rolloutRepeatsRow : OpenClaim := { program := "ytinefghmmbggeaa", sum := "ca52697fe34dd7204364a5128253e06e47b0304396583212fefce1074f7ac84f", func := "wireloom/wireloomlaw51.RolloutRepeats", spec := "rolloutRepeats", unfollowed := true, recurses := true, apart := false }
def RolloutRepeatsSaid : Prop := rolloutRepeatsRow.holds Try.pinned (OpenSpec.ofChange rolloutRepeatsSpec)

/-- ITS FALSE NEIGHBOUR: 'it returns false'. Refute it at one input. -/
def rolloutRepeatsWrong : ChangeSpec := { name := "rolloutRepeats", fn := fun _ => fun
  | [d1, d2, d3] => { results := [.lit (.bool false)], args := [d1, d2, d3] }
  | _ => none }
def RolloutRepeatsWrongFalsely : Prop := rolloutRepeatsRow.holds Try.pinned (OpenSpec.ofChange rolloutRepeatsWrong)

/- THE SECOND FORM. 'bulk': how many values and letters a reading holds, each counted each time it is reached (what is shared counts as often as it is met; a slice's spare places count too). A statement '..UptoSaid' is the law's where the arguments, and the package variables that the reading takes, are together of bulk at most 1048576: NARROWER than '..Said'. Prove '..Said' where nothing that the law and all that it calls make is longer than what came in: it says more and counts as full. Else prove '..UptoSaid'. A law counts once. -/
mutual
def uptoBulk {H : Type} : DataW H → Nat
  | .lit (.string bytes) => bytes.length + 1
  | .lit _ => 1
  | .nil => 1
  | .ptr d => uptoBulk d + 1
  | .slice elems spare => uptoBulkAll elems + uptoBulkAll spare + 1
  | .agg parts => uptoBulkAll parts + 1
  | .iface _ d => uptoBulk d + 1
  | .map entries => uptoBulkEntries entries + 1
  | .held _ => 1
def uptoBulkAll {H : Type} : List (DataW H) → Nat
  | [] => 0
  | d :: r => uptoBulk d + uptoBulkAll r
def uptoBulkEntries {H : Type} : List (Lit × DataW H) → Nat
  | [] => 0
  | x :: r => uptoBulkEntry x + uptoBulkEntries r
def uptoBulkEntry {H : Type} : Lit × DataW H → Nat
  | (.string bytes, d) => bytes.length + uptoBulk d + 1
  | (_, d) => uptoBulk d + 1
 end
def uptoSmall : (H : Type) → List (DataW H) → Bool := fun _ ds => decide (uptoBulkAll ds ≤ 1048576)
def OpenSpec.upto (s : _root_.Go.ChangeSpec) : _root_.Go.OpenSpec := { _root_.Go.OpenSpec.ofChange s with cond := some uptoSmall }

/-- 'wireloomlaw51.RolloutMatchesReference', WHERE WHAT IT READS IS OF BULK AT MOST 1048576: true; the input reads as it did. -/
def rolloutMatchesReferenceUptoRow : OpenClaim := { program := "ytinefghmmbggeaa", sum := "ca52697fe34dd7204364a5128253e06e47b0304396583212fefce1074f7ac84f", func := "wireloom/wireloomlaw51.RolloutMatchesReference", spec := "rolloutMatchesReference", unfollowed := true, recurses := true, apart := false, narrowed := true }
def RolloutMatchesReferenceUptoSaid : Prop := rolloutMatchesReferenceUptoRow.holds Try.pinned (OpenSpec.upto rolloutMatchesReferenceSpec)

/-- 'wireloomlaw51.RolloutOrder', WHERE WHAT IT READS IS OF BULK AT MOST 1048576: true; the input reads as it did. -/
def rolloutOrderUptoRow : OpenClaim := { program := "ytinefghmmbggeaa", sum := "ca52697fe34dd7204364a5128253e06e47b0304396583212fefce1074f7ac84f", func := "wireloom/wireloomlaw51.RolloutOrder", spec := "rolloutOrder", unfollowed := true, recurses := true, apart := false, narrowed := true }
def RolloutOrderUptoSaid : Prop := rolloutOrderUptoRow.holds Try.pinned (OpenSpec.upto rolloutOrderSpec)

/-- 'wireloomlaw51.RolloutHolds', WHERE WHAT IT READS IS OF BULK AT MOST 1048576: true; the input reads as it did. -/
def rolloutHoldsUptoRow : OpenClaim := { program := "ytinefghmmbggeaa", sum := "ca52697fe34dd7204364a5128253e06e47b0304396583212fefce1074f7ac84f", func := "wireloom/wireloomlaw51.RolloutHolds", spec := "rolloutHolds", unfollowed := true, recurses := true, apart := false, narrowed := true }
def RolloutHoldsUptoSaid : Prop := rolloutHoldsUptoRow.holds Try.pinned (OpenSpec.upto rolloutHoldsSpec)

/-- 'wireloomlaw51.RolloutBack', WHERE WHAT IT READS IS OF BULK AT MOST 1048576: true; the input reads as it did. -/
def rolloutBackUptoRow : OpenClaim := { program := "ytinefghmmbggeaa", sum := "ca52697fe34dd7204364a5128253e06e47b0304396583212fefce1074f7ac84f", func := "wireloom/wireloomlaw51.RolloutBack", spec := "rolloutBack", unfollowed := true, recurses := true, apart := false, narrowed := true }
def RolloutBackUptoSaid : Prop := rolloutBackUptoRow.holds Try.pinned (OpenSpec.upto rolloutBackSpec)

/-- 'wireloomlaw51.RolloutProgress', WHERE WHAT IT READS IS OF BULK AT MOST 1048576: true; the input reads as it did. -/
def rolloutProgressUptoRow : OpenClaim := { program := "ytinefghmmbggeaa", sum := "ca52697fe34dd7204364a5128253e06e47b0304396583212fefce1074f7ac84f", func := "wireloom/wireloomlaw51.RolloutProgress", spec := "rolloutProgress", unfollowed := true, recurses := true, apart := false, narrowed := true }
def RolloutProgressUptoSaid : Prop := rolloutProgressUptoRow.holds Try.pinned (OpenSpec.upto rolloutProgressSpec)

/-- 'wireloomlaw51.RolloutRepeats', WHERE WHAT IT READS IS OF BULK AT MOST 1048576: true; the input reads as it did. -/
def rolloutRepeatsUptoRow : OpenClaim := { program := "ytinefghmmbggeaa", sum := "ca52697fe34dd7204364a5128253e06e47b0304396583212fefce1074f7ac84f", func := "wireloom/wireloomlaw51.RolloutRepeats", spec := "rolloutRepeats", unfollowed := true, recurses := true, apart := false, narrowed := true }
def RolloutRepeatsUptoSaid : Prop := rolloutRepeatsUptoRow.holds Try.pinned (OpenSpec.upto rolloutRepeatsSpec)

end Rows
end Go.Proofs.Ytinefghmmbggeaa
