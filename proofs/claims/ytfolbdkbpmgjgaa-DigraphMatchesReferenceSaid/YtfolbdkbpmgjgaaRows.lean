/-
  No cell of these rows narrows 'for every input' (looked for: loops, veiled, ifaces, maps, wideKeys, modest, calm, conditions, laid).
  DERIVED. THE GIVEN ROWS OF THIS SEAT. 7 by the template 'for every input the law returns true; each argument reads behind the call as it read before'; 0 by the template 'total and deterministic' (their statements: YtfolbdkbpmgjgaaTotals.lean).
  GIVEN WITH THE SEED: the statements are not yours to turn. If you find one false, say at which input.
  Laid BY PROGRAM, IN A SANDBOX (cutbox-rows.mjs): the forced cells as the released guide's own fill.sh prints them over the translation 6abd17e1de1728a6… (all of the seat's roots in one cut). By AI agents, Wed Nov 11 2026. No macro, syntax, notation, axiom, sorry.
-/
import Derived.Test.YtfolbdkbpmgjgaaChecked
import GoSem.Claim
import GoSem.ClaimJoined
import GoSem.ClaimMapViews
import Derived.JoinedTies
import Derived.KernelRfl
namespace Go.Proofs.Ytfolbdkbpmgjgaa
/- THE CELL 'sum', in the pinned program and in every row, IS THE sha256 OF THE DUMP (.gsa) THAT YtfolbdkbpmgjgaaProg.lean LOADS. Nothing in Lean hashes anything: it is a label: what it is worth is what the hold of that sum in a sandbox is worth. -/
noncomputable def Try.pinned : Pinned := { name := "ytfolbdkbpmgjgaa", sum := "6abd17e1de1728a68cdce8ed8194ab0efcb8f4b9bec254abe373a2552f462c37", checked := Try.checked }
namespace Rows
def none {H : Type} : Left H := { results := [], args := [] }

/-- 'wireloomlaw05.DigraphMatchesReference': WHATEVER THE INPUT: true; the input reads as it did. -/
def digraphMatchesReferenceSpec : ChangeSpec := { name := "digraphMatchesReference", fn := fun _ => fun
  | [d1, d2] => { results := [.lit (.bool true)], args := [d1, d2] }
  | _ => none }
def digraphMatchesReferenceRow : OpenClaim := { program := "ytfolbdkbpmgjgaa", sum := "6abd17e1de1728a68cdce8ed8194ab0efcb8f4b9bec254abe373a2552f462c37", func := "wireloom/wireloomlaw05.DigraphMatchesReference", spec := "digraphMatchesReference", inPlace := ["slices.overlaps[int]"], unfollowed := true, recurses := true, apart := false }
def DigraphMatchesReferenceSaid : Prop := digraphMatchesReferenceRow.holds Try.pinned (OpenSpec.ofChange digraphMatchesReferenceSpec)

/-- ITS FALSE NEIGHBOUR: 'it returns false'. Refute it at one input. -/
def digraphMatchesReferenceWrong : ChangeSpec := { name := "digraphMatchesReference", fn := fun _ => fun
  | [d1, d2] => { results := [.lit (.bool false)], args := [d1, d2] }
  | _ => none }
def DigraphMatchesReferenceWrongFalsely : Prop := digraphMatchesReferenceRow.holds Try.pinned (OpenSpec.ofChange digraphMatchesReferenceWrong)

/-- 'wireloomlaw05.DigraphOrders': WHATEVER THE INPUT: true; the input reads as it did. -/
def digraphOrdersSpec : ChangeSpec := { name := "digraphOrders", fn := fun _ => fun
  | [d1, d2] => { results := [.lit (.bool true)], args := [d1, d2] }
  | _ => none }
def digraphOrdersRow : OpenClaim := { program := "ytfolbdkbpmgjgaa", sum := "6abd17e1de1728a68cdce8ed8194ab0efcb8f4b9bec254abe373a2552f462c37", func := "wireloom/wireloomlaw05.DigraphOrders", spec := "digraphOrders", inPlace := ["slices.overlaps[int]"], unfollowed := true, recurses := true, apart := false }
def DigraphOrdersSaid : Prop := digraphOrdersRow.holds Try.pinned (OpenSpec.ofChange digraphOrdersSpec)

/-- ITS FALSE NEIGHBOUR: 'it returns false'. Refute it at one input. -/
def digraphOrdersWrong : ChangeSpec := { name := "digraphOrders", fn := fun _ => fun
  | [d1, d2] => { results := [.lit (.bool false)], args := [d1, d2] }
  | _ => none }
def DigraphOrdersWrongFalsely : Prop := digraphOrdersRow.holds Try.pinned (OpenSpec.ofChange digraphOrdersWrong)

/-- 'wireloomlaw05.DigraphCycles': WHATEVER THE INPUT: true; the input reads as it did. -/
def digraphCyclesSpec : ChangeSpec := { name := "digraphCycles", fn := fun _ => fun
  | [d] => { results := [.lit (.bool true)], args := [d] }
  | _ => none }
def digraphCyclesRow : OpenClaim := { program := "ytfolbdkbpmgjgaa", sum := "6abd17e1de1728a68cdce8ed8194ab0efcb8f4b9bec254abe373a2552f462c37", func := "wireloom/wireloomlaw05.DigraphCycles", spec := "digraphCycles", inPlace := ["slices.overlaps[int]"], unfollowed := true, recurses := true, apart := false }
def DigraphCyclesSaid : Prop := digraphCyclesRow.holds Try.pinned (OpenSpec.ofChange digraphCyclesSpec)

/-- ITS FALSE NEIGHBOUR: 'it returns false'. Refute it at one input. -/
def digraphCyclesWrong : ChangeSpec := { name := "digraphCycles", fn := fun _ => fun
  | [d] => { results := [.lit (.bool false)], args := [d] }
  | _ => none }
def DigraphCyclesWrongFalsely : Prop := digraphCyclesRow.holds Try.pinned (OpenSpec.ofChange digraphCyclesWrong)

/-- 'wireloomlaw05.DigraphReaches': WHATEVER THE INPUT: true; the input reads as it did. -/
def digraphReachesSpec : ChangeSpec := { name := "digraphReaches", fn := fun _ => fun
  | [d1, d2] => { results := [.lit (.bool true)], args := [d1, d2] }
  | _ => none }
def digraphReachesRow : OpenClaim := { program := "ytfolbdkbpmgjgaa", sum := "6abd17e1de1728a68cdce8ed8194ab0efcb8f4b9bec254abe373a2552f462c37", func := "wireloom/wireloomlaw05.DigraphReaches", spec := "digraphReaches", inPlace := ["slices.overlaps[int]"], unfollowed := true, recurses := true, apart := false }
def DigraphReachesSaid : Prop := digraphReachesRow.holds Try.pinned (OpenSpec.ofChange digraphReachesSpec)

/-- ITS FALSE NEIGHBOUR: 'it returns false'. Refute it at one input. -/
def digraphReachesWrong : ChangeSpec := { name := "digraphReaches", fn := fun _ => fun
  | [d1, d2] => { results := [.lit (.bool false)], args := [d1, d2] }
  | _ => none }
def DigraphReachesWrongFalsely : Prop := digraphReachesRow.holds Try.pinned (OpenSpec.ofChange digraphReachesWrong)

/-- 'wireloomlaw05.DigraphDepths': WHATEVER THE INPUT: true; the input reads as it did. -/
def digraphDepthsSpec : ChangeSpec := { name := "digraphDepths", fn := fun _ => fun
  | [d] => { results := [.lit (.bool true)], args := [d] }
  | _ => none }
def digraphDepthsRow : OpenClaim := { program := "ytfolbdkbpmgjgaa", sum := "6abd17e1de1728a68cdce8ed8194ab0efcb8f4b9bec254abe373a2552f462c37", func := "wireloom/wireloomlaw05.DigraphDepths", spec := "digraphDepths", inPlace := ["slices.overlaps[int]"], unfollowed := true, recurses := true, apart := false }
def DigraphDepthsSaid : Prop := digraphDepthsRow.holds Try.pinned (OpenSpec.ofChange digraphDepthsSpec)

/-- ITS FALSE NEIGHBOUR: 'it returns false'. Refute it at one input. -/
def digraphDepthsWrong : ChangeSpec := { name := "digraphDepths", fn := fun _ => fun
  | [d] => { results := [.lit (.bool false)], args := [d] }
  | _ => none }
def DigraphDepthsWrongFalsely : Prop := digraphDepthsRow.holds Try.pinned (OpenSpec.ofChange digraphDepthsWrong)

/-- 'wireloomlaw05.DigraphComponents': WHATEVER THE INPUT: true; the input reads as it did. -/
def digraphComponentsSpec : ChangeSpec := { name := "digraphComponents", fn := fun _ => fun
  | [d] => { results := [.lit (.bool true)], args := [d] }
  | _ => none }
def digraphComponentsRow : OpenClaim := { program := "ytfolbdkbpmgjgaa", sum := "6abd17e1de1728a68cdce8ed8194ab0efcb8f4b9bec254abe373a2552f462c37", func := "wireloom/wireloomlaw05.DigraphComponents", spec := "digraphComponents", inPlace := ["slices.overlaps[int]"], unfollowed := true, recurses := true, apart := false }
def DigraphComponentsSaid : Prop := digraphComponentsRow.holds Try.pinned (OpenSpec.ofChange digraphComponentsSpec)

/-- ITS FALSE NEIGHBOUR: 'it returns false'. Refute it at one input. -/
def digraphComponentsWrong : ChangeSpec := { name := "digraphComponents", fn := fun _ => fun
  | [d] => { results := [.lit (.bool false)], args := [d] }
  | _ => none }
def DigraphComponentsWrongFalsely : Prop := digraphComponentsRow.holds Try.pinned (OpenSpec.ofChange digraphComponentsWrong)

/-- 'wireloomlaw05.DigraphCloses': WHATEVER THE INPUT: true; the input reads as it did. -/
def digraphClosesSpec : ChangeSpec := { name := "digraphCloses", fn := fun _ => fun
  | [d1, d2] => { results := [.lit (.bool true)], args := [d1, d2] }
  | _ => none }
def digraphClosesRow : OpenClaim := { program := "ytfolbdkbpmgjgaa", sum := "6abd17e1de1728a68cdce8ed8194ab0efcb8f4b9bec254abe373a2552f462c37", func := "wireloom/wireloomlaw05.DigraphCloses", spec := "digraphCloses", inPlace := ["slices.overlaps[int]"], unfollowed := true, recurses := true, apart := false }
def DigraphClosesSaid : Prop := digraphClosesRow.holds Try.pinned (OpenSpec.ofChange digraphClosesSpec)

/-- ITS FALSE NEIGHBOUR: 'it returns false'. Refute it at one input. -/
def digraphClosesWrong : ChangeSpec := { name := "digraphCloses", fn := fun _ => fun
  | [d1, d2] => { results := [.lit (.bool false)], args := [d1, d2] }
  | _ => none }
def DigraphClosesWrongFalsely : Prop := digraphClosesRow.holds Try.pinned (OpenSpec.ofChange digraphClosesWrong)

/- THE SECOND FORM. 'bulk': how many values and letters a reading holds, each counted each time it is reached (what is shared counts as often as it is met; a slice's spare places count too). A statement '..UptoSaid' is the law's where the arguments, and the package variables that the reading takes, are together of bulk at most 1048576: NARROWER than '..Said'. Prove '..Said' where nothing that the law and all that it calls make is longer than what came in: it says more and counts as full. Else prove '..UptoSaid'. A law counts once. -/
mutual
def uptoBulk {H : Type} : DataW H → Nat
  | .lit (.string bytes) => bytes.length + 1
  | .lit _ => 1
  | .nil => 1
  | .ptr d => uptoBulk d + 1
  | .slice elems spare => uptoBulkAll elems + uptoBulkAll spare + 1
  | .agg parts => uptoBulkAll parts + 1
  | .iface _ d => uptoBulk d + 1
  | .map entries => uptoBulkEntries entries + 1
  | .held _ => 1
def uptoBulkAll {H : Type} : List (DataW H) → Nat
  | [] => 0
  | d :: r => uptoBulk d + uptoBulkAll r
def uptoBulkEntries {H : Type} : List (Lit × DataW H) → Nat
  | [] => 0
  | x :: r => uptoBulkEntry x + uptoBulkEntries r
def uptoBulkEntry {H : Type} : Lit × DataW H → Nat
  | (.string bytes, d) => bytes.length + uptoBulk d + 1
  | (_, d) => uptoBulk d + 1
 end
def uptoSmall : (H : Type) → List (DataW H) → Bool := fun _ ds => decide (uptoBulkAll ds ≤ 1048576)
def OpenSpec.upto (s : _root_.Go.ChangeSpec) : _root_.Go.OpenSpec := { _root_.Go.OpenSpec.ofChange s with cond := some uptoSmall }

/-- 'wireloomlaw05.DigraphMatchesReference', WHERE WHAT IT READS IS OF BULK AT MOST 1048576: true; the input reads as it did. -/
def digraphMatchesReferenceUptoRow : OpenClaim := { program := "ytfolbdkbpmgjgaa", sum := "6abd17e1de1728a68cdce8ed8194ab0efcb8f4b9bec254abe373a2552f462c37", func := "wireloom/wireloomlaw05.DigraphMatchesReference", spec := "digraphMatchesReference", inPlace := ["slices.overlaps[int]"], unfollowed := true, recurses := true, apart := false, narrowed := true }
def DigraphMatchesReferenceUptoSaid : Prop := digraphMatchesReferenceUptoRow.holds Try.pinned (OpenSpec.upto digraphMatchesReferenceSpec)

/-- 'wireloomlaw05.DigraphOrders', WHERE WHAT IT READS IS OF BULK AT MOST 1048576: true; the input reads as it did. -/
def digraphOrdersUptoRow : OpenClaim := { program := "ytfolbdkbpmgjgaa", sum := "6abd17e1de1728a68cdce8ed8194ab0efcb8f4b9bec254abe373a2552f462c37", func := "wireloom/wireloomlaw05.DigraphOrders", spec := "digraphOrders", inPlace := ["slices.overlaps[int]"], unfollowed := true, recurses := true, apart := false, narrowed := true }
def DigraphOrdersUptoSaid : Prop := digraphOrdersUptoRow.holds Try.pinned (OpenSpec.upto digraphOrdersSpec)

/-- 'wireloomlaw05.DigraphCycles', WHERE WHAT IT READS IS OF BULK AT MOST 1048576: true; the input reads as it did. -/
def digraphCyclesUptoRow : OpenClaim := { program := "ytfolbdkbpmgjgaa", sum := "6abd17e1de1728a68cdce8ed8194ab0efcb8f4b9bec254abe373a2552f462c37", func := "wireloom/wireloomlaw05.DigraphCycles", spec := "digraphCycles", inPlace := ["slices.overlaps[int]"], unfollowed := true, recurses := true, apart := false, narrowed := true }
def DigraphCyclesUptoSaid : Prop := digraphCyclesUptoRow.holds Try.pinned (OpenSpec.upto digraphCyclesSpec)

/-- 'wireloomlaw05.DigraphReaches', WHERE WHAT IT READS IS OF BULK AT MOST 1048576: true; the input reads as it did. -/
def digraphReachesUptoRow : OpenClaim := { program := "ytfolbdkbpmgjgaa", sum := "6abd17e1de1728a68cdce8ed8194ab0efcb8f4b9bec254abe373a2552f462c37", func := "wireloom/wireloomlaw05.DigraphReaches", spec := "digraphReaches", inPlace := ["slices.overlaps[int]"], unfollowed := true, recurses := true, apart := false, narrowed := true }
def DigraphReachesUptoSaid : Prop := digraphReachesUptoRow.holds Try.pinned (OpenSpec.upto digraphReachesSpec)

/-- 'wireloomlaw05.DigraphDepths', WHERE WHAT IT READS IS OF BULK AT MOST 1048576: true; the input reads as it did. -/
def digraphDepthsUptoRow : OpenClaim := { program := "ytfolbdkbpmgjgaa", sum := "6abd17e1de1728a68cdce8ed8194ab0efcb8f4b9bec254abe373a2552f462c37", func := "wireloom/wireloomlaw05.DigraphDepths", spec := "digraphDepths", inPlace := ["slices.overlaps[int]"], unfollowed := true, recurses := true, apart := false, narrowed := true }
def DigraphDepthsUptoSaid : Prop := digraphDepthsUptoRow.holds Try.pinned (OpenSpec.upto digraphDepthsSpec)

/-- 'wireloomlaw05.DigraphComponents', WHERE WHAT IT READS IS OF BULK AT MOST 1048576: true; the input reads as it did. -/
def digraphComponentsUptoRow : OpenClaim := { program := "ytfolbdkbpmgjgaa", sum := "6abd17e1de1728a68cdce8ed8194ab0efcb8f4b9bec254abe373a2552f462c37", func := "wireloom/wireloomlaw05.DigraphComponents", spec := "digraphComponents", inPlace := ["slices.overlaps[int]"], unfollowed := true, recurses := true, apart := false, narrowed := true }
def DigraphComponentsUptoSaid : Prop := digraphComponentsUptoRow.holds Try.pinned (OpenSpec.upto digraphComponentsSpec)

/-- 'wireloomlaw05.DigraphCloses', WHERE WHAT IT READS IS OF BULK AT MOST 1048576: true; the input reads as it did. -/
def digraphClosesUptoRow : OpenClaim := { program := "ytfolbdkbpmgjgaa", sum := "6abd17e1de1728a68cdce8ed8194ab0efcb8f4b9bec254abe373a2552f462c37", func := "wireloom/wireloomlaw05.DigraphCloses", spec := "digraphCloses", inPlace := ["slices.overlaps[int]"], unfollowed := true, recurses := true, apart := false, narrowed := true }
def DigraphClosesUptoSaid : Prop := digraphClosesUptoRow.holds Try.pinned (OpenSpec.upto digraphClosesSpec)

end Rows
end Go.Proofs.Ytfolbdkbpmgjgaa
