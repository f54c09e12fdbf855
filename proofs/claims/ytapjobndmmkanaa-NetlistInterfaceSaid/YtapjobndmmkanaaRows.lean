/-
  No cell of these rows narrows 'for every input' (looked for: loops, veiled, ifaces, maps, wideKeys, modest, calm, conditions, laid).
  DERIVED. THE GIVEN ROWS OF THIS SEAT. 6 by the template 'for every input the law returns true; each argument reads behind the call as it read before'; 0 by the template 'total and deterministic' (their statements: YtapjobndmmkanaaTotals.lean).
  GIVEN WITH THE SEED: the statements are not yours to turn. If you find one false, say at which input.
  Laid BY PROGRAM, IN A SANDBOX (cutbox-rows.mjs): the forced cells as the released guide's own fill.sh prints them over the translation e7a6e9aa4b3f2dbd… (all of the seat's roots in one cut). By AI agents, Wed Nov 11 2026. No macro, syntax, notation, axiom, sorry.
-/
import Derived.Test.YtapjobndmmkanaaChecked
import GoSem.Claim
import GoSem.ClaimJoined
import GoSem.ClaimMapViews
import Derived.JoinedTies
import Derived.KernelRfl
namespace Go.Proofs.Ytapjobndmmkanaa
/- THE CELL 'sum', in the pinned program and in every row, IS THE sha256 OF THE DUMP (.gsa) THAT YtapjobndmmkanaaProg.lean LOADS. Nothing in Lean hashes anything: it is a label: what it is worth is what the hold of that sum in a sandbox is worth. -/
noncomputable def Try.pinned : Pinned := { name := "ytapjobndmmkanaa", sum := "e7a6e9aa4b3f2dbd298088b75f72170e3c41459f2bbe34135356f483d683dc45", checked := Try.checked }
namespace Rows
def none {H : Type} : Left H := { results := [], args := [] }

/-- 'wireloomlaw22.NetsimMatchesReference': WHATEVER THE INPUT: true; the input reads as it did. -/
def netsimMatchesReferenceSpec : ChangeSpec := { name := "netsimMatchesReference", fn := fun _ => fun
  | [d1, d2, d3] => { results := [.lit (.bool true)], args := [d1, d2, d3] }
  | _ => none }
def netsimMatchesReferenceRow : OpenClaim := { program := "ytapjobndmmkanaa", sum := "e7a6e9aa4b3f2dbd298088b75f72170e3c41459f2bbe34135356f483d683dc45", func := "wireloom/wireloomlaw22.NetsimMatchesReference", spec := "netsimMatchesReference", unfollowed := true, recurses := true, plainKeys := false, apart := false }
def NetsimMatchesReferenceSaid : Prop := netsimMatchesReferenceRow.holds Try.pinned (OpenSpec.ofChange netsimMatchesReferenceSpec)

/-- ITS FALSE NEIGHBOUR: 'it returns false'. Refute it at one input. -/
def netsimMatchesReferenceWrong : ChangeSpec := { name := "netsimMatchesReference", fn := fun _ => fun
  | [d1, d2, d3] => { results := [.lit (.bool false)], args := [d1, d2, d3] }
  | _ => none }
def NetsimMatchesReferenceWrongFalsely : Prop := netsimMatchesReferenceRow.holds Try.pinned (OpenSpec.ofChange netsimMatchesReferenceWrong)

/-- 'wireloomlaw22.NetsimShape': WHATEVER THE INPUT: true; the input reads as it did. -/
def netsimShapeSpec : ChangeSpec := { name := "netsimShape", fn := fun _ => fun
  | [d1, d2] => { results := [.lit (.bool true)], args := [d1, d2] }
  | _ => none }
def netsimShapeRow : OpenClaim := { program := "ytapjobndmmkanaa", sum := "e7a6e9aa4b3f2dbd298088b75f72170e3c41459f2bbe34135356f483d683dc45", func := "wireloom/wireloomlaw22.NetsimShape", spec := "netsimShape", unfollowed := true, recurses := true, plainKeys := false, apart := false }
def NetsimShapeSaid : Prop := netsimShapeRow.holds Try.pinned (OpenSpec.ofChange netsimShapeSpec)

/-- ITS FALSE NEIGHBOUR: 'it returns false'. Refute it at one input. -/
def netsimShapeWrong : ChangeSpec := { name := "netsimShape", fn := fun _ => fun
  | [d1, d2] => { results := [.lit (.bool false)], args := [d1, d2] }
  | _ => none }
def NetsimShapeWrongFalsely : Prop := netsimShapeRow.holds Try.pinned (OpenSpec.ofChange netsimShapeWrong)

/-- 'wireloomlaw21.NetlistInterface': WHATEVER THE INPUT: true; the input reads as it did. -/
def netlistInterfaceSpec : ChangeSpec := { name := "netlistInterface", fn := fun _ => fun
  | [d1, d2] => { results := [.lit (.bool true)], args := [d1, d2] }
  | _ => none }
def netlistInterfaceRow : OpenClaim := { program := "ytapjobndmmkanaa", sum := "e7a6e9aa4b3f2dbd298088b75f72170e3c41459f2bbe34135356f483d683dc45", func := "wireloom/wireloomlaw21.NetlistInterface", spec := "netlistInterface", unfollowed := true, recurses := true, plainKeys := false, apart := false }
def NetlistInterfaceSaid : Prop := netlistInterfaceRow.holds Try.pinned (OpenSpec.ofChange netlistInterfaceSpec)

/-- ITS FALSE NEIGHBOUR: 'it returns false'. Refute it at one input. -/
def netlistInterfaceWrong : ChangeSpec := { name := "netlistInterface", fn := fun _ => fun
  | [d1, d2] => { results := [.lit (.bool false)], args := [d1, d2] }
  | _ => none }
def NetlistInterfaceWrongFalsely : Prop := netlistInterfaceRow.holds Try.pinned (OpenSpec.ofChange netlistInterfaceWrong)

/-- 'wireloomlaw21.NetlistNormal': WHATEVER THE INPUT: true; the input reads as it did. -/
def netlistNormalSpec : ChangeSpec := { name := "netlistNormal", fn := fun _ => fun
  | [d1, d2] => { results := [.lit (.bool true)], args := [d1, d2] }
  | _ => none }
def netlistNormalRow : OpenClaim := { program := "ytapjobndmmkanaa", sum := "e7a6e9aa4b3f2dbd298088b75f72170e3c41459f2bbe34135356f483d683dc45", func := "wireloom/wireloomlaw21.NetlistNormal", spec := "netlistNormal", unfollowed := true, recurses := true, plainKeys := false, apart := false }
def NetlistNormalSaid : Prop := netlistNormalRow.holds Try.pinned (OpenSpec.ofChange netlistNormalSpec)

/-- ITS FALSE NEIGHBOUR: 'it returns false'. Refute it at one input. -/
def netlistNormalWrong : ChangeSpec := { name := "netlistNormal", fn := fun _ => fun
  | [d1, d2] => { results := [.lit (.bool false)], args := [d1, d2] }
  | _ => none }
def NetlistNormalWrongFalsely : Prop := netlistNormalRow.holds Try.pinned (OpenSpec.ofChange netlistNormalWrong)

/-- 'wireloomlaw21.NetlistNames': WHATEVER THE INPUT: true; the input reads as it did. -/
def netlistNamesSpec : ChangeSpec := { name := "netlistNames", fn := fun _ => fun
  | [d1, d2] => { results := [.lit (.bool true)], args := [d1, d2] }
  | _ => none }
def netlistNamesRow : OpenClaim := { program := "ytapjobndmmkanaa", sum := "e7a6e9aa4b3f2dbd298088b75f72170e3c41459f2bbe34135356f483d683dc45", func := "wireloom/wireloomlaw21.NetlistNames", spec := "netlistNames", unfollowed := true, recurses := true, plainKeys := false, apart := false }
def NetlistNamesSaid : Prop := netlistNamesRow.holds Try.pinned (OpenSpec.ofChange netlistNamesSpec)

/-- ITS FALSE NEIGHBOUR: 'it returns false'. Refute it at one input. -/
def netlistNamesWrong : ChangeSpec := { name := "netlistNames", fn := fun _ => fun
  | [d1, d2] => { results := [.lit (.bool false)], args := [d1, d2] }
  | _ => none }
def NetlistNamesWrongFalsely : Prop := netlistNamesRow.holds Try.pinned (OpenSpec.ofChange netlistNamesWrong)

/-- 'wireloomlaw21.NetlistDepth': WHATEVER THE INPUT: true; the input reads as it did. -/
def netlistDepthSpec : ChangeSpec := { name := "netlistDepth", fn := fun _ => fun
  | [d1, d2] => { results := [.lit (.bool true)], args := [d1, d2] }
  | _ => none }
def netlistDepthRow : OpenClaim := { program := "ytapjobndmmkanaa", sum := "e7a6e9aa4b3f2dbd298088b75f72170e3c41459f2bbe34135356f483d683dc45", func := "wireloom/wireloomlaw21.NetlistDepth", spec := "netlistDepth", unfollowed := true, recurses := true, plainKeys := false, apart := false }
def NetlistDepthSaid : Prop := netlistDepthRow.holds Try.pinned (OpenSpec.ofChange netlistDepthSpec)

/-- ITS FALSE NEIGHBOUR: 'it returns false'. Refute it at one input. -/
def netlistDepthWrong : ChangeSpec := { name := "netlistDepth", fn := fun _ => fun
  | [d1, d2] => { results := [.lit (.bool false)], args := [d1, d2] }
  | _ => none }
def NetlistDepthWrongFalsely : Prop := netlistDepthRow.holds Try.pinned (OpenSpec.ofChange netlistDepthWrong)

/- THE SECOND FORM. 'bulk': how many values and letters a reading holds, each counted each time it is reached (what is shared counts as often as it is met; a slice's spare places count too). A statement '..UptoSaid' is the law's where the arguments, and the package variables that the reading takes, are together of bulk at most 1048576: NARROWER than '..Said'. Prove '..Said' where nothing that the law and all that it calls make is longer than what came in: it says more and counts as full. Else prove '..UptoSaid'. A law counts once. -/
mutual
def uptoBulk {H : Type} : DataW H → Nat
  | .lit (.string bytes) => bytes.length + 1
  | .lit _ => 1
  | .nil => 1
  | .ptr d => uptoBulk d + 1
  | .slice elems spare => uptoBulkAll elems + uptoBulkAll spare + 1
  | .agg parts => uptoBulkAll parts + 1
  | .iface _ d => uptoBulk d + 1
  | .map entries => uptoBulkEntries entries + 1
  | .held _ => 1
def uptoBulkAll {H : Type} : List (DataW H) → Nat
  | [] => 0
  | d :: r => uptoBulk d + uptoBulkAll r
def uptoBulkEntries {H : Type} : List (Lit × DataW H) → Nat
  | [] => 0
  | x :: r => uptoBulkEntry x + uptoBulkEntries r
def uptoBulkEntry {H : Type} : Lit × DataW H → Nat
  | (.string bytes, d) => bytes.length + uptoBulk d + 1
  | (_, d) => uptoBulk d + 1
 end
def uptoSmall : (H : Type) → List (DataW H) → Bool := fun _ ds => decide (uptoBulkAll ds ≤ 1048576)
def OpenSpec.upto (s : _root_.Go.ChangeSpec) : _root_.Go.OpenSpec := { _root_.Go.OpenSpec.ofChange s with cond := some uptoSmall }

/-- 'wireloomlaw22.NetsimMatchesReference', WHERE WHAT IT READS IS OF BULK AT MOST 1048576: true; the input reads as it did. -/
def netsimMatchesReferenceUptoRow : OpenClaim := { program := "ytapjobndmmkanaa", sum := "e7a6e9aa4b3f2dbd298088b75f72170e3c41459f2bbe34135356f483d683dc45", func := "wireloom/wireloomlaw22.NetsimMatchesReference", spec := "netsimMatchesReference", unfollowed := true, recurses := true, plainKeys := false, apart := false, narrowed := true }
def NetsimMatchesReferenceUptoSaid : Prop := netsimMatchesReferenceUptoRow.holds Try.pinned (OpenSpec.upto netsimMatchesReferenceSpec)

/-- 'wireloomlaw22.NetsimShape', WHERE WHAT IT READS IS OF BULK AT MOST 1048576: true; the input reads as it did. -/
def netsimShapeUptoRow : OpenClaim := { program := "ytapjobndmmkanaa", sum := "e7a6e9aa4b3f2dbd298088b75f72170e3c41459f2bbe34135356f483d683dc45", func := "wireloom/wireloomlaw22.NetsimShape", spec := "netsimShape", unfollowed := true, recurses := true, plainKeys := false, apart := false, narrowed := true }
def NetsimShapeUptoSaid : Prop := netsimShapeUptoRow.holds Try.pinned (OpenSpec.upto netsimShapeSpec)

/-- 'wireloomlaw21.NetlistInterface', WHERE WHAT IT READS IS OF BULK AT MOST 1048576: true; the input reads as it did. -/
def netlistInterfaceUptoRow : OpenClaim := { program := "ytapjobndmmkanaa", sum := "e7a6e9aa4b3f2dbd298088b75f72170e3c41459f2bbe34135356f483d683dc45", func := "wireloom/wireloomlaw21.NetlistInterface", spec := "netlistInterface", unfollowed := true, recurses := true, plainKeys := false, apart := false, narrowed := true }
def NetlistInterfaceUptoSaid : Prop := netlistInterfaceUptoRow.holds Try.pinned (OpenSpec.upto netlistInterfaceSpec)

/-- 'wireloomlaw21.NetlistNormal', WHERE WHAT IT READS IS OF BULK AT MOST 1048576: true; the input reads as it did. -/
def netlistNormalUptoRow : OpenClaim := { program := "ytapjobndmmkanaa", sum := "e7a6e9aa4b3f2dbd298088b75f72170e3c41459f2bbe34135356f483d683dc45", func := "wireloom/wireloomlaw21.NetlistNormal", spec := "netlistNormal", unfollowed := true, recurses := true, plainKeys := false, apart := false, narrowed := true }
def NetlistNormalUptoSaid : Prop := netlistNormalUptoRow.holds Try.pinned (OpenSpec.upto netlistNormalSpec)

/-- 'wireloomlaw21.NetlistNames', WHERE WHAT IT READS IS OF BULK AT MOST 1048576: true; the input reads as it did. -/
def netlistNamesUptoRow : OpenClaim := { program := "ytapjobndmmkanaa", sum := "e7a6e9aa4b3f2dbd298088b75f72170e3c41459f2bbe34135356f483d683dc45", func := "wireloom/wireloomlaw21.NetlistNames", spec := "netlistNames", unfollowed := true, recurses := true, plainKeys := false, apart := false, narrowed := true }
def NetlistNamesUptoSaid : Prop := netlistNamesUptoRow.holds Try.pinned (OpenSpec.upto netlistNamesSpec)

/-- 'wireloomlaw21.NetlistDepth', WHERE WHAT IT READS IS OF BULK AT MOST 1048576: true; the input reads as it did. -/
def netlistDepthUptoRow : OpenClaim := { program := "ytapjobndmmkanaa", sum := "e7a6e9aa4b3f2dbd298088b75f72170e3c41459f2bbe34135356f483d683dc45", func := "wireloom/wireloomlaw21.NetlistDepth", spec := "netlistDepth", unfollowed := true, recurses := true, plainKeys := false, apart := false, narrowed := true }
def NetlistDepthUptoSaid : Prop := netlistDepthUptoRow.holds Try.pinned (OpenSpec.upto netlistDepthSpec)

end Rows
end Go.Proofs.Ytapjobndmmkanaa
