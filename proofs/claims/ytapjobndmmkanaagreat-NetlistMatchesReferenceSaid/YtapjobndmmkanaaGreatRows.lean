/-
  No cell of these rows narrows 'for every input' (looked for: loops, veiled, ifaces, maps, wideKeys, modest, calm, conditions, laid).
  DERIVED. THE GIVEN ROWS OF THIS SEAT. 5 by the template 'for every input the law returns true; each argument reads behind the call as it read before'; 0 by the template 'total and deterministic' (their statements: YtapjobndmmkanaaGreatTotals.lean).
  GIVEN WITH THE SEED: the statements are not yours to turn. If you find one false, say at which input.
  Laid BY PROGRAM, IN A SANDBOX (cutbox-rows.mjs): the forced cells as the released guide's own fill.sh prints them over the translation 740be84fec07b13d… (all of the seat's roots in one cut). By AI agents, Wed Nov 11 2026. No macro, syntax, notation, axiom, sorry.
-/
import Derived.Test.YtapjobndmmkanaaGreatChecked
import GoSem.Claim
import GoSem.ClaimJoined
import GoSem.ClaimMapViews
import Derived.JoinedTies
import Derived.KernelRfl
namespace Go.Proofs.YtapjobndmmkanaaGreat
/- THE CELL 'sum', in the pinned program and in every row, IS THE sha256 OF THE DUMP (.gsa) THAT YtapjobndmmkanaaGreatProg.lean LOADS. Nothing in Lean hashes anything: it is a label: what it is worth is what the hold of that sum in a sandbox is worth. -/
noncomputable def Tryz.pinned : Pinned := { name := "ytapjobndmmkanaagreat", sum := "740be84fec07b13ded8e3c852fdabd12bc21b8c6bbb178066a65f9984420c3fc", checked := Tryz.checked }
namespace Rows
def none {H : Type} : Left H := { results := [], args := [] }

/-- 'wireloomlaw21.NetlistMatchesReference': WHATEVER THE INPUT: true; the input reads as it did. -/
def netlistMatchesReferenceSpec : ChangeSpec := { name := "netlistMatchesReference", fn := fun _ => fun
  | [d1, d2, d3] => { results := [.lit (.bool true)], args := [d1, d2, d3] }
  | _ => none }
def netlistMatchesReferenceRow : OpenClaim := { program := "ytapjobndmmkanaagreat", sum := "740be84fec07b13ded8e3c852fdabd12bc21b8c6bbb178066a65f9984420c3fc", func := "wireloom/wireloomlaw21.NetlistMatchesReference", spec := "netlistMatchesReference", unfollowed := true, recurses := true, plainKeys := false, apart := false }
def NetlistMatchesReferenceSaid : Prop := netlistMatchesReferenceRow.holds Tryz.pinned (OpenSpec.ofChange netlistMatchesReferenceSpec)

/-- ITS FALSE NEIGHBOUR: 'it returns false'. Refute it at one input. -/
def netlistMatchesReferenceWrong : ChangeSpec := { name := "netlistMatchesReference", fn := fun _ => fun
  | [d1, d2, d3] => { results := [.lit (.bool false)], args := [d1, d2, d3] }
  | _ => none }
def NetlistMatchesReferenceWrongFalsely : Prop := netlistMatchesReferenceRow.holds Tryz.pinned (OpenSpec.ofChange netlistMatchesReferenceWrong)

/-- 'wireloomlaw21.NetlistMeaning': WHATEVER THE INPUT: true; the input reads as it did. -/
def netlistMeaningSpec : ChangeSpec := { name := "netlistMeaning", fn := fun _ => fun
  | [d1, d2] => { results := [.lit (.bool true)], args := [d1, d2] }
  | _ => none }
def netlistMeaningRow : OpenClaim := { program := "ytapjobndmmkanaagreat", sum := "740be84fec07b13ded8e3c852fdabd12bc21b8c6bbb178066a65f9984420c3fc", func := "wireloom/wireloomlaw21.NetlistMeaning", spec := "netlistMeaning", unfollowed := true, recurses := true, plainKeys := false, apart := false }
def NetlistMeaningSaid : Prop := netlistMeaningRow.holds Tryz.pinned (OpenSpec.ofChange netlistMeaningSpec)

/-- ITS FALSE NEIGHBOUR: 'it returns false'. Refute it at one input. -/
def netlistMeaningWrong : ChangeSpec := { name := "netlistMeaning", fn := fun _ => fun
  | [d1, d2] => { results := [.lit (.bool false)], args := [d1, d2] }
  | _ => none }
def NetlistMeaningWrongFalsely : Prop := netlistMeaningRow.holds Tryz.pinned (OpenSpec.ofChange netlistMeaningWrong)

/-- 'wireloomlaw22.NetsimTranslation': WHATEVER THE INPUT: true; the input reads as it did. -/
def netsimTranslationSpec : ChangeSpec := { name := "netsimTranslation", fn := fun _ => fun
  | [d1, d2, d3] => { results := [.lit (.bool true)], args := [d1, d2, d3] }
  | _ => none }
def netsimTranslationRow : OpenClaim := { program := "ytapjobndmmkanaagreat", sum := "740be84fec07b13ded8e3c852fdabd12bc21b8c6bbb178066a65f9984420c3fc", func := "wireloom/wireloomlaw22.NetsimTranslation", spec := "netsimTranslation", unfollowed := true, recurses := true, plainKeys := false, apart := false }
def NetsimTranslationSaid : Prop := netsimTranslationRow.holds Tryz.pinned (OpenSpec.ofChange netsimTranslationSpec)

/-- ITS FALSE NEIGHBOUR: 'it returns false'. Refute it at one input. -/
def netsimTranslationWrong : ChangeSpec := { name := "netsimTranslation", fn := fun _ => fun
  | [d1, d2, d3] => { results := [.lit (.bool false)], args := [d1, d2, d3] }
  | _ => none }
def NetsimTranslationWrongFalsely : Prop := netsimTranslationRow.holds Tryz.pinned (OpenSpec.ofChange netsimTranslationWrong)

/-- 'wireloomlaw24.EquivalenceMatchesReference': WHATEVER THE INPUT: true; the input reads as it did. -/
def equivalenceMatchesReferenceSpec : ChangeSpec := { name := "equivalenceMatchesReference", fn := fun _ => fun
  | [d1, d2, d3] => { results := [.lit (.bool true)], args := [d1, d2, d3] }
  | _ => none }
def equivalenceMatchesReferenceRow : OpenClaim := { program := "ytapjobndmmkanaagreat", sum := "740be84fec07b13ded8e3c852fdabd12bc21b8c6bbb178066a65f9984420c3fc", func := "wireloom/wireloomlaw24.EquivalenceMatchesReference", spec := "equivalenceMatchesReference", unfollowed := true, recurses := true, plainKeys := false, apart := false }
def EquivalenceMatchesReferenceSaid : Prop := equivalenceMatchesReferenceRow.holds Tryz.pinned (OpenSpec.ofChange equivalenceMatchesReferenceSpec)

/-- ITS FALSE NEIGHBOUR: 'it returns false'. Refute it at one input. -/
def equivalenceMatchesReferenceWrong : ChangeSpec := { name := "equivalenceMatchesReference", fn := fun _ => fun
  | [d1, d2, d3] => { results := [.lit (.bool false)], args := [d1, d2, d3] }
  | _ => none }
def EquivalenceMatchesReferenceWrongFalsely : Prop := equivalenceMatchesReferenceRow.holds Tryz.pinned (OpenSpec.ofChange equivalenceMatchesReferenceWrong)

/-- 'wireloomlaw24.EquivalenceProcesses': WHATEVER THE INPUT: true; the input reads as it did. -/
def equivalenceProcessesSpec : ChangeSpec := { name := "equivalenceProcesses", fn := fun _ => fun
  | [d1, d2, d3] => { results := [.lit (.bool true)], args := [d1, d2, d3] }
  | _ => none }
def equivalenceProcessesRow : OpenClaim := { program := "ytapjobndmmkanaagreat", sum := "740be84fec07b13ded8e3c852fdabd12bc21b8c6bbb178066a65f9984420c3fc", func := "wireloom/wireloomlaw24.EquivalenceProcesses", spec := "equivalenceProcesses", unfollowed := true, recurses := true, plainKeys := false, apart := false }
def EquivalenceProcessesSaid : Prop := equivalenceProcessesRow.holds Tryz.pinned (OpenSpec.ofChange equivalenceProcessesSpec)

/-- ITS FALSE NEIGHBOUR: 'it returns false'. Refute it at one input. -/
def equivalenceProcessesWrong : ChangeSpec := { name := "equivalenceProcesses", fn := fun _ => fun
  | [d1, d2, d3] => { results := [.lit (.bool false)], args := [d1, d2, d3] }
  | _ => none }
def EquivalenceProcessesWrongFalsely : Prop := equivalenceProcessesRow.holds Tryz.pinned (OpenSpec.ofChange equivalenceProcessesWrong)

/- THE SECOND FORM. 'bulk': how many values and letters a reading holds, each counted each time it is reached (what is shared counts as often as it is met; a slice's spare places count too). A statement '..UptoSaid' is the law's where the arguments, and the package variables that the reading takes, are together of bulk at most 1048576: NARROWER than '..Said'. Prove '..Said' where nothing that the law and all that it calls make is longer than what came in: it says more and counts as full. Else prove '..UptoSaid'. A law counts once. -/
mutual
def uptoBulk {H : Type} : DataW H → Nat
  | .lit (.string bytes) => bytes.length + 1
  | .lit _ => 1
  | .nil => 1
  | .ptr d => uptoBulk d + 1
  | .slice elems spare => uptoBulkAll elems + uptoBulkAll spare + 1
  | .agg parts => uptoBulkAll parts + 1
  | .iface _ d => uptoBulk d + 1
  | .map entries => uptoBulkEntries entries + 1
  | .held _ => 1
def uptoBulkAll {H : Type} : List (DataW H) → Nat
  | [] => 0
  | d :: r => uptoBulk d + uptoBulkAll r
def uptoBulkEntries {H : Type} : List (Lit × DataW H) → Nat
  | [] => 0
  | x :: r => uptoBulkEntry x + uptoBulkEntries r
def uptoBulkEntry {H : Type} : Lit × DataW H → Nat
  | (.string bytes, d) => bytes.length + uptoBulk d + 1
  | (_, d) => uptoBulk d + 1
 end
def uptoSmall : (H : Type) → List (DataW H) → Bool := fun _ ds => decide (uptoBulkAll ds ≤ 1048576)
def OpenSpec.upto (s : _root_.Go.ChangeSpec) : _root_.Go.OpenSpec := { _root_.Go.OpenSpec.ofChange s with cond := some uptoSmall }

/-- 'wireloomlaw21.NetlistMatchesReference', WHERE WHAT IT READS IS OF BULK AT MOST 1048576: true; the input reads as it did. -/
def netlistMatchesReferenceUptoRow : OpenClaim := { program := "ytapjobndmmkanaagreat", sum := "740be84fec07b13ded8e3c852fdabd12bc21b8c6bbb178066a65f9984420c3fc", func := "wireloom/wireloomlaw21.NetlistMatchesReference", spec := "netlistMatchesReference", unfollowed := true, recurses := true, plainKeys := false, apart := false, narrowed := true }
def NetlistMatchesReferenceUptoSaid : Prop := netlistMatchesReferenceUptoRow.holds Tryz.pinned (OpenSpec.upto netlistMatchesReferenceSpec)

/-- 'wireloomlaw21.NetlistMeaning', WHERE WHAT IT READS IS OF BULK AT MOST 1048576: true; the input reads as it did. -/
def netlistMeaningUptoRow : OpenClaim := { program := "ytapjobndmmkanaagreat", sum := "740be84fec07b13ded8e3c852fdabd12bc21b8c6bbb178066a65f9984420c3fc", func := "wireloom/wireloomlaw21.NetlistMeaning", spec := "netlistMeaning", unfollowed := true, recurses := true, plainKeys := false, apart := false, narrowed := true }
def NetlistMeaningUptoSaid : Prop := netlistMeaningUptoRow.holds Tryz.pinned (OpenSpec.upto netlistMeaningSpec)

/-- 'wireloomlaw22.NetsimTranslation', WHERE WHAT IT READS IS OF BULK AT MOST 1048576: true; the input reads as it did. -/
def netsimTranslationUptoRow : OpenClaim := { program := "ytapjobndmmkanaagreat", sum := "740be84fec07b13ded8e3c852fdabd12bc21b8c6bbb178066a65f9984420c3fc", func := "wireloom/wireloomlaw22.NetsimTranslation", spec := "netsimTranslation", unfollowed := true, recurses := true, plainKeys := false, apart := false, narrowed := true }
def NetsimTranslationUptoSaid : Prop := netsimTranslationUptoRow.holds Tryz.pinned (OpenSpec.upto netsimTranslationSpec)

/-- 'wireloomlaw24.EquivalenceMatchesReference', WHERE WHAT IT READS IS OF BULK AT MOST 1048576: true; the input reads as it did. -/
def equivalenceMatchesReferenceUptoRow : OpenClaim := { program := "ytapjobndmmkanaagreat", sum := "740be84fec07b13ded8e3c852fdabd12bc21b8c6bbb178066a65f9984420c3fc", func := "wireloom/wireloomlaw24.EquivalenceMatchesReference", spec := "equivalenceMatchesReference", unfollowed := true, recurses := true, plainKeys := false, apart := false, narrowed := true }
def EquivalenceMatchesReferenceUptoSaid : Prop := equivalenceMatchesReferenceUptoRow.holds Tryz.pinned (OpenSpec.upto equivalenceMatchesReferenceSpec)

/-- 'wireloomlaw24.EquivalenceProcesses', WHERE WHAT IT READS IS OF BULK AT MOST 1048576: true; the input reads as it did. -/
def equivalenceProcessesUptoRow : OpenClaim := { program := "ytapjobndmmkanaagreat", sum := "740be84fec07b13ded8e3c852fdabd12bc21b8c6bbb178066a65f9984420c3fc", func := "wireloom/wireloomlaw24.EquivalenceProcesses", spec := "equivalenceProcesses", unfollowed := true, recurses := true, plainKeys := false, apart := false, narrowed := true }
def EquivalenceProcessesUptoSaid : Prop := equivalenceProcessesUptoRow.holds Tryz.pinned (OpenSpec.upto equivalenceProcessesSpec)

end Rows
end Go.Proofs.YtapjobndmmkanaaGreat
