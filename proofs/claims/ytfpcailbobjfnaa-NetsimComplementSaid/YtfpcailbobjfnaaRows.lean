/-
  No cell of these rows narrows 'for every input' (looked for: loops, veiled, ifaces, maps, wideKeys, modest, calm, conditions, laid).
  DERIVED. THE GIVEN ROWS OF THIS SEAT. 5 by the template 'for every input the law returns true; each argument reads behind the call as it read before'; 0 by the template 'total and deterministic' (their statements: YtfpcailbobjfnaaTotals.lean).
  GIVEN WITH THE SEED: the statements are not yours to turn. If you find one false, say at which input.
  Laid BY PROGRAM, IN A SANDBOX (cutbox-rows.mjs): the forced cells as the released guide's own fill.sh prints them over the translation 926249bdd17d2bc1… (all of the seat's roots in one cut). By AI agents, Wed Nov 11 2026. No macro, syntax, notation, axiom, sorry.
-/
import Derived.Test.YtfpcailbobjfnaaChecked
import GoSem.Claim
import GoSem.ClaimJoined
import GoSem.ClaimMapViews
import Derived.JoinedTies
import Derived.KernelRfl
namespace Go.Proofs.Ytfpcailbobjfnaa
/- THE CELL 'sum', in the pinned program and in every row, IS THE sha256 OF THE DUMP (.gsa) THAT YtfpcailbobjfnaaProg.lean LOADS. Nothing in Lean hashes anything: it is a label: what it is worth is what the hold of that sum in a sandbox is worth. -/
noncomputable def Try.pinned : Pinned := { name := "ytfpcailbobjfnaa", sum := "926249bdd17d2bc172c49ce22807945d0cdf5e51162b12d8e58f6fc3c2408888", checked := Try.checked }
namespace Rows
def none {H : Type} : Left H := { results := [], args := [] }

/-- 'wireloomlaw22.NetsimMatchesReference': WHATEVER THE INPUT: true; the input reads as it did. -/
def netsimMatchesReferenceSpec : ChangeSpec := { name := "netsimMatchesReference", fn := fun _ => fun
  | [d1, d2, d3] => { results := [.lit (.bool true)], args := [d1, d2, d3] }
  | _ => none }
def netsimMatchesReferenceRow : OpenClaim := { program := "ytfpcailbobjfnaa", sum := "926249bdd17d2bc172c49ce22807945d0cdf5e51162b12d8e58f6fc3c2408888", func := "wireloom/wireloomlaw22.NetsimMatchesReference", spec := "netsimMatchesReference", unfollowed := true, recurses := true, plainKeys := false, apart := false }
def NetsimMatchesReferenceSaid : Prop := netsimMatchesReferenceRow.holds Try.pinned (OpenSpec.ofChange netsimMatchesReferenceSpec)

/-- ITS FALSE NEIGHBOUR: 'it returns false'. Refute it at one input. -/
def netsimMatchesReferenceWrong : ChangeSpec := { name := "netsimMatchesReference", fn := fun _ => fun
  | [d1, d2, d3] => { results := [.lit (.bool false)], args := [d1, d2, d3] }
  | _ => none }
def NetsimMatchesReferenceWrongFalsely : Prop := netsimMatchesReferenceRow.holds Try.pinned (OpenSpec.ofChange netsimMatchesReferenceWrong)

/-- 'wireloomlaw22.NetsimGates': WHATEVER THE INPUT: true; the input reads as it did. -/
def netsimGatesSpec : ChangeSpec := { name := "netsimGates", fn := fun _ => fun
  | [d1, d2] => { results := [.lit (.bool true)], args := [d1, d2] }
  | _ => none }
def netsimGatesRow : OpenClaim := { program := "ytfpcailbobjfnaa", sum := "926249bdd17d2bc172c49ce22807945d0cdf5e51162b12d8e58f6fc3c2408888", func := "wireloom/wireloomlaw22.NetsimGates", spec := "netsimGates", unfollowed := true, recurses := true, plainKeys := false, apart := false }
def NetsimGatesSaid : Prop := netsimGatesRow.holds Try.pinned (OpenSpec.ofChange netsimGatesSpec)

/-- ITS FALSE NEIGHBOUR: 'it returns false'. Refute it at one input. -/
def netsimGatesWrong : ChangeSpec := { name := "netsimGates", fn := fun _ => fun
  | [d1, d2] => { results := [.lit (.bool false)], args := [d1, d2] }
  | _ => none }
def NetsimGatesWrongFalsely : Prop := netsimGatesRow.holds Try.pinned (OpenSpec.ofChange netsimGatesWrong)

/-- 'wireloomlaw22.NetsimCones': WHATEVER THE INPUT: true; the input reads as it did. -/
def netsimConesSpec : ChangeSpec := { name := "netsimCones", fn := fun _ => fun
  | [d1, d2] => { results := [.lit (.bool true)], args := [d1, d2] }
  | _ => none }
def netsimConesRow : OpenClaim := { program := "ytfpcailbobjfnaa", sum := "926249bdd17d2bc172c49ce22807945d0cdf5e51162b12d8e58f6fc3c2408888", func := "wireloom/wireloomlaw22.NetsimCones", spec := "netsimCones", unfollowed := true, recurses := true, plainKeys := false, apart := false }
def NetsimConesSaid : Prop := netsimConesRow.holds Try.pinned (OpenSpec.ofChange netsimConesSpec)

/-- ITS FALSE NEIGHBOUR: 'it returns false'. Refute it at one input. -/
def netsimConesWrong : ChangeSpec := { name := "netsimCones", fn := fun _ => fun
  | [d1, d2] => { results := [.lit (.bool false)], args := [d1, d2] }
  | _ => none }
def NetsimConesWrongFalsely : Prop := netsimConesRow.holds Try.pinned (OpenSpec.ofChange netsimConesWrong)

/-- 'wireloomlaw22.NetsimComplement': WHATEVER THE INPUT: true; the input reads as it did. -/
def netsimComplementSpec : ChangeSpec := { name := "netsimComplement", fn := fun _ => fun
  | [d1, d2] => { results := [.lit (.bool true)], args := [d1, d2] }
  | _ => none }
def netsimComplementRow : OpenClaim := { program := "ytfpcailbobjfnaa", sum := "926249bdd17d2bc172c49ce22807945d0cdf5e51162b12d8e58f6fc3c2408888", func := "wireloom/wireloomlaw22.NetsimComplement", spec := "netsimComplement", unfollowed := true, recurses := true, plainKeys := false, apart := false }
def NetsimComplementSaid : Prop := netsimComplementRow.holds Try.pinned (OpenSpec.ofChange netsimComplementSpec)

/-- ITS FALSE NEIGHBOUR: 'it returns false'. Refute it at one input. -/
def netsimComplementWrong : ChangeSpec := { name := "netsimComplement", fn := fun _ => fun
  | [d1, d2] => { results := [.lit (.bool false)], args := [d1, d2] }
  | _ => none }
def NetsimComplementWrongFalsely : Prop := netsimComplementRow.holds Try.pinned (OpenSpec.ofChange netsimComplementWrong)

/-- 'wireloomlaw22.NetsimShape': WHATEVER THE INPUT: true; the input reads as it did. -/
def netsimShapeSpec : ChangeSpec := { name := "netsimShape", fn := fun _ => fun
  | [d1, d2] => { results := [.lit (.bool true)], args := [d1, d2] }
  | _ => none }
def netsimShapeRow : OpenClaim := { program := "ytfpcailbobjfnaa", sum := "926249bdd17d2bc172c49ce22807945d0cdf5e51162b12d8e58f6fc3c2408888", func := "wireloom/wireloomlaw22.NetsimShape", spec := "netsimShape", unfollowed := true, recurses := true, plainKeys := false, apart := false }
def NetsimShapeSaid : Prop := netsimShapeRow.holds Try.pinned (OpenSpec.ofChange netsimShapeSpec)

/-- ITS FALSE NEIGHBOUR: 'it returns false'. Refute it at one input. -/
def netsimShapeWrong : ChangeSpec := { name := "netsimShape", fn := fun _ => fun
  | [d1, d2] => { results := [.lit (.bool false)], args := [d1, d2] }
  | _ => none }
def NetsimShapeWrongFalsely : Prop := netsimShapeRow.holds Try.pinned (OpenSpec.ofChange netsimShapeWrong)

/- THE SECOND FORM. 'bulk': how many values and letters a reading holds, each counted each time it is reached (what is shared counts as often as it is met; a slice's spare places count too). A statement '..UptoSaid' is the law's where the arguments, and the package variables that the reading takes, are together of bulk at most 1048576: NARROWER than '..Said'. Prove '..Said' where nothing that the law and all that it calls make is longer than what came in: it says more and counts as full. Else prove '..UptoSaid'. A law counts once. -/
mutual
def uptoBulk {H : Type} : DataW H → Nat
  | .lit (.string bytes) => bytes.length + 1
  | .lit _ => 1
  | .nil => 1
  | .ptr d => uptoBulk d + 1
  | .slice elems spare => uptoBulkAll elems + uptoBulkAll spare + 1
  | .agg parts => uptoBulkAll parts + 1
  | .iface _ d => uptoBulk d + 1
  | .map entries => uptoBulkEntries entries + 1
  | .held _ => 1
def uptoBulkAll {H : Type} : List (DataW H) → Nat
  | [] => 0
  | d :: r => uptoBulk d + uptoBulkAll r
def uptoBulkEntries {H : Type} : List (Lit × DataW H) → Nat
  | [] => 0
  | x :: r => uptoBulkEntry x + uptoBulkEntries r
def uptoBulkEntry {H : Type} : Lit × DataW H → Nat
  | (.string bytes, d) => bytes.length + uptoBulk d + 1
  | (_, d) => uptoBulk d + 1
 end
def uptoSmall : (H : Type) → List (DataW H) → Bool := fun _ ds => decide (uptoBulkAll ds ≤ 1048576)
def OpenSpec.upto (s : _root_.Go.ChangeSpec) : _root_.Go.OpenSpec := { _root_.Go.OpenSpec.ofChange s with cond := some uptoSmall }

/-- 'wireloomlaw22.NetsimMatchesReference', WHERE WHAT IT READS IS OF BULK AT MOST 1048576: true; the input reads as it did. -/
def netsimMatchesReferenceUptoRow : OpenClaim := { program := "ytfpcailbobjfnaa", sum := "926249bdd17d2bc172c49ce22807945d0cdf5e51162b12d8e58f6fc3c2408888", func := "wireloom/wireloomlaw22.NetsimMatchesReference", spec := "netsimMatchesReference", unfollowed := true, recurses := true, plainKeys := false, apart := false, narrowed := true }
def NetsimMatchesReferenceUptoSaid : Prop := netsimMatchesReferenceUptoRow.holds Try.pinned (OpenSpec.upto netsimMatchesReferenceSpec)

/-- 'wireloomlaw22.NetsimGates', WHERE WHAT IT READS IS OF BULK AT MOST 1048576: true; the input reads as it did. -/
def netsimGatesUptoRow : OpenClaim := { program := "ytfpcailbobjfnaa", sum := "926249bdd17d2bc172c49ce22807945d0cdf5e51162b12d8e58f6fc3c2408888", func := "wireloom/wireloomlaw22.NetsimGates", spec := "netsimGates", unfollowed := true, recurses := true, plainKeys := false, apart := false, narrowed := true }
def NetsimGatesUptoSaid : Prop := netsimGatesUptoRow.holds Try.pinned (OpenSpec.upto netsimGatesSpec)

/-- 'wireloomlaw22.NetsimCones', WHERE WHAT IT READS IS OF BULK AT MOST 1048576: true; the input reads as it did. -/
def netsimConesUptoRow : OpenClaim := { program := "ytfpcailbobjfnaa", sum := "926249bdd17d2bc172c49ce22807945d0cdf5e51162b12d8e58f6fc3c2408888", func := "wireloom/wireloomlaw22.NetsimCones", spec := "netsimCones", unfollowed := true, recurses := true, plainKeys := false, apart := false, narrowed := true }
def NetsimConesUptoSaid : Prop := netsimConesUptoRow.holds Try.pinned (OpenSpec.upto netsimConesSpec)

/-- 'wireloomlaw22.NetsimComplement', WHERE WHAT IT READS IS OF BULK AT MOST 1048576: true; the input reads as it did. -/
def netsimComplementUptoRow : OpenClaim := { program := "ytfpcailbobjfnaa", sum := "926249bdd17d2bc172c49ce22807945d0cdf5e51162b12d8e58f6fc3c2408888", func := "wireloom/wireloomlaw22.NetsimComplement", spec := "netsimComplement", unfollowed := true, recurses := true, plainKeys := false, apart := false, narrowed := true }
def NetsimComplementUptoSaid : Prop := netsimComplementUptoRow.holds Try.pinned (OpenSpec.upto netsimComplementSpec)

/-- 'wireloomlaw22.NetsimShape', WHERE WHAT IT READS IS OF BULK AT MOST 1048576: true; the input reads as it did. -/
def netsimShapeUptoRow : OpenClaim := { program := "ytfpcailbobjfnaa", sum := "926249bdd17d2bc172c49ce22807945d0cdf5e51162b12d8e58f6fc3c2408888", func := "wireloom/wireloomlaw22.NetsimShape", spec := "netsimShape", unfollowed := true, recurses := true, plainKeys := false, apart := false, narrowed := true }
def NetsimShapeUptoSaid : Prop := netsimShapeUptoRow.holds Try.pinned (OpenSpec.upto netsimShapeSpec)

end Rows
end Go.Proofs.Ytfpcailbobjfnaa
