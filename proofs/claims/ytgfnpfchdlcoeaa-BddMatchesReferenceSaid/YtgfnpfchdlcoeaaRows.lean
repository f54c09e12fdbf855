/-
  No cell of these rows narrows 'for every input' (looked for: loops, veiled, ifaces, maps, wideKeys, modest, calm, conditions, laid).
  DERIVED. THE GIVEN ROWS OF THIS SEAT. 7 by the template 'for every input the law returns true; each argument reads behind the call as it read before'; 0 by the template 'total and deterministic' (their statements: YtgfnpfchdlcoeaaTotals.lean).
  GIVEN WITH THE SEED: the statements are not yours to turn. If you find one false, say at which input.
  Laid BY PROGRAM, IN A SANDBOX (cutbox-rows.mjs): the forced cells as the released guide's own fill.sh prints them over the translation ce71c7fd2f521008… (all of the seat's roots in one cut). By AI agents, Wed Nov 11 2026. No macro, syntax, notation, axiom, sorry.
-/
import Derived.Test.YtgfnpfchdlcoeaaChecked
import GoSem.Claim
import GoSem.ClaimJoined
import GoSem.ClaimMapViews
import Derived.JoinedTies
import Derived.KernelRfl
namespace Go.Proofs.Ytgfnpfchdlcoeaa
/- THE CELL 'sum', in the pinned program and in every row, IS THE sha256 OF THE DUMP (.gsa) THAT YtgfnpfchdlcoeaaProg.lean LOADS. Nothing in Lean hashes anything: it is a label: what it is worth is what the hold of that sum in a sandbox is worth. -/
noncomputable def Try.pinned : Pinned := { name := "ytgfnpfchdlcoeaa", sum := "ce71c7fd2f521008f9c2b436480d4c8c2c59f5681d26935f9156c5bb6bf0ba82", checked := Try.checked }
namespace Rows
def none {H : Type} : Left H := { results := [], args := [] }

/-- 'wireloomlaw23.BddMatchesReference': WHATEVER THE INPUT: true; the input reads as it did. -/
def bddMatchesReferenceSpec : ChangeSpec := { name := "bddMatchesReference", fn := fun _ => fun
  | [d1, d2, d3] => { results := [.lit (.bool true)], args := [d1, d2, d3] }
  | _ => none }
def bddMatchesReferenceRow : OpenClaim := { program := "ytgfnpfchdlcoeaa", sum := "ce71c7fd2f521008f9c2b436480d4c8c2c59f5681d26935f9156c5bb6bf0ba82", func := "wireloom/wireloomlaw23.BddMatchesReference", spec := "bddMatchesReference", unfollowed := true, recurses := true, plainKeys := false, apart := false }
def BddMatchesReferenceSaid : Prop := bddMatchesReferenceRow.holds Try.pinned (OpenSpec.ofChange bddMatchesReferenceSpec)

/-- ITS FALSE NEIGHBOUR: 'it returns false'. Refute it at one input. -/
def bddMatchesReferenceWrong : ChangeSpec := { name := "bddMatchesReference", fn := fun _ => fun
  | [d1, d2, d3] => { results := [.lit (.bool false)], args := [d1, d2, d3] }
  | _ => none }
def BddMatchesReferenceWrongFalsely : Prop := bddMatchesReferenceRow.holds Try.pinned (OpenSpec.ofChange bddMatchesReferenceWrong)

/-- 'wireloomlaw23.BddNumbers': WHATEVER THE INPUT: true; the input reads as it did. -/
def bddNumbersSpec : ChangeSpec := { name := "bddNumbers", fn := fun _ => fun
  | [d1, d2] => { results := [.lit (.bool true)], args := [d1, d2] }
  | _ => none }
def bddNumbersRow : OpenClaim := { program := "ytgfnpfchdlcoeaa", sum := "ce71c7fd2f521008f9c2b436480d4c8c2c59f5681d26935f9156c5bb6bf0ba82", func := "wireloom/wireloomlaw23.BddNumbers", spec := "bddNumbers", unfollowed := true, recurses := true, plainKeys := false, apart := false }
def BddNumbersSaid : Prop := bddNumbersRow.holds Try.pinned (OpenSpec.ofChange bddNumbersSpec)

/-- ITS FALSE NEIGHBOUR: 'it returns false'. Refute it at one input. -/
def bddNumbersWrong : ChangeSpec := { name := "bddNumbers", fn := fun _ => fun
  | [d1, d2] => { results := [.lit (.bool false)], args := [d1, d2] }
  | _ => none }
def BddNumbersWrongFalsely : Prop := bddNumbersRow.holds Try.pinned (OpenSpec.ofChange bddNumbersWrong)

/-- 'wireloomlaw23.BddMeans': WHATEVER THE INPUT: true; the input reads as it did. -/
def bddMeansSpec : ChangeSpec := { name := "bddMeans", fn := fun _ => fun
  | [d1, d2, d3] => { results := [.lit (.bool true)], args := [d1, d2, d3] }
  | _ => none }
def bddMeansRow : OpenClaim := { program := "ytgfnpfchdlcoeaa", sum := "ce71c7fd2f521008f9c2b436480d4c8c2c59f5681d26935f9156c5bb6bf0ba82", func := "wireloom/wireloomlaw23.BddMeans", spec := "bddMeans", unfollowed := true, recurses := true, plainKeys := false, apart := false }
def BddMeansSaid : Prop := bddMeansRow.holds Try.pinned (OpenSpec.ofChange bddMeansSpec)

/-- ITS FALSE NEIGHBOUR: 'it returns false'. Refute it at one input. -/
def bddMeansWrong : ChangeSpec := { name := "bddMeans", fn := fun _ => fun
  | [d1, d2, d3] => { results := [.lit (.bool false)], args := [d1, d2, d3] }
  | _ => none }
def BddMeansWrongFalsely : Prop := bddMeansRow.holds Try.pinned (OpenSpec.ofChange bddMeansWrong)

/-- 'wireloomlaw23.BddCanonical': WHATEVER THE INPUT: true; the input reads as it did. -/
def bddCanonicalSpec : ChangeSpec := { name := "bddCanonical", fn := fun _ => fun
  | [d1, d2] => { results := [.lit (.bool true)], args := [d1, d2] }
  | _ => none }
def bddCanonicalRow : OpenClaim := { program := "ytgfnpfchdlcoeaa", sum := "ce71c7fd2f521008f9c2b436480d4c8c2c59f5681d26935f9156c5bb6bf0ba82", func := "wireloom/wireloomlaw23.BddCanonical", spec := "bddCanonical", unfollowed := true, recurses := true, plainKeys := false, apart := false }
def BddCanonicalSaid : Prop := bddCanonicalRow.holds Try.pinned (OpenSpec.ofChange bddCanonicalSpec)

/-- ITS FALSE NEIGHBOUR: 'it returns false'. Refute it at one input. -/
def bddCanonicalWrong : ChangeSpec := { name := "bddCanonical", fn := fun _ => fun
  | [d1, d2] => { results := [.lit (.bool false)], args := [d1, d2] }
  | _ => none }
def BddCanonicalWrongFalsely : Prop := bddCanonicalRow.holds Try.pinned (OpenSpec.ofChange bddCanonicalWrong)

/-- 'wireloomlaw23.BddCounts': WHATEVER THE INPUT: true; the input reads as it did. -/
def bddCountsSpec : ChangeSpec := { name := "bddCounts", fn := fun _ => fun
  | [d1, d2, d3] => { results := [.lit (.bool true)], args := [d1, d2, d3] }
  | _ => none }
def bddCountsRow : OpenClaim := { program := "ytgfnpfchdlcoeaa", sum := "ce71c7fd2f521008f9c2b436480d4c8c2c59f5681d26935f9156c5bb6bf0ba82", func := "wireloom/wireloomlaw23.BddCounts", spec := "bddCounts", unfollowed := true, recurses := true, plainKeys := false, apart := false }
def BddCountsSaid : Prop := bddCountsRow.holds Try.pinned (OpenSpec.ofChange bddCountsSpec)

/-- ITS FALSE NEIGHBOUR: 'it returns false'. Refute it at one input. -/
def bddCountsWrong : ChangeSpec := { name := "bddCounts", fn := fun _ => fun
  | [d1, d2, d3] => { results := [.lit (.bool false)], args := [d1, d2, d3] }
  | _ => none }
def BddCountsWrongFalsely : Prop := bddCountsRow.holds Try.pinned (OpenSpec.ofChange bddCountsWrong)

/-- 'wireloomlaw23.BddFinds': WHATEVER THE INPUT: true; the input reads as it did. -/
def bddFindsSpec : ChangeSpec := { name := "bddFinds", fn := fun _ => fun
  | [d1, d2, d3] => { results := [.lit (.bool true)], args := [d1, d2, d3] }
  | _ => none }
def bddFindsRow : OpenClaim := { program := "ytgfnpfchdlcoeaa", sum := "ce71c7fd2f521008f9c2b436480d4c8c2c59f5681d26935f9156c5bb6bf0ba82", func := "wireloom/wireloomlaw23.BddFinds", spec := "bddFinds", unfollowed := true, recurses := true, plainKeys := false, apart := false }
def BddFindsSaid : Prop := bddFindsRow.holds Try.pinned (OpenSpec.ofChange bddFindsSpec)

/-- ITS FALSE NEIGHBOUR: 'it returns false'. Refute it at one input. -/
def bddFindsWrong : ChangeSpec := { name := "bddFinds", fn := fun _ => fun
  | [d1, d2, d3] => { results := [.lit (.bool false)], args := [d1, d2, d3] }
  | _ => none }
def BddFindsWrongFalsely : Prop := bddFindsRow.holds Try.pinned (OpenSpec.ofChange bddFindsWrong)

/-- 'wireloomlaw23.BddDepends': WHATEVER THE INPUT: true; the input reads as it did. -/
def bddDependsSpec : ChangeSpec := { name := "bddDepends", fn := fun _ => fun
  | [d1, d2, d3] => { results := [.lit (.bool true)], args := [d1, d2, d3] }
  | _ => none }
def bddDependsRow : OpenClaim := { program := "ytgfnpfchdlcoeaa", sum := "ce71c7fd2f521008f9c2b436480d4c8c2c59f5681d26935f9156c5bb6bf0ba82", func := "wireloom/wireloomlaw23.BddDepends", spec := "bddDepends", unfollowed := true, recurses := true, plainKeys := false, apart := false }
def BddDependsSaid : Prop := bddDependsRow.holds Try.pinned (OpenSpec.ofChange bddDependsSpec)

/-- ITS FALSE NEIGHBOUR: 'it returns false'. Refute it at one input. -/
def bddDependsWrong : ChangeSpec := { name := "bddDepends", fn := fun _ => fun
  | [d1, d2, d3] => { results := [.lit (.bool false)], args := [d1, d2, d3] }
  | _ => none }
def BddDependsWrongFalsely : Prop := bddDependsRow.holds Try.pinned (OpenSpec.ofChange bddDependsWrong)

/- THE SECOND FORM. 'bulk': how many values and letters a reading holds, each counted each time it is reached (what is shared counts as often as it is met; a slice's spare places count too). A statement '..UptoSaid' is the law's where the arguments, and the package variables that the reading takes, are together of bulk at most 1048576: NARROWER than '..Said'. Prove '..Said' where nothing that the law and all that it calls make is longer than what came in: it says more and counts as full. Else prove '..UptoSaid'. A law counts once. -/
mutual
def uptoBulk {H : Type} : DataW H → Nat
  | .lit (.string bytes) => bytes.length + 1
  | .lit _ => 1
  | .nil => 1
  | .ptr d => uptoBulk d + 1
  | .slice elems spare => uptoBulkAll elems + uptoBulkAll spare + 1
  | .agg parts => uptoBulkAll parts + 1
  | .iface _ d => uptoBulk d + 1
  | .map entries => uptoBulkEntries entries + 1
  | .held _ => 1
def uptoBulkAll {H : Type} : List (DataW H) → Nat
  | [] => 0
  | d :: r => uptoBulk d + uptoBulkAll r
def uptoBulkEntries {H : Type} : List (Lit × DataW H) → Nat
  | [] => 0
  | x :: r => uptoBulkEntry x + uptoBulkEntries r
def uptoBulkEntry {H : Type} : Lit × DataW H → Nat
  | (.string bytes, d) => bytes.length + uptoBulk d + 1
  | (_, d) => uptoBulk d + 1
 end
def uptoSmall : (H : Type) → List (DataW H) → Bool := fun _ ds => decide (uptoBulkAll ds ≤ 1048576)
def OpenSpec.upto (s : _root_.Go.ChangeSpec) : _root_.Go.OpenSpec := { _root_.Go.OpenSpec.ofChange s with cond := some uptoSmall }

/-- 'wireloomlaw23.BddMatchesReference', WHERE WHAT IT READS IS OF BULK AT MOST 1048576: true; the input reads as it did. -/
def bddMatchesReferenceUptoRow : OpenClaim := { program := "ytgfnpfchdlcoeaa", sum := "ce71c7fd2f521008f9c2b436480d4c8c2c59f5681d26935f9156c5bb6bf0ba82", func := "wireloom/wireloomlaw23.BddMatchesReference", spec := "bddMatchesReference", unfollowed := true, recurses := true, plainKeys := false, apart := false, narrowed := true }
def BddMatchesReferenceUptoSaid : Prop := bddMatchesReferenceUptoRow.holds Try.pinned (OpenSpec.upto bddMatchesReferenceSpec)

/-- 'wireloomlaw23.BddNumbers', WHERE WHAT IT READS IS OF BULK AT MOST 1048576: true; the input reads as it did. -/
def bddNumbersUptoRow : OpenClaim := { program := "ytgfnpfchdlcoeaa", sum := "ce71c7fd2f521008f9c2b436480d4c8c2c59f5681d26935f9156c5bb6bf0ba82", func := "wireloom/wireloomlaw23.BddNumbers", spec := "bddNumbers", unfollowed := true, recurses := true, plainKeys := false, apart := false, narrowed := true }
def BddNumbersUptoSaid : Prop := bddNumbersUptoRow.holds Try.pinned (OpenSpec.upto bddNumbersSpec)

/-- 'wireloomlaw23.BddMeans', WHERE WHAT IT READS IS OF BULK AT MOST 1048576: true; the input reads as it did. -/
def bddMeansUptoRow : OpenClaim := { program := "ytgfnpfchdlcoeaa", sum := "ce71c7fd2f521008f9c2b436480d4c8c2c59f5681d26935f9156c5bb6bf0ba82", func := "wireloom/wireloomlaw23.BddMeans", spec := "bddMeans", unfollowed := true, recurses := true, plainKeys := false, apart := false, narrowed := true }
def BddMeansUptoSaid : Prop := bddMeansUptoRow.holds Try.pinned (OpenSpec.upto bddMeansSpec)

/-- 'wireloomlaw23.BddCanonical', WHERE WHAT IT READS IS OF BULK AT MOST 1048576: true; the input reads as it did. -/
def bddCanonicalUptoRow : OpenClaim := { program := "ytgfnpfchdlcoeaa", sum := "ce71c7fd2f521008f9c2b436480d4c8c2c59f5681d26935f9156c5bb6bf0ba82", func := "wireloom/wireloomlaw23.BddCanonical", spec := "bddCanonical", unfollowed := true, recurses := true, plainKeys := false, apart := false, narrowed := true }
def BddCanonicalUptoSaid : Prop := bddCanonicalUptoRow.holds Try.pinned (OpenSpec.upto bddCanonicalSpec)

/-- 'wireloomlaw23.BddCounts', WHERE WHAT IT READS IS OF BULK AT MOST 1048576: true; the input reads as it did. -/
def bddCountsUptoRow : OpenClaim := { program := "ytgfnpfchdlcoeaa", sum := "ce71c7fd2f521008f9c2b436480d4c8c2c59f5681d26935f9156c5bb6bf0ba82", func := "wireloom/wireloomlaw23.BddCounts", spec := "bddCounts", unfollowed := true, recurses := true, plainKeys := false, apart := false, narrowed := true }
def BddCountsUptoSaid : Prop := bddCountsUptoRow.holds Try.pinned (OpenSpec.upto bddCountsSpec)

/-- 'wireloomlaw23.BddFinds', WHERE WHAT IT READS IS OF BULK AT MOST 1048576: true; the input reads as it did. -/
def bddFindsUptoRow : OpenClaim := { program := "ytgfnpfchdlcoeaa", sum := "ce71c7fd2f521008f9c2b436480d4c8c2c59f5681d26935f9156c5bb6bf0ba82", func := "wireloom/wireloomlaw23.BddFinds", spec := "bddFinds", unfollowed := true, recurses := true, plainKeys := false, apart := false, narrowed := true }
def BddFindsUptoSaid : Prop := bddFindsUptoRow.holds Try.pinned (OpenSpec.upto bddFindsSpec)

/-- 'wireloomlaw23.BddDepends', WHERE WHAT IT READS IS OF BULK AT MOST 1048576: true; the input reads as it did. -/
def bddDependsUptoRow : OpenClaim := { program := "ytgfnpfchdlcoeaa", sum := "ce71c7fd2f521008f9c2b436480d4c8c2c59f5681d26935f9156c5bb6bf0ba82", func := "wireloom/wireloomlaw23.BddDepends", spec := "bddDepends", unfollowed := true, recurses := true, plainKeys := false, apart := false, narrowed := true }
def BddDependsUptoSaid : Prop := bddDependsUptoRow.holds Try.pinned (OpenSpec.upto bddDependsSpec)

end Rows
end Go.Proofs.Ytgfnpfchdlcoeaa
