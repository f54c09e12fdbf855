/- What the listed table gives the walks of this seat; and the words that the rows' proofs share. -/
import Derived.Test.YtfpodjfdmfobkaaDoorRows
import Derived.Test.YtfpodjfdmfobkaaDoorWg
import Derived.ProofKit
import Derived.LaidMore
import Derived.OpenShut
import Derived.Lib.LaidTab
import Derived.Stop.Joined
namespace Go.Proofs.YtfpodjfdmfobkaaDoor
open Go.ChangeShapes Go.WideShapes Go.ChangeAt Go.RowKit
open Go
theorem own : ownKnob Tryd.prog.godebug = none := by kernel_rfl
theorem gTab : Tryd.prog.globalNamed "math/bits.deBruijn64tab" = some 0 := by kernel_rfl
theorem tTab : (Tryd.prog.globals[0]?).map (·.type) = some 53 := by kernel_rfl
def laidL : List (String × DataW Unit) := [("math/bits.deBruijn64tab", Rows.laid_math_bits_deBruijn64tab)]
theorem door_met (os : Os) (args : Array Value) : laidMetH Tryd.prog laidL ((World.doorLaid Tryd.prog 400 os).forCall (fun _ _ => 0) ⟨#[], args, []⟩).memory :=
  laidMetH_of_parts3 (fuel := 8) (laidMet_of_run' 8 (by kernel_rfl) (by kernel_rfl)) (by kernel_rfl) (by kernel_rfl)
def tabZ : List Int := Lib.deBruijn64tab.map fun (k : Nat) => (k : Int)
theorem datum : (Rows.laid_math_bits_deBruijn64tab : DataW Unit) = Lib.tabData .u8 tabZ := by kernel_rfl
theorem tab_at {W : World} (h : laidMetH Tryd.prog laidL W) : TabAt Lib.deBruijn64tab W := by
  rw [MakeChecks.laidMetH_plain _ _ _ (by kernel_rfl)] at h
  unfold laidL at h
  rw [datum] at h
  have hT := Lib.tabIs_of_head gTab tTab Tryd.underlying53 Tryd.underlying5 (by kernel_rfl) (by kernel_rfl) h
  intro j hj
  have hc := hT.cell gTab j (by simpa [tabZ] using hj)
  rw [hc]
  simp [tabZ, List.getD_eq_getElem?_getD, hj]
theorem u64_lt {a : Int} (h : (Lit.int .u64 a).wf = true) : a.toNat < 18446744073709551616 := by
  have := bounds_u64 h; omega
theorem u8_lt {a : Int} (h : (Lit.int .u8 a).wf = true) : a.toNat < 256 := by
  have := bounds_u8 h; omega
theorem u64_back {a : Int} (h : (Lit.int .u64 a).wf = true) : ((a.toNat : Nat) : Int) = a := by
  have := bounds_u64 h; omega
theorem u8_back {a : Int} (h : (Lit.int .u8 a).wf = true) : ((a.toNat : Nat) : Int) = a := by
  have := bounds_u8 h; omega
end Go.Proofs.YtfpodjfdmfobkaaDoor
