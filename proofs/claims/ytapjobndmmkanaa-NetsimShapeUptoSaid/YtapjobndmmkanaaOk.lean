/- Keys of the maps: structs of whole numbers. -/
import Derived.Test.YtapjobndmmkanaaTy
import Derived.Test.YtapjobndmmkanaaAV
import Derived.Test.YtapjobndmmkanaaDa
set_option linter.unusedVariables false
set_option linter.unusedSimpArgs false
namespace Go.Proofs.Ytapjobndmmkanaa
open Go Go.RowKit
theorem jfd {n : Int} (h : I64 n) : (Lit.int .i64 n).wf = true := by
 obtain ⟨h1, h2⟩ := h
 simp [Lit.wf]; exact ⟨h1, by omega⟩
theorem zki {P : Program} {e : TypeId} (hu : P.underlying e = some (.int .i64)) {n : Int} (hn : I64 n) (d : Nat) : P.keyLits (d + 1) e [.int .i64 n] = some [.int .i64 n] := by
 simp [Program.keyLits, hu, jfd hn]
theorem zpj {n : Nat} (h : Nat.ble 1 n = true) : ∃ d, n = d + 1 := ⟨n - 1, by have := Nat.le_of_ble_eq_true h; omega⟩
theorem zim {n : Int} (h0 : -1000000000000 ≤ n) (h1 : n ≤ 1000000000000) : I64 n := ⟨by omega, by omega⟩
def eV (a b : Int) : Value := .agg #[.int .i64 a, .int .i64 b]
theorem zzm {a b a' b' : Int} (h : eV a b = eV a' b') : a = a' ∧ b = b' := by
 unfold eV at h
 injection h with h
 have h' := congrArg Array.toList h
 simpa using h'
theorem zl5 {a b : Int} (ha : I64 a) (hb : I64 b) : zjh Try.prog 131 (.agg #[.int .i64 a, .int .i64 b]) := by
 refine ⟨rfl, fun kt et hm => ?_⟩
 have h0 : zec Try.prog 131 = some (134, 4) := by kernel_rfl
 rw [h0] at hm; cases hm
 obtain ⟨nn, hnn⟩ : ∃ nn, Try.prog.types.size = nn + 1 := zpj (by kernel_rfl)
 have h1 : Try.prog.keyType 134 = true := by kernel_rfl
 have h2 : Try.prog.cellsOf 134 = 2 := by kernel_rfl
 have h3 : Try.prog.cellsOf 3 = 1 := by kernel_rfl
 unfold keyOf
 rw [Try.underlying134]
 have h4 : Value.formed Try.prog 134 (.agg #[.int .i64 a, .int .i64 b]) = true := by
  unfold Value.formed
  simp only [Try.underlying134, h2]; rfl
 simp only [h1, h4, Bool.and_self, if_true, hnn]
 unfold Program.keyLits
 simp only [Try.underlying134, h2, h3, Value.cells, List.mapM_cons, List.mapM_nil, List.drop_zero, List.drop_succ_cons, List.take_succ_cons, List.take_zero, zki Try.underlying3 ha, zki Try.underlying3 hb]
 rw [if_pos ⟨rfl, by first | rfl | decide | simp⟩]; rfl
theorem zin {a b : Int} (ha : I64 a) (hb : I64 b) : zjh Try.prog 132 (.agg #[.int .i64 a, .int .i64 b]) := by
 refine ⟨rfl, fun kt et hm => ?_⟩
 have h0 : zec Try.prog 132 = some (134, 3) := by kernel_rfl
 rw [h0] at hm; cases hm
 obtain ⟨nn, hnn⟩ : ∃ nn, Try.prog.types.size = nn + 1 := zpj (by kernel_rfl)
 have h1 : Try.prog.keyType 134 = true := by kernel_rfl
 have h2 : Try.prog.cellsOf 134 = 2 := by kernel_rfl
 have h3 : Try.prog.cellsOf 3 = 1 := by kernel_rfl
 unfold keyOf
 rw [Try.underlying134]
 have h4 : Value.formed Try.prog 134 (.agg #[.int .i64 a, .int .i64 b]) = true := by
  unfold Value.formed
  simp only [Try.underlying134, h2]; rfl
 simp only [h1, h4, Bool.and_self, if_true, hnn]
 unfold Program.keyLits
 simp only [Try.underlying134, h2, h3, Value.cells, List.mapM_cons, List.mapM_nil, List.drop_zero, List.drop_succ_cons, List.take_succ_cons, List.take_zero, zki Try.underlying3 ha, zki Try.underlying3 hb]
 rw [if_pos ⟨rfl, by first | rfl | decide | simp⟩]; rfl
end Go.Proofs.Ytapjobndmmkanaa
