/- Of no program: what simp needs to carry out the run: values, conditions. -/
import Derived.Test.YtfpcailbobjfnaaAL
set_option linter.unusedVariables false
set_option linter.unusedSimpArgs false
namespace Go.Proofs.Ytfpcailbobjfnaa
open Go Go.RowKit
section
variable {P : Program} {t : TypeId} {a b : Int} {kk : IntKind}
theorem ifp {α : Type} {c : Prop} [Decidable c] {x y : α} (h : c) : (if c then x else y) = x := if_pos h
theorem ifn {α : Type} {c : Prop} [Decidable c] {x y : α} (h : ¬ c) : (if c then x else y) = y := if_neg h
theorem binF_v {op : BinOp} {u v : Value} : binF P op t (.d (.val u)) (.d (.val v)) = (binV P op t u v).map fun r => .d (.val r) := rfl
theorem v_add (h1 : -9223372036854775808 ≤ a + b) (h2 : a + b < 9223372036854775808) : binV P .add t (.int .i64 a) (.int .i64 b) = some (.int .i64 (a + b)) := by simp [binV, binI, i64w h1 h2]
theorem v_sub (h1 : -9223372036854775808 ≤ a - b) (h2 : a - b < 9223372036854775808) : binV P .sub t (.int .i64 a) (.int .i64 b) = some (.int .i64 (a - b)) := by simp [binV, binI, i64w h1 h2]
theorem v_mul (h1 : -9223372036854775808 ≤ a * b) (h2 : a * b < 9223372036854775808) : binV P .mul t (.int .i64 a) (.int .i64 b) = some (.int .i64 (a * b)) := by simp [binV, binI, i64w h1 h2]
theorem v_quo (h1 : 0 ≤ a) (h2 : 0 < b) (h3 : a < 9223372036854775808) : binV P .quo t (.int .i64 a) (.int .i64 b) = some (.int .i64 (a / b)) := by
  have := b_quo (P := P) (t := t) (KV := fun r => r = .int .i64 (a / b)) h1 h2 h3
  obtain ⟨r, hr, e⟩ := this.mpr rfl
  rw [hr, e]
theorem v_rem (h1 : 0 ≤ a) (h2 : 0 < b) : binV P .rem t (.int kk a) (.int kk b) = some (.int kk (a % b)) := by
  obtain ⟨r, hr, e⟩ := (b_rem (P := P) (t := t) (kk := kk) (KV := fun r => r = .int kk (a % b)) h1 h2).mpr rfl
  rw [hr, e]
theorem v_eql : binV P .eql t (.int kk a) (.int kk b) = some (.bool (a == b)) := by simp [binV, binI, cmpV]
theorem v_neq : binV P .neq t (.int kk a) (.int kk b) = some (.bool (a != b)) := by simp [binV, binI, cmpV]
theorem v_lss : binV P .lss t (.int kk a) (.int kk b) = some (.bool (decide (a < b))) := by simp [binV, binI, cmpV]
theorem v_leq : binV P .leq t (.int kk a) (.int kk b) = some (.bool (decide (a ≤ b))) := by simp [binV, binI, cmpV]
theorem v_gtr : binV P .gtr t (.int kk a) (.int kk b) = some (.bool (decide (b < a))) := by simp [binV, binI, cmpV]
theorem v_geq : binV P .geq t (.int kk a) (.int kk b) = some (.bool (decide (b ≤ a))) := by simp [binV, binI, cmpV]
theorem v_beql {a b : Bool} : binV P .eql t (.bool a) (.bool b) = if isBoolT P t = true then some (.bool (a == b)) else none := rfl
theorem v_bneq {a b : Bool} : binV P .neq t (.bool a) (.bool b) = if isBoolT P t = true then some (.bool (a != b)) else none := rfl
theorem v_shl (h : 0 ≤ b) : binV P .shl t (.int .i64 a) (.int kk b) = some (.int .i64 (IntKind.i64.wrap (a * 2 ^ min b.toNat 64))) := by simp [binV, binI, show ¬ b < 0 by omega, IntKind.bits]
theorem v_shr (h : 0 ≤ b) : binV P .shr t (.int .i64 a) (.int kk b) = some (.int .i64 (a.fdiv (2 ^ min b.toNat 64))) := by simp [binV, binI, show ¬ b < 0 by omega, IntKind.bits]
theorem v_and : binV P .and t (.int .i64 a) (.int .i64 b) = some (.int .i64 (bitV .and .i64 a b)) := by simp [binV, binI]
theorem v_or : binV P .or t (.int .i64 a) (.int .i64 b) = some (.int .i64 (bitV .or .i64 a b)) := by simp [binV, binI]
theorem v_xor : binV P .xor t (.int .i64 a) (.int .i64 b) = some (.int .i64 (bitV .xor .i64 a b)) := by simp [binV, binI]
theorem u_not {b : Bool} : unF .not (.d (.val (.bool b))) = some (.d (.val (.bool (!b)))) := rfl
end
end Go.Proofs.Ytfpcailbobjfnaa
