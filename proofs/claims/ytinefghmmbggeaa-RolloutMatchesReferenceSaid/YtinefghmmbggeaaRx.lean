/- What the rows' inputs read as. -/
import Derived.Test.YtinefghmmbggeaaRr
import Derived.Test.YtinefghmmbggeaaAS
import Derived.Test.YtinefghmmbggeaaRows
import Derived.ProofKit
import Derived.LaidMore
import Derived.Carry
set_option linter.unusedVariables false
set_option linter.unusedSimpArgs false
namespace Go.Proofs.Ytinefghmmbggeaa
open Go Go.RowKit Go.ChangeShapes
section
variable {H : Type} {enc : TypeId × Value → H} {w : World} {sp : Nat → Bool}
theorem u8_wf {n : Int} (h : (Lit.int .u8 n).wf = true) : B8 n := by
  have := bounds_u8 h
  exact ⟨by omega, by omega⟩
theorem i64_wf {n : Int} (h : (Lit.int .i64 n).wf = true) : I64 n := by
  simp [Lit.wf] at h
  obtain ⟨h1, h2⟩ := h
  exact ⟨h1, by omega⟩
theorem op_u8 : Op enc Try.prog w sp 5 (fun n : Int => [bD n]) B8 := (Op.int Try.underlying5).conv fun n h => ⟨n, u8_wf h, rfl⟩
theorem op_i64 : Op enc Try.prog w sp 3 (fun n : Int => [iD n]) I64 := (Op.int Try.underlying3).conv fun n h => ⟨n, i64_wf h, rfl⟩
theorem op_bool : Op enc Try.prog w sp 4 (fun b : Bool => [oD b]) (fun _ => True) := (Op.bool Try.underlying4).conv fun b _ => ⟨b, trivial, rfl⟩
theorem op_bytes : Op enc Try.prog w sp 22 (fun l : List Int => [bytesD l]) (fun l => l.length ≤ maxLen ∧ ∀ b ∈ l, B8 b) :=
  (Op.slice Try.underlying22 (wd := 1) (by kernel_rfl) (by omega) (fun _ => rfl) op_u8).conv fun l h => ⟨l, h, by rw [flat_one]; rfl⟩
theorem op_ints : Op enc Try.prog w sp 27 (fun l : List Int => [intsD l]) (fun l => l.length ≤ maxLen ∧ I64s l) :=
  (Op.slice Try.underlying27 (wd := 1) (by kernel_rfl) (by omega) (fun _ => rfl) op_i64).conv fun l h => ⟨l, h, by rw [flat_one]; rfl⟩
theorem op_intss : Op enc Try.prog w sp 26 (fun l : List (List Int) => [intssD l]) (fun l => l.length ≤ maxLen ∧ ∀ r ∈ l, r.length ≤ maxLen ∧ I64s r) :=
  (Op.slice Try.underlying26 (wd := 1) (by kernel_rfl) (by omega) (fun _ => rfl) op_ints).conv fun l h => ⟨l, h, by rw [flat_one]; rfl⟩
theorem op_sp : Op enc Try.prog w sp 45 spC SpOk :=
  (Op.str Try.underlying45 (e := 6) (by kernel_rfl) (.cons (wd := 1) rfl (by kernel_rfl) op_u8 (.cons (wd := 1) rfl (by kernel_rfl) op_u8 (.cons (wd := 1) rfl (by kernel_rfl) op_u8 (.cons (wd := 1) rfl (by kernel_rfl) op_bool (.cons (wd := 1) rfl (by kernel_rfl) op_bool (.cons (wd := 1) rfl (by kernel_rfl) op_bool .nil rfl) rfl) rfl) rfl) rfl) rfl)).conv fun p h => by
    obtain ⟨a, b, c, d, e, f, u⟩ := p
    obtain ⟨h1, h2, h3, _⟩ := h
    exact ⟨⟨a, b, c, d, e, f⟩, ⟨h1, h2, h3⟩, rfl⟩
theorem op_rw : Op enc Try.prog w sp 25 (fun x : Rw => [bytesD x.ws, bD x.slk, spsD x.steps]) RwOk :=
  (Op.str Try.underlying25 (e := 3) (by kernel_rfl) (.cons (wd := 1) rfl (by kernel_rfl) op_bytes (.cons (wd := 1) rfl (by kernel_rfl) op_u8
    (.cons (wd := 1) rfl (by kernel_rfl) (Op.slice Try.underlying23 (wd := 6) (by kernel_rfl) (by omega) sp_w op_sp) .nil rfl) rfl) rfl)).conv fun p h => by
    obtain ⟨a, b, c, u⟩ := p
    obtain ⟨⟨_, h1⟩, h2, ⟨_, h3⟩, _⟩ := h
    exact ⟨⟨a, b, c⟩, ⟨h1, h2, h3⟩, rfl⟩
theorem list2 {α : Type} [Inhabited α] {l : List α} (h : l.length = 2) : l = [nth l 0, nth l 1] := by
  match l, h with
  | [a, b], _ => rfl
theorem op_sp2 : Op enc Try.prog w sp 55 (fun p : Sp × Sp => spC p.1 ++ spC p.2) (fun p => SpOk p.1 ∧ SpOk p.2) :=
  (Op.arr Try.underlying55 (wd := 6) (by kernel_rfl) (by kernel_rfl) (by omega) sp_w op_sp).conv fun l h => by
    refine ⟨(nth l 0, nth l 1), ⟨h.2 _ (nth_mem (by omega)), h.2 _ (nth_mem (by omega))⟩, ?_⟩
    conv => lhs; rw [list2 h.1]
    rfl
theorem op_k2 : Op enc Try.prog w sp 61 (fun p : Int × Int => [bD p.1, bD p.2]) (fun p => B8 p.1 ∧ B8 p.2) :=
  (Op.arr Try.underlying61 (wd := 1) (by kernel_rfl) (by kernel_rfl) (by omega) (fun _ => rfl) op_u8).conv fun l h => by
    refine ⟨(nth l 0, nth l 1), ⟨h.2 _ (nth_mem (by omega)), h.2 _ (nth_mem (by omega))⟩, ?_⟩
    rw [flat_one]
    conv => lhs; rw [list2 h.1]
    rfl
/-- A rollout that came in. -/
structure RolIn (r : Rol) : Prop where
  wl : r.wv.length ≤ maxLen
  wr : ∀ l ∈ r.wv, l.length ≤ maxLen ∧ I64s l
  dl : r.dn.length ≤ maxLen
  di : I64s r.dn
  p : I64 r.pos
theorem op_rol : Op enc Try.prog w sp 29 rolC RolIn :=
  (Op.str Try.underlying29 (e := 7) (by kernel_rfl) (.cons (wd := 1) rfl (by kernel_rfl) op_i64 (.cons (wd := 1) rfl (by kernel_rfl) op_i64 (.cons (wd := 1) rfl (by kernel_rfl) op_intss (.cons (wd := 1) rfl (by kernel_rfl) op_i64 (.cons (wd := 1) rfl (by kernel_rfl) op_i64 (.cons (wd := 1) rfl (by kernel_rfl) op_ints (.cons (wd := 1) rfl (by kernel_rfl) op_i64 .nil rfl) rfl) rfl) rfl) rfl) rfl) rfl)).conv fun p h => by
    obtain ⟨a, b, c, d, e, f, g, u⟩ := p
    obtain ⟨_, _, ⟨h1, h2⟩, _, h3, ⟨h4, h5⟩, _⟩ := h
    exact ⟨⟨a, b, c, d, e, f, g⟩, ⟨h1, h2, h4, h5, h3⟩, rfl⟩
structure RepIn (p : Rep) : Prop where
  c : I64 p.chip
  n : I64 p.no
  s : I64 p.slk
theorem op_rep : Op enc Try.prog w sp 31 repC RepIn :=
  (Op.str Try.underlying31 (e := 5) (by kernel_rfl) (.cons (wd := 1) rfl (by kernel_rfl) op_i64 (.cons (wd := 1) rfl (by kernel_rfl) op_i64 (.cons (wd := 1) rfl (by kernel_rfl) op_i64 (.cons (wd := 1) rfl (by kernel_rfl) op_bool (.cons (wd := 1) rfl (by kernel_rfl) op_bool .nil rfl) rfl) rfl) rfl) rfl)).conv fun p h => by
    obtain ⟨a, b, c, d, e, u⟩ := p
    obtain ⟨h1, h2, h3, _⟩ := h
    exact ⟨⟨a, b, c, d, e⟩, ⟨h1, h2, h3⟩, rfl⟩
end
theorem own : ownKnob Try.prog.godebug = none := by kernel_rfl
end Go.Proofs.Ytinefghmmbggeaa
