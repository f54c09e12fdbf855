/- What the rows' inputs read as. -/
import Derived.Test.YtfpcailbobjfnaaNm
import Derived.Test.YtfpcailbobjfnaaAS
import Derived.Test.YtfpcailbobjfnaaRows
import Derived.ProofKit
import Derived.LaidMore
import Derived.Carry
set_option linter.unusedVariables false
set_option linter.unusedSimpArgs false
namespace Go.Proofs.Ytfpcailbobjfnaa
open Go Go.RowKit Go.ChangeShapes
section
variable {H : Type} {enc : TypeId × Value → H} {w : World} {sp : Nat → Bool}
theorem u8_wf {n : Int} (h : (Lit.int .u8 n).wf = true) : 0 ≤ n ∧ n < 256 := by
  have := bounds_u8 h; omega
theorem op_u8 : Op enc Try.prog w sp 5 (fun n : Int => [bD n]) (fun n => 0 ≤ n ∧ n < 256) := (Op.int Try.underlying5).conv fun n h => ⟨n, u8_wf h, rfl⟩
theorem op_i64 : Op enc Try.prog w sp 3 (fun n : Int => [iD n]) (fun _ => True) := (Op.int Try.underlying3).conv fun n _ => ⟨n, trivial, rfl⟩
theorem op_bool : Op enc Try.prog w sp 4 (fun b : Bool => [oD b]) (fun _ => True) := (Op.bool Try.underlying4).conv fun b _ => ⟨b, trivial, rfl⟩
theorem op_bytes : Op enc Try.prog w sp 22 (fun l : List Int => [bytesD l]) (fun l => l.length ≤ maxLen ∧ Bytes l) :=
  (Op.slice Try.underlying22 (wd := 1) (by kernel_rfl) (by omega) (fun _ => rfl) op_u8).conv fun l h => ⟨l, h, by rw [flat_one]; rfl⟩
theorem op_ints : Op enc Try.prog w sp 29 (fun l : List Int => [intsD l]) (fun l => l.length ≤ maxLen) :=
  (Op.slice Try.underlying29 (wd := 1) (by kernel_rfl) (by omega) (fun _ => rfl) op_i64).conv fun l h => ⟨l, h.1, by rw [flat_one]; rfl⟩
theorem op_bools : Op enc Try.prog w sp 34 (fun l : List Bool => [boolsD l]) (fun l => l.length ≤ maxLen) :=
  (Op.slice Try.underlying34 (wd := 1) (by kernel_rfl) (by omega) (fun _ => rfl) op_bool).conv fun l h => ⟨l, h.1, by rw [flat_one]; rfl⟩
theorem op_intss : Op enc Try.prog w sp 30 (fun l : List (List Int) => [intssD l]) (fun l => l.length ≤ maxLen ∧ ∀ r ∈ l, r.length ≤ maxLen) :=
  (Op.slice Try.underlying30 (wd := 1) (by kernel_rfl) (by omega) (fun _ => rfl) op_ints).conv fun l h => ⟨l, h, by rw [flat_one]; rfl⟩
theorem list5 {l : List Int} (h : l.length = 5) : l = [nth l 0, nth l 1, nth l 2, nth l 3, nth l 4] := by
  match l, h with
  | [a, b, c, d, e], _ => rfl
theorem list4 {l : List Int} (h : l.length = 4) : l = [nth l 0, nth l 1, nth l 2, nth l 3] := by
  match l, h with
  | [a, b, c, d], _ => rfl
theorem op_r5 : Op enc Try.prog w sp 92 r5C (fun g => B1 g.a ∧ B1 g.b ∧ B1 g.c ∧ B1 g.d ∧ B1 g.e) :=
  (Op.arr Try.underlying92 (wd := 1) (by kernel_rfl) (by kernel_rfl) (by omega) (fun _ => rfl) op_u8).conv fun l h => by
    have hm : ∀ k, k < 5 → B1 (nth l k) := fun k hk => h.2 _ (nth_mem (by omega))
    refine ⟨⟨nth l 0, nth l 1, nth l 2, nth l 3, nth l 4⟩, ⟨hm 0 (by omega), hm 1 (by omega), hm 2 (by omega), hm 3 (by omega), hm 4 (by omega)⟩, ?_⟩
    rw [flat_one]
    conv => lhs; rw [list5 h.1]
    rfl
theorem op_r4 : Op enc Try.prog w sp 93 r4C (fun g => B1 g.a ∧ B1 g.b ∧ B1 g.c ∧ B1 g.d) :=
  (Op.arr Try.underlying93 (wd := 1) (by kernel_rfl) (by kernel_rfl) (by omega) (fun _ => rfl) op_u8).conv fun l h => by
    have hm : ∀ k, k < 4 → B1 (nth l k) := fun k hk => h.2 _ (nth_mem (by omega))
    refine ⟨⟨nth l 0, nth l 1, nth l 2, nth l 3⟩, ⟨hm 0 (by omega), hm 1 (by omega), hm 2 (by omega), hm 3 (by omega)⟩, ?_⟩
    rw [flat_one]
    conv => lhs; rw [list4 h.1]
    rfl
theorem op_raw : Op enc Try.prog w sp 28 rawC RawOk :=
  (Op.str Try.underlying28 (e := 3) (by kernel_rfl) (.cons (wd := 1) rfl (by kernel_rfl) op_bytes
    (.cons (wd := 1) rfl (by kernel_rfl) (Op.slice Try.underlying25 (wd := 5) (by kernel_rfl) (by omega) r5_w op_r5)
    (.cons (wd := 1) rfl (by kernel_rfl) (Op.slice Try.underlying26 (wd := 4) (by kernel_rfl) (by omega) r4_w op_r4) .nil rfl) rfl) rfl)).conv fun p h => by
    obtain ⟨a, b, c, u⟩ := p
    obtain ⟨⟨_, h1⟩, ⟨_, h2⟩, ⟨_, h3⟩, _⟩ := h
    exact ⟨⟨a, b, c⟩, ⟨fun k hk => h1 _ (nth_mem hk), fun k hk => h2 _ (nth_mem hk), fun k hk => h3 _ (nth_mem hk)⟩, rfl⟩
theorem op_head : Op enc Try.prog w sp 79 headC (fun _ => True) := by
  refine (Op.str Try.underlying79 (e := 2) (by kernel_rfl) (.cons (wd := 1) rfl (by kernel_rfl) op_bool (.cons (wd := 1) rfl (by kernel_rfl) op_i64 .nil rfl) rfl)).conv ?_
  exact fun p _ => ⟨⟨p.1, p.2.1⟩, trivial, rfl⟩
theorem op_e : Op enc Try.prog w sp 37 (fun n : Int => [eD n]) (fun _ => True) := (Op.int Try.underlying37).conv fun n _ => ⟨n, trivial, rfl⟩
theorem list2 {l : List Int} (h : l.length = 2) : l = [nth l 0, nth l 1] := by
  match l, h with
  | [a, b], _ => rfl
theorem op_odd : Op enc Try.prog w sp 40 oddC OddOk := by
  refine (Op.str Try.underlying40 (e := 8) (by kernel_rfl)
    (.cons (wd := 2) rfl (by kernel_rfl) (Op.str Try.underlying32 (e := 2) (by kernel_rfl) (.cons (wd := 1) rfl (by kernel_rfl) op_ints (.cons (wd := 1) rfl (by kernel_rfl) op_intss .nil rfl) rfl))
    (.cons (wd := 2) rfl (by kernel_rfl) (Op.str Try.underlying36 (e := 2) (by kernel_rfl) (.cons (wd := 1) rfl (by kernel_rfl) (Op.slice Try.underlying33 (wd := 2) (by kernel_rfl) (by omega) (fun _ => rfl) op_head) (.cons (wd := 1) rfl (by kernel_rfl) op_bools .nil rfl) rfl))
    (.cons (wd := 1) rfl (by kernel_rfl) op_bytes
    (.cons (wd := 1) rfl (by kernel_rfl) op_i64
    (.cons (wd := 2) rfl (by kernel_rfl) (Op.arr Try.underlying38 (wd := 1) (by kernel_rfl) (by kernel_rfl) (by omega) (fun _ => rfl) op_e) .nil rfl) rfl) rfl) rfl) rfl)).conv ?_
  · intro p h
    obtain ⟨⟨regs, mems, _⟩, ⟨heads, rooms, _⟩, v, k, es, _⟩ := p
    obtain ⟨⟨_, ⟨hm, _⟩, _⟩, _, ⟨_, hv⟩, _, ⟨he, _⟩, _⟩ := h
    simp only at he hm hv
    refine ⟨⟨regs, mems, heads, rooms, v, k, nth es 0, nth es 1⟩, ⟨hm, hv⟩, ?_⟩
    simp only [flat_one]
    conv => lhs; rw [list2 he]
    rfl
end
theorem own : ownKnob Try.prog.godebug = none := by kernel_rfl
end Go.Proofs.Ytfpcailbobjfnaa
