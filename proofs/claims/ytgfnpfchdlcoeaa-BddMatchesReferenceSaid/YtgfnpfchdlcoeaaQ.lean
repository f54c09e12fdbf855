/- Groups of rules. -/
import Derived.Test.YtgfnpfchdlcoeaaAU
set_option linter.unusedVariables false
namespace Go.Proofs.Ytgfnpfchdlcoeaa
open Go Go.RowKit
theorem q_l : (type_of% @List.length_cons.{0}) ∧ (type_of% @List.length_nil.{0}) ∧ (type_of% @List.getElem?_cons_zero.{0}) ∧ (type_of% @List.getElem?_cons_succ.{0}) := ⟨@List.length_cons.{0}, @List.length_nil.{0}, @List.getElem?_cons_zero.{0}, @List.getElem?_cons_succ.{0}⟩
theorem q_s : (type_of% @List.set_cons_zero.{0}) ∧ (type_of% @List.set_cons_succ.{0}) ∧ (type_of% @List.all_cons.{0}) ∧ (type_of% @List.all_nil.{0}) ∧ (type_of% @List.cons_append.{0}) ∧ (type_of% @List.nil_append.{0}) ∧ (type_of% @List.map_cons.{0, 0}) ∧ (type_of% @List.map_nil.{0, 0}) := ⟨@List.set_cons_zero.{0}, @List.set_cons_succ.{0}, @List.all_cons.{0}, @List.all_nil.{0}, @List.cons_append.{0}, @List.nil_append.{0}, @List.map_cons.{0, 0}, @List.map_nil.{0, 0}⟩
theorem q_f : (type_of% @zat) ∧ (type_of% @zcw) ∧ (type_of% @zdo) ∧ (type_of% @zb2) ∧ (type_of% @zc5) ∧ (type_of% @zdb) := ⟨@zat, @zcw, @zdo, @zb2, @zc5, @zdb⟩
theorem q_o : (type_of% @Option.map_some.{0, 0}) ∧ (type_of% @Option.map_none.{0, 0}) ∧ (type_of% @Option.bind_some.{0, 0}) := ⟨@Option.map_some.{0, 0}, @Option.map_none.{0, 0}, @Option.bind_some.{0, 0}⟩
theorem q_b : (type_of% @Bool.false_eq_true) ∧ (type_of% @eq_self.{1}) ∧ (type_of% @true_and) ∧ (type_of% @Bool.and_self) ∧ (type_of% @Bool.not_true) ∧ (type_of% @Bool.not_false) := ⟨@Bool.false_eq_true, @eq_self.{1}, @true_and, @Bool.and_self, @Bool.not_true, @Bool.not_false⟩
theorem q_n : (type_of% @Nat.zero_add) ∧ (type_of% @Nat.add_zero) ∧ (type_of% @Nat.mul_one) := ⟨@Nat.zero_add, @Nat.add_zero, @Nat.mul_one⟩
theorem q_a : (type_of% @zl2) ∧ (type_of% @zm2) ∧ (type_of% @zfh) ∧ (type_of% @zdh) ∧ (type_of% @zcx) ∧ (type_of% @zdg) := ⟨@zl2, @zm2, @zfh, @zdh, @zcx, @zdg⟩
end Go.Proofs.Ytgfnpfchdlcoeaa
