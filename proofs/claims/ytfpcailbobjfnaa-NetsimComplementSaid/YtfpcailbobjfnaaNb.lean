/- Nets: how they lie in memory; the small functions of the simulation. -/
import Derived.Test.YtfpcailbobjfnaaNa
set_option linter.unusedVariables false
set_option linter.unusedSimpArgs false
namespace Go.Proofs.Ytfpcailbobjfnaa
open Go Go.RowKit
structure Wire where
  kind : Int
  i : Int
  bit : Int
instance : Inhabited Wire := ⟨⟨0, 0, 0⟩⟩
structure Gate where
  op : Int
  a : Int
  b : Int
  c : Int
  n : Int
instance : Inhabited Gate := ⟨⟨0, 0, 0, 0, 0⟩⟩
structure Net where
  ins : List Wire
  gates : List Gate
  out : List Wire
  drive : List Int
def wireC (w : Wire) : List D := [iD w.kind, iD w.i, iD w.bit]
def gateC (g : Gate) : List D := [iD g.op, iD g.a, iD g.b, iD g.c, iD g.n]
def wiresD (l : List Wire) : D := .fs (l.flatMap wireC) l.length
def gatesD (l : List Gate) : D := .fs (l.flatMap gateC) l.length
def netC (n : Net) : List D := [wiresD n.ins, gatesD n.gates, wiresD n.out, intsD n.drive]
def netD (n : Net) : D := .agg (netC n)
theorem gate_w (g : Gate) : (gateC g).length = 5 := rfl
theorem wire_w (w : Wire) : (wireC w).length = 3 := rfl
section
variable {l : List Gate} {k : Nat}
theorem gate_row (h : k < l.length) : takeD (l.flatMap gateC) (k * 5) 5 = some (gateC (nth l k)) := flat_row gate_w h
theorem gate_0 (h : k < l.length) : (l.flatMap gateC)[k * 5]? = some (iD (nth l k).op) := (flat_get (j := 0) gate_w h (by omega)).trans rfl
theorem gate_1 (h : k < l.length) : (l.flatMap gateC)[k * 5 + 1]? = some (iD (nth l k).a) := (flat_get (j := 1) gate_w h (by omega)).trans rfl
theorem gate_2 (h : k < l.length) : (l.flatMap gateC)[k * 5 + 2]? = some (iD (nth l k).b) := (flat_get (j := 2) gate_w h (by omega)).trans rfl
theorem gate_3 (h : k < l.length) : (l.flatMap gateC)[k * 5 + 3]? = some (iD (nth l k).c) := (flat_get (j := 3) gate_w h (by omega)).trans rfl
theorem gate_4 (h : k < l.length) : (l.flatMap gateC)[k * 5 + 4]? = some (iD (nth l k).n) := (flat_get (j := 4) gate_w h (by omega)).trans rfl
theorem gates_len : (l.flatMap gateC).length = l.length * 5 := flat_len gate_w l
theorem gate_fix (l : List Gate) : (l.flatMap gateC).map D.fix = l.flatMap gateC := fix_flat (fun _ => rfl) l
theorem wire_fix (l : List Wire) : (l.flatMap wireC).map D.fix = l.flatMap wireC := fix_flat (fun _ => rfl) l
end
section
variable {l : List Wire} {k : Nat}
theorem wire_row (h : k < l.length) : takeD (l.flatMap wireC) (k * 3) 3 = some (wireC (nth l k)) := flat_row wire_w h
theorem wire_0 (h : k < l.length) : (l.flatMap wireC)[k * 3]? = some (iD (nth l k).kind) := (flat_get (j := 0) wire_w h (by omega)).trans rfl
theorem wire_1 (h : k < l.length) : (l.flatMap wireC)[k * 3 + 1]? = some (iD (nth l k).i) := (flat_get (j := 1) wire_w h (by omega)).trans rfl
theorem wire_2 (h : k < l.length) : (l.flatMap wireC)[k * 3 + 2]? = some (iD (nth l k).bit) := (flat_get (j := 2) wire_w h (by omega)).trans rfl
theorem wires_len : (l.flatMap wireC).length = l.length * 3 := flat_len wire_w l
end
/-- Whether a bit of a number is 1. -/
def hasB (v b : Int) : Bool := bitV .and .i64 (v.fdiv (2 ^ min b.toNat 64)) 1 == 1
set_option maxRecDepth 100000 in
set_option linter.unusedVariables false in
set_option maxHeartbeats 4000000 in
theorem has_c (v b : Int) (hb : 0 ≤ b) : PCalls Try.prog 38 [iD v, iD b] (.d (oD (hasB v b))) := by
  refine pcalls_of0 (fn := Try.f38) (by kernel_rfl) Try.func38 rfl (Nat.le_of_ble_eq_true rfl) fun c hc hp => ?_
  refine awp_less (τ' := frL [(0, .d (iD v)), (1, .d (iD b))]) (less_cons (less_cons (less_nil _) (by first | rfl | (simp [Fr.put, frL, gcV, fzV, posN, iD, bD, uD, oD, intsD, boolsD, bytesD, intssD, bytessD]; done) | simp [Fr.put, frL, gcV, fzV, posN, iD, bD, uD, oD, intsD, boolsD, bytesD, intssD, bytessD, *])) (by first | rfl | (simp [Fr.put, frL, gcV, fzV, posN, iD, bD, uD, oD, intsD, boolsD, bytesD, intssD, bytessD]; done) | simp [Fr.put, frL, gcV, fzV, posN, iD, bD, uD, oD, intsD, boolsD, bytesD, intssD, bytessD, *])) ?_
  refine awp_seq_s KT_ok hc rfl fun K1 hK1 => ?_
  simp -dsimp -implicitDefEqProofs (disch := first | omega | (simp only [maxLen, List.length_replicate, eq_self, true_and, and_true, and_self, avs_len, List.length_map, List.length_append, List.length_cons, List.length_nil, List.length_set, List.length_range, List.length_take, List.length_drop] <;> omega) | rfl | fail) only [sT_assign, sT_nil, frL_put, evalA_const, iD]
  refine hK1 _ _ ?_
  refine awp_seq_s KT_ok hc rfl fun K2 hK2 => ?_
  simp -dsimp -implicitDefEqProofs (disch := first | omega | (simp only [maxLen, List.length_replicate, eq_self, true_and, and_true, and_self, avs_len, List.length_map, List.length_append, List.length_cons, List.length_nil, List.length_set, List.length_range, List.length_take, List.length_drop] <;> omega) | rfl | fail) only [sT_move, sT_assign, sT_bin, sT_nil, oK_some, Option.map_some, binF_v, v_eql, v_shr, v_and, ↓reduceIte, eq_self, frL_get, frL_put, evalA_tmp, evalA_const, Nat.reduceEqDiff]
  refine hK2 _ _ ?_
  refine awp_ret ?_
  show closeA _ _ = _
  simp (disch := first | omega | (simp only [maxLen, List.length_replicate, eq_self, true_and, and_true, and_self, avs_len, List.length_map, List.length_append, List.length_cons, List.length_nil, List.length_set, List.length_range, List.length_take, List.length_drop] <;> omega) | rfl | fail) only [closeA, retV, deep_d, D.fix, frL_get, ↓reduceIte, Option.map_some, List.length_nil, oD, hasB]
def num3 (a b c : Bool) : Int := (if a then 1 else 0) + (if b then 2 else 0) + (if c then 4 else 0)
theorem num3_r (a b c : Bool) : 0 ≤ num3 a b c ∧ num3 a b c ≤ 7 := by cases a <;> cases b <;> cases c <;> decide
theorem number_c (a b c : Bool) : PCalls Try.prog 34 [.fs [oD a, oD b, oD c] 3] (.d (iD (num3 a b c))) := by
  cases a <;> cases b <;> cases c <;> exact pcalls_run (n := 60) mixed KT_ok (by kernel_rfl)
/-- A bit of the word at an address. -/
def readN (mems : List (List Int)) (n x : Int) : Bool := decide (n / 8 < mems.length) && (decide (x < (nth mems (n / 8).toNat).length) && hasB (nth (nth mems (n / 8).toNat) x.toNat) (n % 8))
set_option maxRecDepth 100000 in
set_option linter.unusedVariables false in
set_option maxHeartbeats 4000000 in
theorem read_c (mems : List (List Int)) (n x : Int) (hn : 0 ≤ n) (hn2 : n < 1000000) (hx : 0 ≤ x) : PCalls Try.prog 33 [intssD mems, iD n, iD x] (.d (oD (readN mems n x))) := by
  refine pcalls_of0 (fn := Try.f33) (by kernel_rfl) Try.func33 rfl (Nat.le_of_ble_eq_true rfl) fun c hc hp => ?_
  refine awp_less (τ' := frL [(0, .d (intssD mems)), (1, .d (iD n)), (2, .d (iD x))]) (less_cons (less_cons (less_cons (less_nil _) (by first | rfl | (simp [Fr.put, frL, gcV, fzV, posN, iD, bD, uD, oD, intsD, boolsD, bytesD, intssD, bytessD]; done) | simp [Fr.put, frL, gcV, fzV, posN, iD, bD, uD, oD, intsD, boolsD, bytesD, intssD, bytessD, *])) (by first | rfl | (simp [Fr.put, frL, gcV, fzV, posN, iD, bD, uD, oD, intsD, boolsD, bytesD, intssD, bytessD]; done) | simp [Fr.put, frL, gcV, fzV, posN, iD, bD, uD, oD, intsD, boolsD, bytesD, intssD, bytessD, *])) (by first | rfl | (simp [Fr.put, frL, gcV, fzV, posN, iD, bD, uD, oD, intsD, boolsD, bytesD, intssD, bytessD]; done) | simp [Fr.put, frL, gcV, fzV, posN, iD, bD, uD, oD, intsD, boolsD, bytesD, intssD, bytessD, *])) ?_
  refine awp_seq_s KT_ok hc rfl fun K1 hK1 => ?_
  simp -dsimp -implicitDefEqProofs (disch := first | omega | (simp only [maxLen, List.length_replicate, eq_self, true_and, and_true, and_self, avs_len, List.length_map, List.length_append, List.length_cons, List.length_nil, List.length_set, List.length_range, List.length_take, List.length_drop] <;> omega) | rfl | fail) only [sT_assign, sT_nil, frL_put, evalA_const, iD, intssD]
  refine hK1 _ _ ?_
  refine awp_seq_s KT_ok hc rfl fun K2 hK2 => ?_
  by_cases h1 : n / 8 < mems.length
  by_cases h2 : x < (nth mems (n / 8).toNat).length
  · simp -dsimp -implicitDefEqProofs (disch := first | omega | (simp only [maxLen, List.length_replicate, eq_self, true_and, and_true, and_self, avs_len, List.length_map, List.length_append, List.length_cons, List.length_nil, List.length_set, List.length_range, List.length_take, List.length_drop] <;> omega) | rfl | fail) only [sT_move, sT_pick, sT_load, sT_ia, sT_bin, sT_len, sT_call0, sT_g, oK_some, gK_t, Option.map_some, Option.bind_some, loadF, ixO, indexAddrF, binF_v, lenF, builtinF, v_quo, v_rem, v_lss, ↓reduceIte, Bool.false_eq_true, eq_self, ifp, guardA_some, guardV_t, frL_get, frL_put, evalA_tmp, evalA_const, evalA_func, List.map_cons, List.map_nil, List.length_nil, List.getElem?_cons_zero, List.getElem?_cons_succ, Nat.mul_one, Nat.reduceEqDiff, get_map, iD, intsD, h1, h2, decide_true, sz_3, ag_3, eo_30, sz_29, ag_29, eo_29]
    refine kc_by (has_c _ _ (by omega)) rfl ?_
    simp -dsimp -implicitDefEqProofs (disch := first | omega | (simp only [maxLen, List.length_replicate, eq_self, true_and, and_true, and_self, avs_len, List.length_map, List.length_append, List.length_cons, List.length_nil, List.length_set, List.length_range, List.length_take, List.length_drop] <;> omega) | rfl | fail) only [sT_assign, sT_pick, sT_nil, oK_some, ↓reduceIte, eq_self, frL_get, frL_put, evalA_tmp, Nat.reduceEqDiff, oD]
    refine hK2 _ _ ?_
    refine awp_ret ?_
    show closeA _ _ = _
    simp (disch := first | omega | (simp only [maxLen, List.length_replicate, eq_self, true_and, and_true, and_self, avs_len, List.length_map, List.length_append, List.length_cons, List.length_nil, List.length_set, List.length_range, List.length_take, List.length_drop] <;> omega) | rfl | fail) only [closeA, retV, deep_d, D.fix, frL_get, ↓reduceIte, Option.map_some, List.length_nil, oD]
    simp [readN, h1, h2]
  · simp -dsimp -implicitDefEqProofs (disch := first | omega | (simp only [maxLen, List.length_replicate, eq_self, true_and, and_true, and_self, avs_len, List.length_map, List.length_append, List.length_cons, List.length_nil, List.length_set, List.length_range, List.length_take, List.length_drop] <;> omega) | rfl | fail) only [sT_move, sT_assign, sT_pick, sT_load, sT_ia, sT_bin, sT_len, sT_nil, sT_g, oK_some, gK_t, gK_f, Option.map_some, Option.bind_some, loadF, ixO, indexAddrF, binF_v, lenF, builtinF, v_quo, v_lss, ↓reduceIte, Bool.false_eq_true, eq_self, ifp, guardA_some, guardV_t, frL_get, frL_put, evalA_tmp, evalA_const, List.map_cons, List.map_nil, List.getElem?_cons_zero, List.getElem?_cons_succ, Nat.mul_one, Nat.reduceEqDiff, get_map, intsD, h1, h2, decide_true, decide_false, eo_30, sz_29, ag_29, eo_29]
    refine hK2 _ _ ?_
    refine awp_ret ?_
    show closeA _ _ = _
    simp (disch := first | omega | (simp only [maxLen, List.length_replicate, eq_self, true_and, and_true, and_self, avs_len, List.length_map, List.length_append, List.length_cons, List.length_nil, List.length_set, List.length_range, List.length_take, List.length_drop] <;> omega) | rfl | fail) only [closeA, retV, deep_d, D.fix, frL_get, ↓reduceIte, Option.map_some, List.length_nil, oD]
    simp [readN, h1, h2]
  · have h2 := h1
    simp -dsimp -implicitDefEqProofs (disch := first | omega | (simp only [maxLen, List.length_replicate, eq_self, true_and, and_true, and_self, avs_len, List.length_map, List.length_append, List.length_cons, List.length_nil, List.length_set, List.length_range, List.length_take, List.length_drop] <;> omega) | rfl | fail) only [sT_move, sT_assign, sT_pick, sT_bin, sT_len, sT_nil, sT_g, oK_some, gK_f, Option.map_some, Option.bind_some, binF_v, lenF, builtinF, v_quo, v_lss, ↓reduceIte, Bool.false_eq_true, eq_self, guardA_some, guardV_t, frL_get, frL_put, evalA_tmp, evalA_const, List.map_cons, List.map_nil, List.getElem?_cons_zero, List.getElem?_cons_succ, Nat.reduceEqDiff, h1, decide_false, eo_30]
    refine hK2 _ _ ?_
    refine awp_ret ?_
    show closeA _ _ = _
    simp (disch := first | omega | (simp only [maxLen, List.length_replicate, eq_self, true_and, and_true, and_self, avs_len, List.length_map, List.length_append, List.length_cons, List.length_nil, List.length_set, List.length_range, List.length_take, List.length_drop] <;> omega) | rfl | fail) only [closeA, retV, deep_d, D.fix, frL_get, ↓reduceIte, Option.map_some, List.length_nil, oD]
    simp [readN, h1]
def opsC : List D := [iD 1, .val (.func (.func 60) #[] #[]), iD 2, .val (.func (.func 61) #[] #[]), iD 3, .val (.func (.func 62) #[] #[]), iD 4, .val (.func (.func 63) #[] #[]), iD 5, .val (.func (.func 64) #[] #[]), iD 6, .val (.func (.func 65) #[] #[])]
theorem operators_c : PCalls Try.prog 32 [] (.d (.agg opsC)) := pcalls_run (n := 60) mixed KT_ok (by kernel_rfl)
theorem op_1 (x y z : Bool) : PCalls Try.prog 60 [oD x, oD y, oD z] (.d (oD (!x))) := by cases x <;> cases y <;> cases z <;> exact pcalls_run (n := 60) mixed KT_ok (by kernel_rfl)
theorem op_2 (x y z : Bool) : PCalls Try.prog 61 [oD x, oD y, oD z] (.d (oD (x && y))) := by cases x <;> cases y <;> cases z <;> exact pcalls_run (n := 60) mixed KT_ok (by kernel_rfl)
theorem op_3 (x y z : Bool) : PCalls Try.prog 62 [oD x, oD y, oD z] (.d (oD (x || y))) := by cases x <;> cases y <;> cases z <;> exact pcalls_run (n := 60) mixed KT_ok (by kernel_rfl)
theorem op_4 (x y z : Bool) : PCalls Try.prog 63 [oD x, oD y, oD z] (.d (oD (x != y))) := by cases x <;> cases y <;> cases z <;> exact pcalls_run (n := 60) mixed KT_ok (by kernel_rfl)
theorem op_5 (x y z : Bool) : PCalls Try.prog 64 [oD x, oD y, oD z] (.d (oD (if x then y else z))) := by cases x <;> cases y <;> cases z <;> exact pcalls_run (n := 60) mixed KT_ok (by kernel_rfl)
theorem op_6 (x y z : Bool) : PCalls Try.prog 65 [oD x, oD y, oD z] (.d (oD (x && (y || z) || y && z))) := by cases x <;> cases y <;> cases z <;> exact pcalls_run (n := 60) mixed KT_ok (by kernel_rfl)
def findA (op a b c n : Int) : List D := [.fs opsC 6, .clo (.func 36) [] [.fp [iD op, iD a, iD b, iD c, iD n] 0]]
theorem find_1 (a b c n : Int) : PCalls Try.prog 35 (findA 1 a b c n) (.d (iD 0)) := pcalls_run (n := 60) mixed KT_ok (by kernel_rfl)
theorem find_2 (a b c n : Int) : PCalls Try.prog 35 (findA 2 a b c n) (.d (iD 1)) := pcalls_run (n := 60) mixed KT_ok (by kernel_rfl)
theorem find_3 (a b c n : Int) : PCalls Try.prog 35 (findA 3 a b c n) (.d (iD 2)) := pcalls_run (n := 60) mixed KT_ok (by kernel_rfl)
theorem find_4 (a b c n : Int) : PCalls Try.prog 35 (findA 4 a b c n) (.d (iD 3)) := pcalls_run (n := 60) mixed KT_ok (by kernel_rfl)
theorem find_5 (a b c n : Int) : PCalls Try.prog 35 (findA 5 a b c n) (.d (iD 4)) := pcalls_run (n := 60) mixed KT_ok (by kernel_rfl)
theorem find_6 (a b c n : Int) : PCalls Try.prog 35 (findA 6 a b c n) (.d (iD 5)) := pcalls_run (n := 60) mixed KT_ok (by kernel_rfl)
end Go.Proofs.Ytfpcailbobjfnaa
