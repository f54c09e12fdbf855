/- Whether arguments are small; the nets that bytes describe. -/
import Derived.Test.YtfpcailbobjfnaaNg
set_option linter.unusedVariables false
set_option linter.unusedSimpArgs false
namespace Go.Proofs.Ytfpcailbobjfnaa
open Go Go.RowKit
structure Head where
  has : Bool
  v : Int
instance : Inhabited Head := ⟨⟨false, 0⟩⟩
def headC (h : Head) : List D := [oD h.has, iD h.v]
def headsD (l : List Head) : D := .fs (l.flatMap headC) l.length
structure Odd where
  regs : List Int
  mems : List (List Int)
  heads : List Head
  rooms : List Bool
  v : List Int
  k : Int
  e0 : Int
  e1 : Int
def eD (n : Int) : D := .val (.int .i8 n)
def oddC (z : Odd) : List D := [intsD z.regs, intssD z.mems, headsD z.heads, boolsD z.rooms, bytesD z.v, iD z.k, eD z.e0, eD z.e1]
set_option maxRecDepth 100000 in
set_option linter.unusedVariables false in
set_option maxHeartbeats 4000000 in
theorem little_c (z : Odd) (hm : z.mems.length ≤ maxLen) : RCalls Try.prog 9 [.agg (oddC z)] (fun r => ∃ b, r = .d (oD b)) := by
  refine rcalls_of0 (fn := Try.f9) (by kernel_rfl) Try.func9 rfl (Nat.le_of_ble_eq_true rfl) fun c hc hp => ?_
  refine awp_less (τ' := frL [(0, .d (.agg (oddC z)))]) (less_cons (less_nil _) (by first | rfl | (simp [Fr.put, frL, gcV, fzV, posN, iD, bD, uD, oD, intsD, boolsD, bytesD, intssD, bytessD]; done) | simp [Fr.put, frL, gcV, fzV, posN, iD, bD, uD, oD, intsD, boolsD, bytesD, intssD, bytessD, *])) ?_
  unfold maxLen at hm
  refine awp_seq_s KT_ok hc rfl fun K1 hK1 => ?_
  simp -dsimp -implicitDefEqProofs (disch := first | omega | (simp only [maxLen, List.length_replicate, eq_self, true_and, and_true, and_self, avs_len, List.length_map, List.length_append, List.length_cons, List.length_nil, List.length_set, List.length_range, List.length_take, List.length_drop] <;> omega) | rfl | fail) only [sT_assign, sT_box, deadH, sT_nil, oK_some, Option.map_some, layF, ↓reduceIte, eq_self, frL_get, frL_put, evalA_tmp, evalA_const, List.map_cons, List.map_nil, List.length_nil, List.nil_append, List.all_cons, List.all_nil, as_dagg, D.one, Value.oneCell', Bool.and_self, iD, intsD, boolsD, bytesD, intssD, List.nil_append, deadH, oddC, headsD, eD]
  refine hK1 _ _ ?_
  refine awp_seq_s KT_ok hc rfl fun K2 hK2 => ?_
  simp -dsimp -implicitDefEqProofs (disch := first | omega | (simp only [maxLen, List.length_replicate, eq_self, true_and, and_true, and_self, avs_len, List.length_map, List.length_append, List.length_cons, List.length_nil, List.length_set, List.length_range, List.length_take, List.length_drop] <;> omega) | rfl | fail) only [sT_assign, sT_load, sT_fa, sT_bin, sT_len, sT_nil, oK_some, Option.map_some, loadF, fieldAddrF, binF_v, lenF, builtinF, ↓reduceIte, Bool.false_eq_true, eq_self, ifp, frL_get, frL_put, evalA_tmp, List.map_cons, List.map_nil, List.length_cons, List.length_nil, List.getElem?_cons_zero, List.getElem?_cons_succ, Nat.zero_add, Nat.add_zero, Nat.reduceEqDiff, Nat.reduceAdd, v_addw, fo_40_0, fo_32_0, sz_29, ag_29, eo_29, fo_32_1, sz_30, ag_30, eo_30, fo_40_1, fo_36_0, sz_33, ag_33, eo_33, fo_36_1, sz_34, ag_34, eo_34, fo_40_2, sz_22, ag_22, eo_22]
  refine hK2 _ _ ?_
  refine awp_seq_k fun K3 hK3 => ?_
  refine awp_seq_s KT_ok hc rfl fun K4 hK4 => ?_
  simp -dsimp -implicitDefEqProofs (disch := first | omega | (simp only [maxLen, List.length_replicate, eq_self, true_and, and_true, and_self, avs_len, List.length_map, List.length_append, List.length_cons, List.length_nil, List.length_set, List.length_range, List.length_take, List.length_drop] <;> omega) | rfl | fail) only [sT_assign, sT_nil, frL_put, evalA_const]
  refine hK4 _ _ ?_
  refine awp_block ?_
  refine awp_loop_rt hp (fun τ' H' mm => ∃ (k : Nat) (s : Int), (k ≤ z.mems.length) ∧ mm = z.mems.length - k ∧ H' = [.cells (avs (oddC z))] ∧ τ' = frL [(1, .op 0 0), (3, .d (iD s)), (4, .d (iD k))]) (z.mems.length) ?_ ⟨0, IntKind.i64.wrap (IntKind.i64.wrap (IntKind.i64.wrap (IntKind.i64.wrap (z.regs.length + z.mems.length) + z.heads.length) + z.rooms.length) + z.v.length), Nat.zero_le _, rfl, rfl, rfl⟩ ?_
  · refine Rt.end (less_cons (less_cons (less_cons (less_nil _) (by first | rfl | (simp [Fr.put, frL, gcV, fzV, posN, iD, bD, uD, oD, intsD, boolsD, bytesD, intssD, bytessD]; done) | simp [Fr.put, frL, gcV, fzV, posN, iD, bD, uD, oD, intsD, boolsD, bytesD, intssD, bytessD, *])) (by first | rfl | (simp [Fr.put, frL, gcV, fzV, posN, iD, bD, uD, oD, intsD, boolsD, bytesD, intssD, bytessD]; done) | simp [Fr.put, frL, gcV, fzV, posN, iD, bD, uD, oD, intsD, boolsD, bytesD, intssD, bytessD, *])) (by first | rfl | (simp [Fr.put, frL, gcV, fzV, posN, iD, bD, uD, oD, intsD, boolsD, bytesD, intssD, bytessD]; done) | simp [Fr.put, frL, gcV, fzV, posN, iD, bD, uD, oD, intsD, boolsD, bytesD, intssD, bytessD, *])) ?_
    first | rfl | (simp only [intsD, boolsD, bytesD, intssD, bytessD, gcH, gcO, gcVs_avs, gcVs, gcV, gcV_d, fzH, fzO, fzVs_avs, fzVs, fzV, posN, avs_nil, avs_cons, List.map_cons, List.map_nil, List.getD_cons_zero, List.getD_cons_succ, ↓reduceIte, Nat.reduceEqDiff, Option.map_some, List.set_cons_zero, List.set_cons_succ, takeD_avs, takeD_all, Nat.mul_one, List.length_map, List.cons_append, List.nil_append, oddC, headsD, eD]; first | done | rfl)
  rintro τ' H' mm ⟨k, s, hk, rfl, rfl, rfl⟩
  refine awp_seq_k fun K5 hK5 => ?_
  refine awp_seq_s KT_ok hc rfl fun K6 hK6 => ?_
  simp -dsimp -implicitDefEqProofs (disch := first | omega | (simp only [maxLen, List.length_replicate, eq_self, true_and, and_true, and_self, avs_len, List.length_map, List.length_append, List.length_cons, List.length_nil, List.length_set, List.length_range, List.length_take, List.length_drop] <;> omega) | rfl | fail) only [sT_move, sT_load, sT_fa, sT_bin, sT_len, sT_nil, oK_some, Option.map_some, loadF, fieldAddrF, binF_v, lenF, builtinF, v_lss, ↓reduceIte, Bool.false_eq_true, eq_self, ifp, frL_get, frL_put, evalA_tmp, List.map_cons, List.map_nil, List.length_cons, List.length_nil, List.getElem?_cons_zero, List.getElem?_cons_succ, Nat.zero_add, Nat.add_zero, Nat.reduceEqDiff, avs_nil, avs_cons, iD, intsD, boolsD, bytesD, intssD, oddC, headsD, eD, fo_40_0, fo_32_1, sz_30, ag_30, eo_30]
  refine hK6 _ _ ?_
  refine awp_cond rfl (fun ht => ?_) (fun ht => ?_)
  · have hlt : k < z.mems.length := by simp at ht; omega
    refine awp_skip (hK5 _ _ ?_)
    refine awp_seq_k fun K7 hK7 => ?_
    refine awp_block ?_
    refine awp_s KT_ok hc rfl fun K8 hK8 => ?_
    simp -dsimp -implicitDefEqProofs (disch := first | omega | (simp only [maxLen, List.length_replicate, eq_self, true_and, and_true, and_self, avs_len, List.length_map, List.length_append, List.length_cons, List.length_nil, List.length_set, List.length_range, List.length_take, List.length_drop] <;> omega) | rfl | fail) only [sT_move, sT_assign, sT_load, sT_fa, sT_ia, sT_bin, sT_len, sT_nil, oK_some, Option.map_some, loadF, fieldAddrF, ixO, indexAddrF, binF_v, lenF, builtinF, ↓reduceIte, Bool.false_eq_true, eq_self, ifp, frL_get, frL_put, evalA_tmp, List.map_cons, List.map_nil, List.length_cons, List.length_nil, List.getElem?_cons_zero, List.getElem?_cons_succ, Int.toNat_natCast, Nat.mul_one, Nat.zero_add, Nat.add_zero, Nat.reduceEqDiff, get_map, intsD, v_addw, fo_40_0, fo_32_1, sz_30, ag_30, eo_30, sz_29, ag_29, eo_29]
    refine hK8 _ _ (hK7 _ _ ?_)
    refine awp_s KT_ok hc rfl fun K9 hK9 => ?_
    simp -dsimp -implicitDefEqProofs (disch := first | omega | (simp only [maxLen, List.length_replicate, eq_self, true_and, and_true, and_self, avs_len, List.length_map, List.length_append, List.length_cons, List.length_nil, List.length_set, List.length_range, List.length_take, List.length_drop] <;> omega) | rfl | fail) only [sT_move, sT_assign, sT_bin, sT_nil, oK_some, Option.map_some, binF_v, v_add, ↓reduceIte, eq_self, frL_get, frL_put, evalA_tmp, evalA_const, Nat.reduceEqDiff]
    refine hK9 _ _ ⟨_, _, _, ?_, ⟨k + 1, IntKind.i64.wrap (s + (nth z.mems k).length), by omega, rfl, rfl, rfl⟩, ?_⟩
    · first | omega | (simp only [List.length_cons]; omega) | (dsimp only; omega)
    · refine Rt.end (less_cons (less_cons (less_cons (less_nil _) (by first | rfl | (simp [Fr.put, frL, gcV, fzV, posN, iD, bD, uD, oD, intsD, boolsD, bytesD, intssD, bytessD]; done) | simp [Fr.put, frL, gcV, fzV, posN, iD, bD, uD, oD, intsD, boolsD, bytesD, intssD, bytessD, *])) (by first | rfl | (simp [Fr.put, frL, gcV, fzV, posN, iD, bD, uD, oD, intsD, boolsD, bytesD, intssD, bytessD]; done) | simp [Fr.put, frL, gcV, fzV, posN, iD, bD, uD, oD, intsD, boolsD, bytesD, intssD, bytessD, *])) (by first | rfl | (simp [Fr.put, frL, gcV, fzV, posN, iD, bD, uD, oD, intsD, boolsD, bytesD, intssD, bytessD]; done) | simp [Fr.put, frL, gcV, fzV, posN, iD, bD, uD, oD, intsD, boolsD, bytesD, intssD, bytessD, *])) ?_
      first | rfl | (simp only [intsD, boolsD, bytesD, intssD, bytessD, gcH, gcO, gcVs_avs, gcVs, gcV, gcV_d, fzH, fzO, fzVs_avs, fzVs, fzV, posN, avs_nil, avs_cons, List.map_cons, List.map_nil, List.getD_cons_zero, List.getD_cons_succ, ↓reduceIte, Nat.reduceEqDiff, Option.map_some, List.set_cons_zero, List.set_cons_succ, takeD_avs, takeD_all, Nat.mul_one, List.length_map, List.cons_append, List.nil_append, oddC, headsD, eD]; first | done | rfl)
  · refine awp_exit (hK3 _ _ ?_)
    refine awp_seq_s KT_ok hc rfl fun K10 hK10 => ?_
    simp -dsimp -implicitDefEqProofs (disch := first | omega | (simp only [maxLen, List.length_replicate, eq_self, true_and, and_true, and_self, avs_len, List.length_map, List.length_append, List.length_cons, List.length_nil, List.length_set, List.length_range, List.length_take, List.length_drop] <;> omega) | rfl | fail) only [sT_move, sT_assign, sT_bin, sT_nil, oK_some, Option.map_some, binF_v, v_leq, ↓reduceIte, eq_self, frL_get, frL_put, evalA_tmp, evalA_const, Nat.reduceEqDiff]
    refine hK10 _ _ ?_
    refine awp_ret ?_
    show ∃ r, closeA _ _ = some r ∧ _
    simp (disch := first | omega | (simp only [maxLen, List.length_replicate, eq_self, true_and, and_true, and_self, avs_len, List.length_map, List.length_append, List.length_cons, List.length_nil, List.length_set, List.length_range, List.length_take, List.length_drop] <;> omega) | rfl | fail) only [closeA, retV, deep_d, Nat.zero_add, D.fix, frL_get, ↓reduceIte, Option.map_some, List.length_cons, List.length_nil, oD]
    exact ⟨_, rfl, _, rfl⟩
structure R5 where
  a : Int
  b : Int
  c : Int
  d : Int
  e : Int
instance : Inhabited R5 := ⟨⟨0, 0, 0, 0, 0⟩⟩
structure R4 where
  a : Int
  b : Int
  c : Int
  d : Int
instance : Inhabited R4 := ⟨⟨0, 0, 0, 0⟩⟩
def r5C (g : R5) : List D := [bD g.a, bD g.b, bD g.c, bD g.d, bD g.e]
def r4C (g : R4) : List D := [bD g.a, bD g.b, bD g.c, bD g.d]
theorem r5_w (g : R5) : (r5C g).length = 5 := rfl
theorem r4_w (g : R4) : (r4C g).length = 4 := rfl
theorem r5_row {l : List R5} {k : Nat} (h : k < l.length) : takeD (l.flatMap r5C) (k * 5) 5 = some (r5C (nth l k)) := flat_row r5_w h
theorem r4_row {l : List R4} {k : Nat} (h : k < l.length) : takeD (l.flatMap r4C) (k * 4) 4 = some (r4C (nth l k)) := flat_row r4_w h
structure RawN where
  ins : List Int
  gates : List R5
  out : List R4
def B1 (n : Int) : Prop := 0 ≤ n ∧ n < 256
structure RawOk (x : RawN) : Prop where
  ins : ∀ k, k < x.ins.length → B1 (nth x.ins k)
  gates : ∀ k, k < x.gates.length → B1 (nth x.gates k).a ∧ B1 (nth x.gates k).b ∧ B1 (nth x.gates k).c ∧ B1 (nth x.gates k).d ∧ B1 (nth x.gates k).e
  out : ∀ k, k < x.out.length → B1 (nth x.out k).a ∧ B1 (nth x.out k).b ∧ B1 (nth x.out k).c ∧ B1 (nth x.out k).d
def rawC (x : RawN) : List D := [bytesD x.ins, .fs (x.gates.flatMap r5C) x.gates.length, .fs (x.out.flatMap r4C) x.out.length]
structure NetOk (n : Net) : Prop where
  i1 : 1 ≤ n.ins.length
  i2 : n.ins.length ≤ 9
  g1 : n.gates.length ≤ 60
  g2 : GatesOk (2 + n.ins.length) n.gates
  d0 : n.out.length = n.drive.length
  d1 : n.drive.length ≤ 9
  d2 : DriveOk (2 + n.ins.length + n.gates.length) n.drive
  d3 : 1 ≤ n.drive.length
theorem GatesOk.snoc {m : Nat} {l : List Gate} {g : Gate} (h : GatesOk m l) (hg : GateOk (m + l.length) g) : GatesOk m (l ++ [g]) := fun k hk => by
  by_cases hl : k < l.length
  · rw [nth_append_left hl]; exact h k hl
  · have : k = l.length := by simp at hk; omega
    subst this
    rw [nth_append_end]; exact hg
theorem DriveOk.snoc {m : Nat} {l : List Int} {d : Int} (h : DriveOk m l) (h0 : 0 ≤ d) (h1 : d < m) : DriveOk m (l ++ [d]) := fun k hk => by
  by_cases hl : k < l.length
  · rw [nth_append_left hl]; exact h k hl
  · have : k = l.length := by simp at hk; omega
    subst this
    rw [nth_append_end]; exact ⟨h0, h1⟩
theorem gates_nil (m : Nat) : GatesOk m [] := fun k hk => by simp at hk
theorem drive_nil (m : Nat) : DriveOk m [] := fun k hk => by simp at hk
theorem and1023 (a : Int) : 0 ≤ bitV .and .i64 a 1023 := by
  have h : (BitVec.ofInt 64 a &&& BitVec.ofInt 64 1023).toNat ≤ 1023 := by
    rw [BitVec.toNat_and]
    exact Nat.le_trans Nat.and_le_right (by decide)
  show 0 ≤ IntKind.i64.wrap ((BitVec.ofInt 64 a &&& BitVec.ofInt 64 1023).toNat : Int)
  rw [w_i64 (by omega) (by omega)]
  omega
theorem kinds_get {i : Nat} (h : i < 7) : ([.val (.int .i64 1), .val (.int .i64 5), .val (.int .i64 6), .val (.int .i64 7), .val (.int .i64 8), .val (.int .i64 9), .val (.int .i64 10)] : List D)[i]? = some (.val (.int .i64 (nth [1, 5, 6, 7, 8, 9, 10] i))) := by
  rcases (show i = 0 ∨ i = 1 ∨ i = 2 ∨ i = 3 ∨ i = 4 ∨ i = 5 ∨ i = 6 by omega) with rfl | rfl | rfl | rfl | rfl | rfl | rfl <;> rfl
end Go.Proofs.Ytfpcailbobjfnaa
