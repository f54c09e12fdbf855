/- The nets that bytes describe are valid (as netsim's laws have them). -/
import Derived.Test.YtgfnpfchdlcoeaaQ
import Derived.Test.YtgfnpfchdlcoeaaCv
set_option linter.unusedVariables false
set_option linter.unusedSimpArgs false
namespace Go.Proofs.Ytgfnpfchdlcoeaa
open Go Go.RowKit
def DriveOk (m : Nat) (l : List Int) : Prop := ∀ k, k < l.length → 0 ≤ nth l k ∧ nth l k < m
structure R5 where
  a : Int
  b : Int
  c : Int
  d : Int
  e : Int
instance : Inhabited R5 := ⟨⟨0, 0, 0, 0, 0⟩⟩
structure R4 where
  a : Int
  b : Int
  c : Int
  d : Int
instance : Inhabited R4 := ⟨⟨0, 0, 0, 0⟩⟩
def r5C (g : R5) : List D := [bD g.a, bD g.b, bD g.c, bD g.d, bD g.e]
def r4C (g : R4) : List D := [bD g.a, bD g.b, bD g.c, bD g.d]
theorem r5_w (g : R5) : (r5C g).length = 5 := rfl
theorem r4_w (g : R4) : (r4C g).length = 4 := rfl
theorem r5_row {l : List R5} {k : Nat} (h : k < l.length) : takeD (l.flatMap r5C) (k * 5) 5 = some (r5C (nth l k)) := flat_row r5_w h
theorem r4_row {l : List R4} {k : Nat} (h : k < l.length) : takeD (l.flatMap r4C) (k * 4) 4 = some (r4C (nth l k)) := flat_row r4_w h
structure RawN where
  ins : List Int
  gates : List R5
  out : List R4
def B1 (n : Int) : Prop := 0 ≤ n ∧ n < 256
structure RawOk (x : RawN) : Prop where
  ins : ∀ k, k < x.ins.length → B1 (nth x.ins k)
  gates : ∀ k, k < x.gates.length → B1 (nth x.gates k).a ∧ B1 (nth x.gates k).b ∧ B1 (nth x.gates k).c ∧ B1 (nth x.gates k).d ∧ B1 (nth x.gates k).e
  out : ∀ k, k < x.out.length → B1 (nth x.out k).a ∧ B1 (nth x.out k).b ∧ B1 (nth x.out k).c ∧ B1 (nth x.out k).d
def rawC (x : RawN) : List D := [bytesD x.ins, .fs (x.gates.flatMap r5C) x.gates.length, .fs (x.out.flatMap r4C) x.out.length]
structure NetOk (n : Net) : Prop where
  i1 : 1 ≤ n.ins.length
  i2 : n.ins.length ≤ 9
  g1 : n.gates.length ≤ 60
  g2 : GatesOk (2 + n.ins.length) n.gates
  d0 : n.out.length = n.drive.length
  d1 : n.drive.length ≤ 9
  d2 : DriveOk (2 + n.ins.length + n.gates.length) n.drive
  d3 : 1 ≤ n.drive.length
theorem GatesOk.snoc {m : Nat} {l : List Gate} {g : Gate} (h : GatesOk m l) (hg : GateOk (m + l.length) g) : GatesOk m (l ++ [g]) := fun k hk => by
  by_cases hl : k < l.length
  · rw [nth_append_left hl]; exact h k hl
  · have : k = l.length := by simp at hk; omega
    subst this
    rw [nth_append_end]; exact hg
theorem DriveOk.snoc {m : Nat} {l : List Int} {d : Int} (h : DriveOk m l) (h0 : 0 ≤ d) (h1 : d < m) : DriveOk m (l ++ [d]) := fun k hk => by
  by_cases hl : k < l.length
  · rw [nth_append_left hl]; exact h k hl
  · have : k = l.length := by simp at hk; omega
    subst this
    rw [nth_append_end]; exact ⟨h0, h1⟩
theorem gates_nil (m : Nat) : GatesOk m [] := fun k hk => by simp at hk
theorem drive_nil (m : Nat) : DriveOk m [] := fun k hk => by simp at hk
theorem and1023 (a : Int) : 0 ≤ bitV .and .i64 a 1023 := by
  have h : (BitVec.ofInt 64 a &&& BitVec.ofInt 64 1023).toNat ≤ 1023 := by
    rw [BitVec.toNat_and]
    exact Nat.le_trans Nat.and_le_right (by decide)
  show 0 ≤ IntKind.i64.wrap ((BitVec.ofInt 64 a &&& BitVec.ofInt 64 1023).toNat : Int)
  rw [w_i64 (by omega) (by omega)]
  omega
theorem kinds_get {i : Nat} (h : i < 7) : ([.val (.int .i64 1), .val (.int .i64 5), .val (.int .i64 6), .val (.int .i64 7), .val (.int .i64 8), .val (.int .i64 9), .val (.int .i64 10)] : List D)[i]? = some (.val (.int .i64 (nth [1, 5, 6, 7, 8, 9, 10] i))) := by
  rcases (show i = 0 ∨ i = 1 ∨ i = 2 ∨ i = 3 ∨ i = 4 ∨ i = 5 ∨ i = 6 by omega) with rfl | rfl | rfl | rfl | rfl | rfl | rfl <;> rfl
theorem mkG {ws : List Wire} {gs : List Gate} {k : Nat} (hw : gs.length = k) {a b c d e : Int} (a0 : 0 ≤ a) (a1 : a < 256) (b0 : 0 ≤ b) (b1 : b < 256) (c0 : 0 ≤ c) (c1 : c < 256) (d0 : 0 ≤ d) (d1 : d < 256) (e0 : 0 ≤ e) (e1 : e < 256) {u v w : Int}
    (hu : u = 0 ∨ u = c % (2 + ws.length + k)) (hv : v = 0 ∨ v = d % (2 + ws.length + k)) (hn : w = 0 ∨ w = 8 * (e % 3) + e / 3 % 2) : GateOk (2 + ws.length + gs.length) ⟨1 + a % 7, b % (2 + ws.length + k), u, v, w⟩ := by
  have hpos : (0 : Int) < 2 + ws.length + k := by omega
  have m (z : Int) : 0 ≤ z % (2 + ws.length + k) ∧ z % (2 + ws.length + k) < 2 + ws.length + k := ⟨Int.emod_nonneg _ (Int.ne_of_gt hpos), Int.emod_lt_of_pos _ hpos⟩
  have mb := m b
  have mc := m c
  have md := m d
  generalize b % (2 + ws.length + k : Int) = B at *
  generalize c % (2 + ws.length + k : Int) = C at *
  generalize d % (2 + ws.length + k : Int) = D at *
  subst hw
  constructor <;> simp only <;> omega
set_option maxRecDepth 100000 in
set_option linter.unusedVariables false in
set_option maxHeartbeats 4000000 in
theorem made_c (x : RawN) (hx : RawOk x) : RCalls Try.prog 12 [.agg (rawC x)] (fun r => ∃ n, NetOk n ∧ r = .d (netD n)) := by
  refine rcalls_of0 (fn := Try.f12) (by kernel_rfl) Try.func12 rfl (Nat.le_of_ble_eq_true rfl) fun c hc hp => ?_
  refine awp_less (τ' := frL [(0, .d (.agg (rawC x)))]) (less_cons (less_nil _) rfl) ?_
  refine awp_seq_s hp KT_ok hc rfl fun K1 hK1 => ?_
  simp -dsimp -implicitDefEqProofs (disch := first | assumption | omega | (simp [maxLen, avs_len, gates_len, wires_len] <;> omega) | decide) only [sT_box, sT_alloc, deadH, sT_nil, oK_some, q_o, layF, ↓reduceIte, q_b, q_f, q_s, q_l, as_dagg, D.one, q_n, map_d, avs_nil, avs_cons, bytesD, deadH, rawC, za_41]
  refine hK1 _ _ ?_
  refine awp_seq_s hp KT_ok hc rfl fun K2 hK2 => ?_
  simp -dsimp -implicitDefEqProofs (disch := first | assumption | omega | (simp [maxLen, avs_len, gates_len, wires_len] <;> omega) | decide) only [sT_build, sT_alloc, sT_bs, sT_store, deadH, sT_nil, oK_some, q_o, buildF, layF, storeF, ↓reduceIte, q_b, ifp, ifn, q_f, q_s, q_l, List.append_nil, List.replicate_zero, List.replicate_succ, reps_def, q_a, fill_cons, as_os, AV.one, D.one, Value.oneCell', q_n, Nat.reduceEqDiff, map_d, avs_nil, avs_cons, Nat.reduceAdd, deadH, Nat.zero_mul, Nat.reduceMul, List.flatten_cons, List.flatten_nil, pa_86, pl_86_0, zc_86, mk_38, pa_41, pl_41_0, sz_41, za_41, zc_41]
  refine hK2 _ _ ?_
  refine awp_seq_k fun K3 hK3 => ?_
  have hJ3 : ∀ τ' H', (∃ τ1 H1, ∃ (ws : List Wire), (1 ≤ ws.length ∧ ws.length ≤ 9) ∧ H1 = [.cells (avs (rawC x)), .cells [.d (.val (.slice none 0 0)), .d (.val (.slice none 0 0)), .d (.val (.slice none 0 0)), .d (.val (.slice none 0 0))], .cells [.os 3 3 0 ws.length, .d (.val (.slice none 0 0)), .d (.val (.slice none 0 0)), .d (.val (.slice none 0 0))], .cells (avs (ws.flatMap wireC))] ∧ τ1 = frL [(1, .op 0 0), (2, .op 1 0), (3, .op 2 0)] ∧ Rt [] τ' H' τ1 H1) → K3 τ' H' := by
    rintro τ' H' ⟨_, _, ws, ⟨w1, w2⟩, rfl, rfl, hrt⟩
    refine hK3 _ _ (awp_rt hp hrt ?_)
    clear hrt
    refine awp_seq_k fun K4 hK4 => ?_
    have hJ4 : ∀ τ' H', (∃ τ1 H1, ∃ (gs : List Gate), (gs.length ≤ 60 ∧ GatesOk (2 + ws.length) gs) ∧ H1 = [.cells (avs (rawC x)), .cells [.d (.val (.slice none 0 0)), .d (.val (.slice none 0 0)), .d (.val (.slice none 0 0)), .d (.val (.slice none 0 0))], .cells [.os 3 3 0 ws.length, .os 5 4 0 gs.length, .d (.val (.slice none 0 0)), .d (.val (.slice none 0 0))], .cells (avs (ws.flatMap wireC)), .cells (avs (gs.flatMap gateC))] ∧ τ1 = frL [(1, .op 0 0), (2, .op 1 0), (3, .op 2 0)] ∧ Rt [] τ' H' τ1 H1) → K4 τ' H' := by
      rintro τ' H' ⟨_, _, gs, ⟨g1, g2⟩, rfl, rfl, hrt⟩
      refine hK4 _ _ (awp_rt hp hrt ?_)
      clear hrt
      refine awp_seq_k fun K5 hK5 => ?_
      have hJ5 : ∀ τ' H', (∃ τ1 H1, ∃ (os : List Wire) (dr : List Int), (os.length = dr.length ∧ dr.length ≤ 9 ∧ DriveOk (2 + ws.length + gs.length) dr) ∧ H1 = [.cells (avs (rawC x)), .cells [.d (.val (.slice none 0 0)), .d (.val (.slice none 0 0)), .d (.val (.slice none 0 0)), .d (.val (.slice none 0 0))], .cells [.os 3 3 0 ws.length, .os 5 4 0 gs.length, .os 3 5 0 os.length, .os 1 6 0 dr.length], .cells (avs (ws.flatMap wireC)), .cells (avs (gs.flatMap gateC)), .cells (avs (os.flatMap wireC)), .cells (avs (dr.map iD))] ∧ τ1 = frL [(1, .op 0 0), (2, .op 1 0), (3, .op 2 0)] ∧ Rt [] τ' H' τ1 H1) → K5 τ' H' := by
        rintro τ' H' ⟨_, _, os, dr, ⟨ho, hd, hdr⟩, rfl, rfl, hrt⟩
        refine hK5 _ _ (awp_rt hp hrt ?_)
        clear hrt
        refine awp_seq_k fun K6 hK6 => ?_
        refine awp_seq_s hp KT_ok hc rfl fun K7 hK7 => ?_
        simp -dsimp -implicitDefEqProofs (disch := first | assumption | omega | (simp [maxLen, avs_len, gates_len, wires_len] <;> omega) | decide) only [sT_load, sT_fa, sT_bin, sT_len, sT_nil, oK_some, q_o, loadF, fieldAddrF, binF_v, lenF, builtinF, v_eql, ↓reduceIte, q_b, ifp, q_f, q_s, q_l, q_n, Nat.reduceEqDiff, avs_nil, avs_cons, bytesD, Nat.reduceAdd, rawC, fo_41_2, sz_38, ag_38, eo_38]
        refine hK7 _ _ ?_
        refine awp_cond rfl (fun ht => ?_) (fun ht => ?_)
        · refine awp_seq_s hp KT_ok hc rfl fun K8 hK8 => ?_
          simp -dsimp -implicitDefEqProofs (disch := first | assumption | omega | (simp only [maxLen, List.length_replicate, eq_self, true_and, and_true, and_self, avs_len, List.length_map, List.length_append, List.length_cons, List.length_nil, List.length_set, List.length_range, List.length_take, List.length_drop, gates_len, wires_len] <;> omega) | decide | fail) only [sT_load, sT_fa, sT_build, sT_bs, sT_app, sT_store, deadH, sT_nil, oK_some, Option.map_some, loadF, fieldAddrF, buildF, layF, srcF, storeF, ↓reduceIte, Bool.false_eq_true, eq_self, ifp, ifn, frL_get, frL_put, frL_none, evalA_tmp, evalA_const, List.map_cons, List.map_nil, List.length_cons, List.length_nil, List.getElem?_cons_zero, List.getElem?_cons_succ, List.cons_append, List.nil_append, List.append_nil, List.set_cons_zero, List.set_cons_succ, List.replicate_zero, List.replicate_succ, List.all_cons, List.all_nil, reps_def, fill_nil, fill_cons, as_int, as_os, as_agg, many_nil, many_cons, AV.one, D.one, Value.oneCell', Bool.and_self, true_and, Nat.zero_add, Nat.reduceEqDiff, avs_len, avs_app1, takeD_all, List.drop_zero, Nat.reduceAdd, List.nil_append, deadH, Nat.zero_mul, Nat.reduceMul, List.flatten_cons, List.flatten_nil, fo_41_2, sz_38, ag_38, pa_86, pl_86_0, zc_86, mk_38]
          refine hK8 _ _ ?_
          refine awp_s hp KT_ok hc rfl fun K9 hK9 => ?_
          simp -dsimp -implicitDefEqProofs (disch := first | assumption | omega | (simp [maxLen, avs_len, gates_len, wires_len] <;> omega) | decide) only [sT_load, sT_fa, sT_bin, sT_len, sT_bs, sT_app, sT_store, deadH, sT_nil, oK_some, q_o, loadF, fieldAddrF, binF_v, lenF, builtinF, layF, srcF, storeF, v_add, ↓reduceIte, q_b, ifp, ifn, q_f, q_s, q_l, List.append_nil, List.replicate_zero, List.replicate_succ, reps_def, q_a, fill_cons, as_os, q_n, Nat.reduceEqDiff, avs_len, avs_app1, takeD_all, List.drop_zero, Nat.reduceAdd, deadH, List.length_map, fo_41_3, sz_29, ag_29, fo_41_0, sz_38, ag_38, eo_38, fo_41_1, sz_39, ag_39, eo_39, mk_29]
          refine hK9 _ _ (hK6 _ _ ?_)
          refine awp_seq_s hp KT_ok hc rfl fun K10 hK10 => ?_
          simp -dsimp -implicitDefEqProofs (disch := first | assumption | omega | (simp [maxLen, avs_len, gates_len, wires_len] <;> omega) | decide) only [sT_load, sT_store, sT_nil, oK_some, q_o, loadF, storeF, ↓reduceIte, q_b, ifp, q_f, q_l, q_s, q_a, AV.one, q_n, Nat.reduceEqDiff, takeD_all, Nat.reduceAdd, sz_41, ag_41]
          refine hK10 _ _ ?_
          refine awp_ret ?_
          try dsimp only [thenA, inBlockA]
          refine PostA_retc rfl ?_
          simp -dsimp -implicitDefEqProofs (disch := first | assumption | omega | (simp only [maxLen, List.length_replicate, eq_self, true_and, and_true, and_self, avs_len, List.length_map, List.length_append, List.length_cons, List.length_nil, List.length_set, List.length_range, List.length_take, List.length_drop, gates_len, wires_len] <;> omega) | decide | fail) only [oK_some, Option.map_some, loadF, ↓reduceIte, eq_self, ifp, frL_get, List.length_cons, List.length_nil, List.getElem?_cons_zero, List.getElem?_cons_succ, Nat.zero_add, Nat.reduceEqDiff, takeD_all, Nat.reduceAdd, sz_41, ag_41]
          show ∃ r, closeA _ _ = some r ∧ _
          simp (disch := first | assumption | omega | (simp only [maxLen, List.length_replicate, eq_self, true_and, and_true, and_self, avs_len, List.length_map, List.length_append, List.length_cons, List.length_nil, List.length_set, List.length_range, List.length_take, List.length_drop, gates_len, wires_len] <;> omega) | decide | fail) only [List.map_cons, List.map_nil, closeA, deep_agg, deepL_avs, deepL_nil, deepL_cons, lookH_eq, cellsOf_c, deep_os, Nat.reduceAdd, Nat.zero_add, takeD_all, fixm_i, D.fix, Option.map_some, Option.bind_some, Nat.mul_one, List.getElem?_cons_zero, List.getElem?_cons_succ, List.length_cons, List.length_nil, gate_fix, wire_fix, List.map_append]
          have h0 : os = [] := List.eq_nil_of_length_eq_zero (by simp at ht; simpa using ht)
          have h1 : dr = [] := List.eq_nil_of_length_eq_zero (by rw [← ho, h0]; rfl)
          subst h0 h1
          refine ⟨_, rfl, ⟨ws, gs, [⟨1, 0, 0⟩], [1 + ws.length + gs.length]⟩, ⟨w1, w2, g1, g2, rfl, by simp, (drive_nil _).snoc (by omega) (by simp only; omega), by simp⟩, rfl⟩
        · refine awp_skip (hK6 _ _ ?_)
          refine awp_seq_s hp KT_ok hc rfl fun K11 hK11 => ?_
          simp -dsimp -implicitDefEqProofs (disch := first | assumption | omega | (simp [maxLen, avs_len, gates_len, wires_len] <;> omega) | decide) only [sT_load, sT_store, sT_nil, oK_some, q_o, loadF, storeF, ↓reduceIte, q_b, ifp, q_f, q_l, q_s, q_a, AV.one, q_n, Nat.reduceEqDiff, takeD_all, Nat.reduceAdd, sz_41, ag_41]
          refine hK11 _ _ ?_
          refine awp_ret ?_
          try dsimp only [thenA, inBlockA]
          refine PostA_retc rfl ?_
          simp -dsimp -implicitDefEqProofs (disch := first | assumption | omega | (simp [maxLen, avs_len, gates_len, wires_len] <;> omega) | decide) only [oK_some, q_o, loadF, ↓reduceIte, q_b, ifp, q_f, q_l, q_n, Nat.reduceEqDiff, takeD_all, Nat.reduceAdd, sz_41, ag_41]
          show ∃ r, closeA _ _ = some r ∧ _
          simp (disch := first | assumption | omega | (simp only [maxLen, List.length_replicate, eq_self, true_and, and_true, and_self, avs_len, List.length_map, List.length_append, List.length_cons, List.length_nil, List.length_set, List.length_range, List.length_take, List.length_drop, gates_len, wires_len] <;> omega) | decide | fail) only [closeA, deep_agg, deepL_avs, deepL_nil, deepL_cons, lookH_eq, cellsOf_c, deep_os, Nat.reduceAdd, Nat.zero_add, takeD_all, fixm_i, Option.map_some, Option.bind_some, Nat.mul_one, List.getElem?_cons_zero, List.getElem?_cons_succ, List.length_cons, List.length_nil, gate_fix, wire_fix]
          have h0 : ¬ os.length = 0 := by simpa using ht
          refine ⟨_, rfl, ⟨ws, gs, os, dr⟩, ⟨w1, w2, g1, g2, ho, hd, hdr, by simp only; omega⟩, ?_⟩
          simp [netD, netC, wiresD, gatesD, intsD]
      refine awp_seq_s hp KT_ok hc rfl fun K12 hK12 => ?_
      simp -dsimp -implicitDefEqProofs (disch := first | assumption | omega | (simp [maxLen, avs_len, gates_len, wires_len] <;> omega) | decide) only [sT_assign, sT_nil, q_f, avs_nil, avs_cons, bytesD, rawC]
      refine hK12 _ _ ?_
      refine awp_block ?_
      refine awp_loop_rt hp (fun τ' H' mm => ∃ (k : Nat) (os : List Wire) (dr : List Int), (k ≤ 9 ∧ os.length = k ∧ dr.length = k ∧ DriveOk (2 + ws.length + gs.length) dr) ∧ mm = 9 - k ∧ H' = [.cells (avs (rawC x)), .cells [.d (.val (.slice none 0 0)), .d (.val (.slice none 0 0)), .d (.val (.slice none 0 0)), .d (.val (.slice none 0 0))], .cells [.os 3 3 0 ws.length, .os 5 4 0 gs.length, .os 3 5 0 os.length, .os 1 6 0 dr.length], .cells (avs (ws.flatMap wireC)), .cells (avs (gs.flatMap gateC)), .cells (avs (os.flatMap wireC)), .cells (avs (dr.map iD))] ∧ τ' = frL [(1, .op 0 0), (2, .op 1 0), (3, .op 2 0), (10, .d (iD k))]) (9) ?_ ⟨0, [], [], ⟨by omega, rfl, rfl, drive_nil _⟩, rfl, rfl, rfl⟩ ?_
      · refine Rt.trans (Rt.nilc 2 2 3 rfl rfl) ?_
        refine Rt.trans (Rt.nilc 2 3 1 rfl rfl) ?_
        refine Rt.end (less_cons (less_cons (less_cons (less_cons (less_nil _) rfl) rfl) rfl) rfl) ?_
        first | rfl | (simp only [intsD, boolsD, bytesD, intssD, bytessD, gcH, gcO_c, gcO_de, gcO_fr, gc_m, fz_m, gcVs_avs, gcVs, gcV, gcV_d, fzH, fzO_c, fzO_de, fzO_fr, fzVs_avs, Nat.reduceAdd, fzVs, fzV, posN, avs_nil, avs_cons, List.map_cons, List.map_nil, List.getD_cons_zero, List.getD_cons_succ, ↓reduceIte, Nat.reduceEqDiff, Option.map_some, List.set_cons_zero, List.set_cons_succ, takeD_avs, takeD_all, Nat.mul_one, List.length_map, List.cons_append, List.nil_append, rawC, wireC, gateC, r5C, r4C, gate_w, wire_w]; first | done | rfl)
      rintro τ' H' mm ⟨k, os, dr, ⟨hk, ho, hd, hdr⟩, rfl, rfl, rfl⟩
      refine awp_seq_k fun K13 hK13 => ?_
      refine awp_seq_s hp KT_ok hc rfl fun K14 hK14 => ?_
      by_cases q : (k : Int) < x.out.length
      · simp -dsimp -implicitDefEqProofs (disch := first | assumption | omega | (simp [maxLen, avs_len, gates_len, wires_len] <;> omega) | decide) only [sT_move, sT_pick, sT_load, sT_fa, sT_bin, sT_len, sT_nil, sT_g, oK_some, gK_t, q_o, loadF, fieldAddrF, binF_v, lenF, builtinF, v_lss, ↓reduceIte, q_b, ifp, guardA_some, guardV_t, q_f, q_s, q_l, q_n, Nat.reduceEqDiff, avs_nil, avs_cons, iD, bytesD, Nat.reduceAdd, rawC, q, decide_true, fo_26_2, sz_24, ag_24, eo_24]
        refine hK14 _ _ ?_
        refine awp_cond rfl (fun ht => ?_) (fun ht => ?_)
        · have hlt : k < 9 := by simp at ht; omega
          have hl : k < x.out.length := by omega
          obtain ⟨⟨a0, a1⟩, ⟨b0, b1⟩, ⟨c0, c1⟩, ⟨d0, d1⟩⟩ := hx.out k hl
          have hn := and1023 (1 + ws.length + gs.length - (nth x.out k).d)
          have hpos : (0 : Int) < 2 + ws.length + gs.length := by omega
          have hm0 := Int.emod_nonneg (bitV .and .i64 (1 + ws.length + gs.length - (nth x.out k).d) 1023) (Int.ne_of_gt hpos)
          have hm1 := Int.emod_lt_of_pos (bitV .and .i64 (1 + ws.length + gs.length - (nth x.out k).d) 1023) hpos
          refine awp_skip (hK13 _ _ ?_)
          refine awp_seq_k fun K15 hK15 => ?_
          refine awp_block ?_
          refine awp_seq_s hp KT_ok hc rfl fun K16 hK16 => ?_
          simp -dsimp -implicitDefEqProofs (disch := first | assumption | omega | (simp [maxLen, avs_len, gates_len, wires_len] <;> omega) | decide) only [sT_move, sT_load, sT_fa, sT_ia, sT_alloc, sT_store, deadH, sT_nil, oK_some, q_o, loadF, fieldAddrF, ixO, indexAddrF, layF, storeF, ↓reduceIte, q_b, ifp, q_f, q_s, q_l, as_dagg, q_a, D.one, Value.oneCell', Int.toNat_natCast, q_n, Nat.reduceEqDiff, map_d, avs_nil, avs_cons, bD, Nat.reduceAdd, deadH, r4C, r4_row, fo_26_2, sz_24, ag_24, eo_24, sz_88, ag_88, za_88]
          refine hK16 _ _ ?_
          refine awp_seq_se KT_ok hc mixed rfl (q := 2) (by kernel_rfl) (by kernel_rfl) fun K17 hK17 => ?_
          simp -dsimp -implicitDefEqProofs (disch := first | assumption | omega | (simp [maxLen, avs_len, gates_len, wires_len] <;> omega) | decide) only [sE_load, sE_ia, sE_bin, sE_conv, sE_build, sE_alloc, sE_bs, sE_store, sE_nil, oK_some, q_o, loadF, ixO, indexAddrF, binF_v, convF, buildF, layF, layEF, storeF, v_rem, ↓reduceIte, q_b, ifp, ifn, q_f, q_s, q_l, List.replicate_zero, List.replicate_succ, reps_def, q_a, fill_cons, AV.one, D.one, Value.oneCell', and_true, q_n, Nat.reduceEqDiff, shB, appB, killAll, map_d, avs_nil, avs_cons, w_i64, Nat.reduceAdd, layEF, frzF, datas, Int.toNat_zero, Int.reduceToNat, kinds_get, eo_29, mk_29, eo_88, sz_5, ag_5, ik_5, sz_3, ag_3, ik_3, pa_86, pl_86_0, pl_86_1, pl_86_2, sz_86, za_86, zc_86]
          refine hK17 _ _ ?_
          refine awp_seq_s hp KT_ok hc rfl fun K18 hK18 => ?_
          simp -dsimp -implicitDefEqProofs (disch := first | assumption | omega | (simp only [maxLen, List.length_replicate, eq_self, true_and, and_true, and_self, avs_len, List.length_map, List.length_append, List.length_cons, List.length_nil, List.length_set, List.length_range, List.length_take, List.length_drop, gates_len, wires_len] <;> omega) | decide | fail) only [sT_load, sT_fa, sT_bs, sT_app, sT_store, deadH, sT_nil, oK_some, Option.map_some, loadF, fieldAddrF, layF, srcF, storeF, ↓reduceIte, Bool.false_eq_true, eq_self, ifp, ifn, frL_get, frL_put, frL_none, evalA_tmp, List.map_cons, List.map_nil, List.length_cons, List.length_nil, List.getElem?_cons_zero, List.getElem?_cons_succ, List.cons_append, List.nil_append, List.append_nil, List.set_cons_zero, List.set_cons_succ, List.replicate_zero, List.replicate_succ, List.all_cons, List.all_nil, reps_def, fill_nil, fill_cons, as_os, as_agg, many_nil, many_cons, AV.one, D.one, Value.oneCell', Bool.and_self, true_and, Nat.zero_add, Nat.reduceEqDiff, avs_len, avs_app1, takeD_all, List.drop_zero, Nat.reduceAdd, List.nil_append, deadH, Nat.zero_mul, Nat.reduceMul, List.flatten_cons, List.flatten_nil, fo_41_2, sz_38, ag_38, sz_86, ag_86, mk_38]
          refine hK18 _ _ ?_
          refine awp_se KT_ok hc mixed rfl (q := 2) (by kernel_rfl) (by kernel_rfl) fun K19 hK19 => ?_
          simp -dsimp -implicitDefEqProofs (disch := first | assumption | omega | (simp [maxLen, avs_len, gates_len, wires_len] <;> omega) | decide) only [sE_load, sE_fa, sE_ia, sE_bin, sE_conv, sE_len, sE_bs, sE_app, sE_store, sE_nil, oK_some, q_o, loadF, fieldAddrF, ixO, indexAddrF, binF_v, convF, lenF, builtinF, layF, layEF, srcF, storeF, v_add, v_sub, v_rem, v_and, ↓reduceIte, q_b, ifp, ifn, q_f, q_s, q_l, List.append_nil, List.replicate_zero, List.replicate_succ, reps_def, q_a, fill_cons, as_os, and_true, q_n, Nat.reduceEqDiff, shB, appB, baseOk_old, baseOk_dd, killAll, appSh, avs_len, avs_app1, List.drop_zero, w_i64, Nat.reduceAdd, List.length_map, layEF, frzF, datas, Int.reduceToNat, Nat.reduceBNe, List.filterMap_nil, fo_41_3, sz_29, ag_29, fo_41_0, sz_38, ag_38, eo_38, ik_3, fo_41_1, sz_39, ag_39, eo_39, eo_88, sz_5, ag_5, ik_5, mk_29]
          refine hK19 _ _ (hK15 _ _ ?_)
          refine awp_s hp KT_ok hc rfl fun K20 hK20 => ?_
          simp -dsimp -implicitDefEqProofs (disch := first | assumption | omega | (simp [maxLen, avs_len, gates_len, wires_len] <;> omega) | decide) only [sT_move, sT_assign, sT_bin, sT_nil, oK_some, q_o, binF_v, v_add, ↓reduceIte, q_b, q_f, Nat.reduceEqDiff]
          refine hK20 _ _ ⟨_, _, _, ?_, ⟨k + 1, os ++ [⟨nth [1, 5, 6, 7, 8, 9, 10] ((nth x.out k).a % 7).toNat, (nth x.out k).b % 3, (nth x.out k).c % 3⟩], dr ++ [bitV .and .i64 (1 + ws.length + gs.length - (nth x.out k).d) 1023 % (2 + ws.length + gs.length)], ⟨by omega, by simp [ho], by simp [hd], hdr.snoc hm0 (by omega)⟩, rfl, rfl, rfl⟩, ?_⟩
          · first | omega | (simp only [List.length_cons]; omega) | (dsimp only; omega)
          · refine Rt.trans (Rt.gc (keep := [0,1,2,3,4,11,13]) (by decide) (by decide) (by simp [])) ?_
            refine Rt.end (less_cons (less_cons (less_cons (less_cons (less_nil _) rfl) rfl) rfl) rfl) ?_
            simp only [bytesD, gcH, gcO_c, gcVs_avs, gcVs, gcV, Nat.reduceAdd, posN, avs_nil, avs_cons, List.map_cons, List.map_nil, List.getD_cons_zero, List.getD_cons_succ, ↓reduceIte, Nat.reduceEqDiff, Option.map_some, rawC]; simp [wireC, iD]
        · refine awp_exit (hJ5 _ _ ⟨_, _, os, dr, ⟨by omega, by omega, hdr⟩, rfl, rfl, ?_⟩)
          refine Rt.end (less_cons (less_cons (less_cons (less_nil _) rfl) rfl) rfl) ?_
          first | rfl | (simp only [intsD, boolsD, bytesD, intssD, bytessD, gcH, gcO_c, gcO_de, gcO_fr, gc_m, fz_m, gcVs_avs, gcVs, gcV, gcV_d, fzH, fzO_c, fzO_de, fzO_fr, fzVs_avs, Nat.reduceAdd, fzVs, fzV, posN, avs_nil, avs_cons, List.map_cons, List.map_nil, List.getD_cons_zero, List.getD_cons_succ, ↓reduceIte, Nat.reduceEqDiff, Option.map_some, List.set_cons_zero, List.set_cons_succ, takeD_avs, takeD_all, Nat.mul_one, List.length_map, List.cons_append, List.nil_append, rawC, wireC, gateC, r5C, r4C, gate_w, wire_w]; first | done | rfl)
      · simp -dsimp -implicitDefEqProofs (disch := first | assumption | omega | (simp [maxLen, avs_len, gates_len, wires_len] <;> omega) | decide) only [sT_move, sT_pick, sT_load, sT_fa, sT_bin, sT_len, sT_nil, sT_g, oK_some, gK_f, q_o, loadF, fieldAddrF, binF_v, lenF, builtinF, v_lss, ↓reduceIte, q_b, ifp, guardA_some, guardV_t, q_f, q_s, q_l, q_n, Nat.reduceEqDiff, avs_nil, avs_cons, iD, bytesD, Nat.reduceAdd, rawC, q, decide_false, fo_26_2, sz_24, ag_24, eo_24]
        refine hK14 _ _ ?_
        refine awp_cond rfl (fun ht => ?_) (fun ht => ?_)
        · cases ht
        · refine awp_exit (hJ5 _ _ ⟨_, _, os, dr, ⟨by omega, by omega, hdr⟩, rfl, rfl, ?_⟩)
          refine Rt.end (less_cons (less_cons (less_cons (less_nil _) rfl) rfl) rfl) ?_
          first | rfl | (simp only [intsD, boolsD, bytesD, intssD, bytessD, gcH, gcO_c, gcO_de, gcO_fr, gc_m, fz_m, gcVs_avs, gcVs, gcV, gcV_d, fzH, fzO_c, fzO_de, fzO_fr, fzVs_avs, Nat.reduceAdd, fzVs, fzV, posN, avs_nil, avs_cons, List.map_cons, List.map_nil, List.getD_cons_zero, List.getD_cons_succ, ↓reduceIte, Nat.reduceEqDiff, Option.map_some, List.set_cons_zero, List.set_cons_succ, takeD_avs, takeD_all, Nat.mul_one, List.length_map, List.cons_append, List.nil_append, rawC, wireC, gateC, r5C, r4C, gate_w, wire_w]; first | done | rfl)
    refine awp_seq_s hp KT_ok hc rfl fun K21 hK21 => ?_
    simp -dsimp -implicitDefEqProofs (disch := first | assumption | omega | (simp [maxLen, avs_len, gates_len, wires_len] <;> omega) | decide) only [sT_assign, sT_nil, q_f, avs_nil, avs_cons, bytesD, rawC]
    refine hK21 _ _ ?_
    refine awp_block ?_
    refine awp_loop_rt hp (fun τ' H' mm => ∃ (k : Nat) (gs : List Gate), (k ≤ 60 ∧ gs.length = k ∧ GatesOk (2 + ws.length) gs) ∧ mm = 60 - k ∧ H' = [.cells (avs (rawC x)), .cells [.d (.val (.slice none 0 0)), .d (.val (.slice none 0 0)), .d (.val (.slice none 0 0)), .d (.val (.slice none 0 0))], .cells [.os 3 3 0 ws.length, .os 5 4 0 gs.length, .d (.val (.slice none 0 0)), .d (.val (.slice none 0 0))], .cells (avs (ws.flatMap wireC)), .cells (avs (gs.flatMap gateC))] ∧ τ' = frL [(1, .op 0 0), (2, .op 1 0), (3, .op 2 0), (6, .d (iD k))]) (60) ?_ ⟨0, [], ⟨by omega, rfl, gates_nil _⟩, rfl, rfl, rfl⟩ ?_
    · refine Rt.trans (Rt.nilc 2 1 5 rfl rfl) ?_
      refine Rt.end (less_cons (less_cons (less_cons (less_cons (less_nil _) rfl) rfl) rfl) rfl) ?_
      first | rfl | (simp only [intsD, boolsD, bytesD, intssD, bytessD, gcH, gcO_c, gcO_de, gcO_fr, gc_m, fz_m, gcVs_avs, gcVs, gcV, gcV_d, fzH, fzO_c, fzO_de, fzO_fr, fzVs_avs, Nat.reduceAdd, fzVs, fzV, posN, avs_nil, avs_cons, List.map_cons, List.map_nil, List.getD_cons_zero, List.getD_cons_succ, ↓reduceIte, Nat.reduceEqDiff, Option.map_some, List.set_cons_zero, List.set_cons_succ, takeD_avs, takeD_all, Nat.mul_one, List.length_map, List.cons_append, List.nil_append, rawC, wireC, gateC, r5C, r4C, gate_w, wire_w]; first | done | rfl)
    rintro τ' H' mm ⟨k, gs, ⟨hk, hw, hgs⟩, rfl, rfl, rfl⟩
    refine awp_seq_k fun K22 hK22 => ?_
    refine awp_seq_s hp KT_ok hc rfl fun K23 hK23 => ?_
    by_cases q : (k : Int) < x.gates.length
    · simp -dsimp -implicitDefEqProofs (disch := first | assumption | omega | (simp [maxLen, avs_len, gates_len, wires_len] <;> omega) | decide) only [sT_move, sT_pick, sT_load, sT_fa, sT_bin, sT_len, sT_nil, sT_g, oK_some, gK_t, q_o, loadF, fieldAddrF, binF_v, lenF, builtinF, v_lss, ↓reduceIte, q_b, ifp, guardA_some, guardV_t, q_f, q_s, q_l, q_n, Nat.reduceEqDiff, avs_nil, avs_cons, iD, bytesD, Nat.reduceAdd, rawC, q, decide_true, fo_26_1, sz_23, ag_23, eo_23]
      refine hK23 _ _ ?_
      refine awp_cond rfl (fun ht => ?_) (fun ht => ?_)
      · have hlt : k < 60 := by simp at ht; omega
        have hl : k < x.gates.length := by omega
        obtain ⟨⟨a0, a1⟩, ⟨b0, b1⟩, ⟨c0, c1⟩, ⟨d0, d1⟩, ⟨e0, e1⟩⟩ := hx.gates k hl
        refine awp_skip (hK22 _ _ ?_)
        refine awp_seq_k fun K24 hK24 => ?_
        refine awp_block ?_
        refine awp_seq_se KT_ok hc mixed rfl (q := 1) (by kernel_rfl) (by kernel_rfl) fun K25 hK25 => ?_
        simp -dsimp -implicitDefEqProofs (disch := first | assumption | omega | (simp [maxLen, avs_len, gates_len, wires_len] <;> omega) | decide) only [sE_move, sE_assign, sE_load, sE_fa, sE_ia, sE_bin, sE_len, sE_alloc, sE_store, sE_nil, oK_some, q_o, loadF, fieldAddrF, ixO, indexAddrF, binF_v, lenF, builtinF, layF, layEF, storeF, v_add, ↓reduceIte, q_b, ifp, q_f, q_s, q_l, List.replicate_zero, List.replicate_succ, as_dagg, q_a, D.one, Value.oneCell', and_self, Int.toNat_natCast, q_n, Nat.reduceEqDiff, shB, appB, killAll, map_d, avs_nil, avs_cons, bD, Nat.reduceAdd, layEF, frzF, r5C, r5_row, fo_26_1, sz_23, ag_23, eo_23, sz_87, ag_87, fo_41_0, sz_38, ag_38, eo_38, za_87]
        refine hK25 _ _ ?_
        refine awp_seq_se KT_ok hc mixed rfl (q := 1) (by kernel_rfl) (by kernel_rfl) fun K26 hK26 => ?_
        simp -dsimp -implicitDefEqProofs (disch := first | assumption | omega | (simp [maxLen, avs_len, gates_len, wires_len] <;> omega) | decide) only [sE_move, sE_load, sE_ia, sE_bin, sE_conv, sE_build, sE_alloc, sE_store, sE_nil, oK_some, q_o, loadF, ixO, indexAddrF, binF_v, convF, buildF, layF, layEF, storeF, v_add, v_rem, ↓reduceIte, q_b, ifp, ifn, q_f, q_s, q_l, List.replicate_zero, List.replicate_succ, q_a, fill_cons, AV.one, D.one, Value.oneCell', q_n, Nat.reduceEqDiff, shB, appB, killAll, map_d, avs_nil, avs_cons, w_i64, Nat.reduceAdd, layEF, frzF, Int.toNat_zero, Int.reduceToNat, eo_87, sz_5, ag_5, ik_5, ik_3, pa_64, pl_64_0, pl_64_1, sz_64, za_64, zc_64]
        refine hK26 _ _ ?_
        refine awp_seq_k fun K27 hK27 => ?_
        refine awp_seq_s hp KT_ok hc rfl fun K28 hK28 => ?_
        simp -dsimp -implicitDefEqProofs (disch := first | assumption | omega | (simp [maxLen, avs_len, gates_len, wires_len] <;> omega) | decide) only [sT_load, sT_fa, sT_bin, sT_nil, oK_some, q_o, loadF, fieldAddrF, binF_v, v_neq, ↓reduceIte, q_b, ifp, q_f, q_l, q_n, Nat.reduceAdd, fo_64_0, sz_3, ag_3]
        refine hK28 _ _ ?_
        refine awp_cond rfl (fun ht => ?_) (fun ht => ?_)
        · have f1 : ¬ 1 + (nth x.gates k).a % 7 = 1 := by simpa using ht
          refine awp_s hp KT_ok hc rfl fun K29 hK29 => ?_
          simp -dsimp -implicitDefEqProofs (disch := first | assumption | omega | (simp [maxLen, avs_len, gates_len, wires_len] <;> omega) | decide) only [sT_move, sT_load, sT_fa, sT_ia, sT_bin, sT_conv, sT_store, sT_nil, oK_some, q_o, loadF, fieldAddrF, ixO, indexAddrF, binF_v, convF, storeF, v_rem, ↓reduceIte, q_b, ifp, q_f, q_l, q_s, q_a, q_n, Nat.reduceEqDiff, w_i64, Nat.reduceAdd, Int.reduceToNat, eo_87, sz_5, ag_5, ik_5, sz_3, ik_3, fo_64_2]
          refine hK29 _ _ (hK27 _ _ ?_)
          refine awp_seq_k fun K30 hK30 => ?_
          refine awp_seq_s hp KT_ok hc rfl fun K31 hK31 => ?_
          simp -dsimp -implicitDefEqProofs (disch := first | assumption | omega | (simp [maxLen, avs_len, gates_len, wires_len] <;> omega) | decide) only [sT_load, sT_fa, sT_bin, sT_nil, oK_some, q_o, loadF, fieldAddrF, binF_v, v_geq, ↓reduceIte, q_b, ifp, q_f, q_l, q_n, Nat.reduceEqDiff, Nat.reduceAdd, fo_64_0, sz_3, ag_3]
          refine hK31 _ _ ?_
          refine awp_cond rfl (fun ht => ?_) (fun ht => ?_)
          · have f2 : 5 ≤ 1 + (nth x.gates k).a % 7 := by simpa using ht
            refine awp_s hp KT_ok hc rfl fun K32 hK32 => ?_
            simp -dsimp -implicitDefEqProofs (disch := first | assumption | omega | (simp [maxLen, avs_len, gates_len, wires_len] <;> omega) | decide) only [sT_move, sT_load, sT_fa, sT_ia, sT_bin, sT_conv, sT_store, sT_nil, oK_some, q_o, loadF, fieldAddrF, ixO, indexAddrF, binF_v, convF, storeF, v_rem, ↓reduceIte, q_b, ifp, q_f, q_l, q_s, q_a, q_n, Nat.reduceEqDiff, w_i64, Nat.reduceAdd, Int.reduceToNat, eo_87, sz_5, ag_5, ik_5, sz_3, ik_3, fo_64_3]
            refine hK32 _ _ (hK30 _ _ ?_)
            refine awp_seq_k fun K33 hK33 => ?_
            refine awp_seq_s hp KT_ok hc rfl fun K34 hK34 => ?_
            simp -dsimp -implicitDefEqProofs (disch := first | assumption | omega | (simp [maxLen, avs_len, gates_len, wires_len] <;> omega) | decide) only [sT_load, sT_fa, sT_bin, sT_nil, oK_some, q_o, loadF, fieldAddrF, binF_v, v_eql, ↓reduceIte, q_b, ifp, q_f, q_l, q_n, Nat.reduceEqDiff, Nat.reduceAdd, fo_64_0, sz_3, ag_3]
            refine hK34 _ _ ?_
            refine awp_cond rfl (fun ht => ?_) (fun ht => ?_)
            · have f3 : 1 + (nth x.gates k).a % 7 = 7 := by simpa using ht
              refine awp_s hp KT_ok hc rfl fun K35 hK35 => ?_
              simp -dsimp -implicitDefEqProofs (disch := first | assumption | omega | (simp [maxLen, avs_len, gates_len, wires_len] <;> omega) | decide) only [sT_load, sT_fa, sT_ia, sT_bin, sT_conv, sT_store, sT_nil, oK_some, q_o, loadF, fieldAddrF, ixO, indexAddrF, binF_v, convF, storeF, v_add, v_mul, v_rem, ↓reduceIte, q_b, ifp, q_f, q_l, q_s, q_a, q_n, Nat.reduceEqDiff, w_i64, v_quo8, Nat.reduceAdd, Int.reduceToNat, eo_87, sz_5, ag_5, ik_5, sz_3, ik_3, fo_64_4]
              refine hK35 _ _ (hK33 _ _ ?_)
              refine awp_s hp KT_ok hc rfl fun K36 hK36 => ?_
              simp -dsimp -implicitDefEqProofs (disch := first | assumption | omega | (simp only [maxLen, List.length_replicate, eq_self, true_and, and_true, and_self, avs_len, List.length_map, List.length_append, List.length_cons, List.length_nil, List.length_set, List.length_range, List.length_take, List.length_drop, gates_len, wires_len] <;> omega) | decide | fail) only [sT_load, sT_fa, sT_bs, sT_app, sT_store, deadH, sT_nil, oK_some, Option.map_some, loadF, fieldAddrF, layF, srcF, storeF, ↓reduceIte, Bool.false_eq_true, eq_self, ifp, ifn, frL_get, frL_put, frL_none, evalA_tmp, List.map_cons, List.map_nil, List.length_cons, List.length_nil, List.getElem?_cons_zero, List.getElem?_cons_succ, List.cons_append, List.nil_append, List.append_nil, List.set_cons_zero, List.set_cons_succ, List.replicate_zero, List.replicate_succ, List.all_cons, List.all_nil, reps_def, fill_nil, fill_cons, as_os, as_agg, many_nil, many_cons, AV.one, D.one, Value.oneCell', Bool.and_self, true_and, Nat.zero_add, Nat.reduceEqDiff, avs_len, avs_app1, takeD_all, List.drop_zero, Nat.reduceAdd, List.nil_append, deadH, Nat.zero_mul, Nat.reduceMul, List.flatten_cons, List.flatten_nil, fo_41_1, sz_39, ag_39, sz_64, ag_64, mk_39]
              refine hK36 _ _ (hK24 _ _ ?_)
              refine awp_s hp KT_ok hc rfl fun K37 hK37 => ?_
              simp -dsimp -implicitDefEqProofs (disch := first | assumption | omega | (simp [maxLen, avs_len, gates_len, wires_len] <;> omega) | decide) only [sT_move, sT_assign, sT_bin, sT_nil, oK_some, q_o, binF_v, v_add, ↓reduceIte, q_b, q_f, Nat.reduceEqDiff]
              refine hK37 _ _ ⟨_, _, _, ?_, ⟨k + 1, gs ++ [⟨1 + (nth x.gates k).a % 7, (nth x.gates k).b % (2 + ws.length + k), (nth x.gates k).c % (2 + ws.length + k), (nth x.gates k).d % (2 + ws.length + k), 8 * ((nth x.gates k).e % 3) + (nth x.gates k).e / 3 % 2⟩], ⟨by omega, by simp [hw], hgs.snoc (mkG hw a0 a1 b0 b1 c0 c1 d0 d1 e0 e1 (.inr rfl) (.inr rfl) (.inr rfl))⟩, rfl, rfl, rfl⟩, ?_⟩
              · first | omega | (simp only [List.length_cons]; omega) | (dsimp only; omega)
              · refine Rt.trans (Rt.gc (keep := [0,1,2,3,8]) (by decide) (by decide) (by simp [])) ?_
                refine Rt.end (less_cons (less_cons (less_cons (less_cons (less_nil _) rfl) rfl) rfl) rfl) ?_
                simp only [bytesD, gcH, gcO_c, gcVs_avs, gcVs, gcV, Nat.reduceAdd, posN, avs_nil, avs_cons, List.map_cons, List.map_nil, List.getD_cons_zero, List.getD_cons_succ, ↓reduceIte, Nat.reduceEqDiff, Option.map_some, rawC]; simp [gateC, iD]
            · have f3 : ¬ 1 + (nth x.gates k).a % 7 = 7 := by simpa using ht
              refine awp_skip (hK33 _ _ ?_)
              refine awp_s hp KT_ok hc rfl fun K38 hK38 => ?_
              simp -dsimp -implicitDefEqProofs (disch := first | assumption | omega | (simp only [maxLen, List.length_replicate, eq_self, true_and, and_true, and_self, avs_len, List.length_map, List.length_append, List.length_cons, List.length_nil, List.length_set, List.length_range, List.length_take, List.length_drop, gates_len, wires_len] <;> omega) | decide | fail) only [sT_load, sT_fa, sT_bs, sT_app, sT_store, deadH, sT_nil, oK_some, Option.map_some, loadF, fieldAddrF, layF, srcF, storeF, ↓reduceIte, Bool.false_eq_true, eq_self, ifp, ifn, frL_get, frL_put, frL_none, evalA_tmp, List.map_cons, List.map_nil, List.length_cons, List.length_nil, List.getElem?_cons_zero, List.getElem?_cons_succ, List.cons_append, List.nil_append, List.append_nil, List.set_cons_zero, List.set_cons_succ, List.replicate_zero, List.replicate_succ, List.all_cons, List.all_nil, reps_def, fill_nil, fill_cons, as_os, as_agg, many_nil, many_cons, AV.one, D.one, Value.oneCell', Bool.and_self, true_and, Nat.zero_add, Nat.reduceEqDiff, avs_len, avs_app1, takeD_all, List.drop_zero, Nat.reduceAdd, List.nil_append, deadH, Nat.zero_mul, Nat.reduceMul, List.flatten_cons, List.flatten_nil, fo_41_1, sz_39, ag_39, sz_64, ag_64, mk_39]
              refine hK38 _ _ (hK24 _ _ ?_)
              refine awp_s hp KT_ok hc rfl fun K39 hK39 => ?_
              simp -dsimp -implicitDefEqProofs (disch := first | assumption | omega | (simp [maxLen, avs_len, gates_len, wires_len] <;> omega) | decide) only [sT_move, sT_assign, sT_bin, sT_nil, oK_some, q_o, binF_v, v_add, ↓reduceIte, q_b, q_f, Nat.reduceEqDiff]
              refine hK39 _ _ ⟨_, _, _, ?_, ⟨k + 1, gs ++ [⟨1 + (nth x.gates k).a % 7, (nth x.gates k).b % (2 + ws.length + k), (nth x.gates k).c % (2 + ws.length + k), (nth x.gates k).d % (2 + ws.length + k), 0⟩], ⟨by omega, by simp [hw], hgs.snoc (mkG hw a0 a1 b0 b1 c0 c1 d0 d1 e0 e1 (.inr rfl) (.inr rfl) (.inl rfl))⟩, rfl, rfl, rfl⟩, ?_⟩
              · first | omega | (simp only [List.length_cons]; omega) | (dsimp only; omega)
              · refine Rt.trans (Rt.gc (keep := [0,1,2,3,8]) (by decide) (by decide) (by simp [])) ?_
                refine Rt.end (less_cons (less_cons (less_cons (less_cons (less_nil _) rfl) rfl) rfl) rfl) ?_
                simp only [bytesD, gcH, gcO_c, gcVs_avs, gcVs, gcV, Nat.reduceAdd, posN, avs_nil, avs_cons, List.map_cons, List.map_nil, List.getD_cons_zero, List.getD_cons_succ, ↓reduceIte, Nat.reduceEqDiff, Option.map_some, rawC]; simp [gateC, iD]
          · have f2 : ¬ 5 ≤ 1 + (nth x.gates k).a % 7 := by simpa using ht
            refine awp_skip (hK30 _ _ ?_)
            refine awp_seq_k fun K40 hK40 => ?_
            refine awp_seq_s hp KT_ok hc rfl fun K41 hK41 => ?_
            simp -dsimp -implicitDefEqProofs (disch := first | assumption | omega | (simp [maxLen, avs_len, gates_len, wires_len] <;> omega) | decide) only [sT_load, sT_fa, sT_bin, sT_nil, oK_some, q_o, loadF, fieldAddrF, binF_v, v_eql, ↓reduceIte, q_b, ifp, q_f, q_l, q_n, Nat.reduceEqDiff, Nat.reduceAdd, fo_64_0, sz_3, ag_3]
            refine hK41 _ _ ?_
            refine awp_cond rfl (fun ht => ?_) (fun ht => ?_)
            · exfalso
              simp at ht
              omega
            · refine awp_skip (hK40 _ _ ?_)
              refine awp_s hp KT_ok hc rfl fun K42 hK42 => ?_
              simp -dsimp -implicitDefEqProofs (disch := first | assumption | omega | (simp only [maxLen, List.length_replicate, eq_self, true_and, and_true, and_self, avs_len, List.length_map, List.length_append, List.length_cons, List.length_nil, List.length_set, List.length_range, List.length_take, List.length_drop, gates_len, wires_len] <;> omega) | decide | fail) only [sT_load, sT_fa, sT_bs, sT_app, sT_store, deadH, sT_nil, oK_some, Option.map_some, loadF, fieldAddrF, layF, srcF, storeF, ↓reduceIte, Bool.false_eq_true, eq_self, ifp, ifn, frL_get, frL_put, frL_none, evalA_tmp, List.map_cons, List.map_nil, List.length_cons, List.length_nil, List.getElem?_cons_zero, List.getElem?_cons_succ, List.cons_append, List.nil_append, List.append_nil, List.set_cons_zero, List.set_cons_succ, List.replicate_zero, List.replicate_succ, List.all_cons, List.all_nil, reps_def, fill_nil, fill_cons, as_os, as_agg, many_nil, many_cons, AV.one, D.one, Value.oneCell', Bool.and_self, true_and, Nat.zero_add, Nat.reduceEqDiff, avs_len, avs_app1, takeD_all, List.drop_zero, Nat.reduceAdd, List.nil_append, deadH, Nat.zero_mul, Nat.reduceMul, List.flatten_cons, List.flatten_nil, fo_41_1, sz_39, ag_39, sz_64, ag_64, mk_39]
              refine hK42 _ _ (hK24 _ _ ?_)
              refine awp_s hp KT_ok hc rfl fun K43 hK43 => ?_
              simp -dsimp -implicitDefEqProofs (disch := first | assumption | omega | (simp [maxLen, avs_len, gates_len, wires_len] <;> omega) | decide) only [sT_move, sT_assign, sT_bin, sT_nil, oK_some, q_o, binF_v, v_add, ↓reduceIte, q_b, q_f, Nat.reduceEqDiff]
              refine hK43 _ _ ⟨_, _, _, ?_, ⟨k + 1, gs ++ [⟨1 + (nth x.gates k).a % 7, (nth x.gates k).b % (2 + ws.length + k), (nth x.gates k).c % (2 + ws.length + k), 0, 0⟩], ⟨by omega, by simp [hw], hgs.snoc (mkG hw a0 a1 b0 b1 c0 c1 d0 d1 e0 e1 (.inr rfl) (.inl rfl) (.inl rfl))⟩, rfl, rfl, rfl⟩, ?_⟩
              · first | omega | (simp only [List.length_cons]; omega) | (dsimp only; omega)
              · refine Rt.trans (Rt.gc (keep := [0,1,2,3,8]) (by decide) (by decide) (by simp [])) ?_
                refine Rt.end (less_cons (less_cons (less_cons (less_cons (less_nil _) rfl) rfl) rfl) rfl) ?_
                simp only [bytesD, gcH, gcO_c, gcVs_avs, gcVs, gcV, Nat.reduceAdd, posN, avs_nil, avs_cons, List.map_cons, List.map_nil, List.getD_cons_zero, List.getD_cons_succ, ↓reduceIte, Nat.reduceEqDiff, Option.map_some, rawC]; simp [gateC, iD]
        · have f1 : 1 + (nth x.gates k).a % 7 = 1 := by simpa using ht
          refine awp_skip (hK27 _ _ ?_)
          refine awp_seq_k fun K44 hK44 => ?_
          refine awp_seq_s hp KT_ok hc rfl fun K45 hK45 => ?_
          simp -dsimp -implicitDefEqProofs (disch := first | assumption | omega | (simp [maxLen, avs_len, gates_len, wires_len] <;> omega) | decide) only [sT_load, sT_fa, sT_bin, sT_nil, oK_some, q_o, loadF, fieldAddrF, binF_v, v_geq, ↓reduceIte, q_b, ifp, q_f, q_l, q_n, Nat.reduceEqDiff, Nat.reduceAdd, fo_64_0, sz_3, ag_3]
          refine hK45 _ _ ?_
          refine awp_cond rfl (fun ht => ?_) (fun ht => ?_)
          · exfalso
            simp at ht
            omega
          · refine awp_skip (hK44 _ _ ?_)
            refine awp_seq_k fun K46 hK46 => ?_
            refine awp_seq_s hp KT_ok hc rfl fun K47 hK47 => ?_
            simp -dsimp -implicitDefEqProofs (disch := first | assumption | omega | (simp [maxLen, avs_len, gates_len, wires_len] <;> omega) | decide) only [sT_load, sT_fa, sT_bin, sT_nil, oK_some, q_o, loadF, fieldAddrF, binF_v, v_eql, ↓reduceIte, q_b, ifp, q_f, q_l, q_n, Nat.reduceEqDiff, Nat.reduceAdd, fo_64_0, sz_3, ag_3]
            refine hK47 _ _ ?_
            refine awp_cond rfl (fun ht => ?_) (fun ht => ?_)
            · exfalso
              simp at ht
              omega
            · refine awp_skip (hK46 _ _ ?_)
              refine awp_s hp KT_ok hc rfl fun K48 hK48 => ?_
              simp -dsimp -implicitDefEqProofs (disch := first | assumption | omega | (simp only [maxLen, List.length_replicate, eq_self, true_and, and_true, and_self, avs_len, List.length_map, List.length_append, List.length_cons, List.length_nil, List.length_set, List.length_range, List.length_take, List.length_drop, gates_len, wires_len] <;> omega) | decide | fail) only [sT_load, sT_fa, sT_bs, sT_app, sT_store, deadH, sT_nil, oK_some, Option.map_some, loadF, fieldAddrF, layF, srcF, storeF, ↓reduceIte, Bool.false_eq_true, eq_self, ifp, ifn, frL_get, frL_put, frL_none, evalA_tmp, List.map_cons, List.map_nil, List.length_cons, List.length_nil, List.getElem?_cons_zero, List.getElem?_cons_succ, List.cons_append, List.nil_append, List.append_nil, List.set_cons_zero, List.set_cons_succ, List.replicate_zero, List.replicate_succ, List.all_cons, List.all_nil, reps_def, fill_nil, fill_cons, as_os, as_agg, many_nil, many_cons, AV.one, D.one, Value.oneCell', Bool.and_self, true_and, Nat.zero_add, Nat.reduceEqDiff, avs_len, avs_app1, takeD_all, List.drop_zero, Nat.reduceAdd, List.nil_append, deadH, Nat.zero_mul, Nat.reduceMul, List.flatten_cons, List.flatten_nil, fo_41_1, sz_39, ag_39, sz_64, ag_64, mk_39]
              refine hK48 _ _ (hK24 _ _ ?_)
              refine awp_s hp KT_ok hc rfl fun K49 hK49 => ?_
              simp -dsimp -implicitDefEqProofs (disch := first | assumption | omega | (simp [maxLen, avs_len, gates_len, wires_len] <;> omega) | decide) only [sT_move, sT_assign, sT_bin, sT_nil, oK_some, q_o, binF_v, v_add, ↓reduceIte, q_b, q_f, Nat.reduceEqDiff]
              refine hK49 _ _ ⟨_, _, _, ?_, ⟨k + 1, gs ++ [⟨1 + (nth x.gates k).a % 7, (nth x.gates k).b % (2 + ws.length + k), 0, 0, 0⟩], ⟨by omega, by simp [hw], hgs.snoc (mkG hw a0 a1 b0 b1 c0 c1 d0 d1 e0 e1 (.inl rfl) (.inl rfl) (.inl rfl))⟩, rfl, rfl, rfl⟩, ?_⟩
              · first | omega | (simp only [List.length_cons]; omega) | (dsimp only; omega)
              · refine Rt.trans (Rt.gc (keep := [0,1,2,3,8]) (by decide) (by decide) (by simp [])) ?_
                refine Rt.end (less_cons (less_cons (less_cons (less_cons (less_nil _) rfl) rfl) rfl) rfl) ?_
                simp only [bytesD, gcH, gcO_c, gcVs_avs, gcVs, gcV, Nat.reduceAdd, posN, avs_nil, avs_cons, List.map_cons, List.map_nil, List.getD_cons_zero, List.getD_cons_succ, ↓reduceIte, Nat.reduceEqDiff, Option.map_some, rawC]; simp [gateC, iD]
      · refine awp_exit (hJ4 _ _ ⟨_, _, gs, ⟨by omega, hgs⟩, rfl, rfl, ?_⟩)
        refine Rt.end (less_cons (less_cons (less_cons (less_nil _) rfl) rfl) rfl) ?_
        first | rfl | (simp only [intsD, boolsD, bytesD, intssD, bytessD, gcH, gcO_c, gcO_de, gcO_fr, gc_m, fz_m, gcVs_avs, gcVs, gcV, gcV_d, fzH, fzO_c, fzO_de, fzO_fr, fzVs_avs, Nat.reduceAdd, fzVs, fzV, posN, avs_nil, avs_cons, List.map_cons, List.map_nil, List.getD_cons_zero, List.getD_cons_succ, ↓reduceIte, Nat.reduceEqDiff, Option.map_some, List.set_cons_zero, List.set_cons_succ, takeD_avs, takeD_all, Nat.mul_one, List.length_map, List.cons_append, List.nil_append, rawC, wireC, gateC, r5C, r4C, gate_w, wire_w]; first | done | rfl)
    · simp -dsimp -implicitDefEqProofs (disch := first | assumption | omega | (simp [maxLen, avs_len, gates_len, wires_len] <;> omega) | decide) only [sT_move, sT_pick, sT_load, sT_fa, sT_bin, sT_len, sT_nil, sT_g, oK_some, gK_f, q_o, loadF, fieldAddrF, binF_v, lenF, builtinF, v_lss, ↓reduceIte, q_b, ifp, guardA_some, guardV_t, q_f, q_s, q_l, q_n, Nat.reduceEqDiff, avs_nil, avs_cons, iD, bytesD, Nat.reduceAdd, rawC, q, decide_false, fo_26_1, sz_23, ag_23, eo_23]
      refine hK23 _ _ ?_
      refine awp_cond rfl (fun ht => ?_) (fun ht => ?_)
      · cases ht
      · refine awp_exit (hJ4 _ _ ⟨_, _, gs, ⟨by omega, hgs⟩, rfl, rfl, ?_⟩)
        refine Rt.end (less_cons (less_cons (less_cons (less_nil _) rfl) rfl) rfl) ?_
        first | rfl | (simp only [intsD, boolsD, bytesD, intssD, bytessD, gcH, gcO_c, gcO_de, gcO_fr, gc_m, fz_m, gcVs_avs, gcVs, gcV, gcV_d, fzH, fzO_c, fzO_de, fzO_fr, fzVs_avs, Nat.reduceAdd, fzVs, fzV, posN, avs_nil, avs_cons, List.map_cons, List.map_nil, List.getD_cons_zero, List.getD_cons_succ, ↓reduceIte, Nat.reduceEqDiff, Option.map_some, List.set_cons_zero, List.set_cons_succ, takeD_avs, takeD_all, Nat.mul_one, List.length_map, List.cons_append, List.nil_append, rawC, wireC, gateC, r5C, r4C, gate_w, wire_w]; first | done | rfl)
  refine awp_seq_s hp KT_ok hc rfl fun K50 hK50 => ?_
  simp -dsimp -implicitDefEqProofs (disch := first | assumption | omega | (simp [maxLen, avs_len, gates_len, wires_len] <;> omega) | decide) only [sT_assign, sT_nil, q_f]
  refine hK50 _ _ ?_
  refine awp_block ?_
  refine awp_loop_rt hp (fun τ' H' mm => ∃ (k : Nat) (ws : List Wire), (k ≤ 8 ∧ ws.length = k + 1) ∧ mm = 8 - k ∧ H' = [.cells (avs (rawC x)), .cells [.d (.val (.slice none 0 0)), .d (.val (.slice none 0 0)), .d (.val (.slice none 0 0)), .d (.val (.slice none 0 0))], .cells [.os 3 3 0 ws.length, .d (.val (.slice none 0 0)), .d (.val (.slice none 0 0)), .d (.val (.slice none 0 0))], .cells (avs (ws.flatMap wireC))] ∧ τ' = frL [(1, .op 0 0), (2, .op 1 0), (3, .op 2 0), (4, .d (iD k))]) (8) ?_ ⟨0, [⟨1, 0, 0⟩], ⟨by omega, rfl⟩, rfl, rfl, rfl⟩ ?_
  · refine Rt.trans (Rt.gc (keep := [0,1,3,2]) (by decide) (by decide) (by simp [])) ?_
    refine Rt.end (less_cons (less_cons (less_cons (less_cons (less_nil _) rfl) rfl) rfl) rfl) ?_
    first | rfl | (simp only [intsD, boolsD, bytesD, intssD, bytessD, gcH, gcO_c, gcO_de, gcO_fr, gc_m, fz_m, gcVs_avs, gcVs, gcV, gcV_d, fzH, fzO_c, fzO_de, fzO_fr, fzVs_avs, Nat.reduceAdd, fzVs, fzV, posN, avs_nil, avs_cons, List.map_cons, List.map_nil, List.getD_cons_zero, List.getD_cons_succ, ↓reduceIte, Nat.reduceEqDiff, Option.map_some, List.set_cons_zero, List.set_cons_succ, takeD_avs, takeD_all, Nat.mul_one, List.length_map, List.cons_append, List.nil_append, rawC, wireC, gateC, r5C, r4C, gate_w, wire_w]; first | done | rfl)
  rintro τ' H' mm ⟨k, ws, ⟨hk, hw⟩, rfl, rfl, rfl⟩
  refine awp_seq_k fun K51 hK51 => ?_
  refine awp_seq_s hp KT_ok hc rfl fun K52 hK52 => ?_
  by_cases q : (k : Int) < x.ins.length
  · simp -dsimp -implicitDefEqProofs (disch := first | assumption | omega | (simp [maxLen, avs_len, gates_len, wires_len] <;> omega) | decide) only [sT_move, sT_pick, sT_load, sT_fa, sT_bin, sT_len, sT_nil, sT_g, oK_some, gK_t, q_o, loadF, fieldAddrF, binF_v, lenF, builtinF, v_lss, ↓reduceIte, q_b, ifp, guardA_some, guardV_t, q_f, q_s, q_l, q_n, Nat.reduceEqDiff, avs_nil, avs_cons, iD, bytesD, Nat.reduceAdd, rawC, q, decide_true, fo_26_0, sz_22, ag_22, eo_22]
    refine hK52 _ _ ?_
    refine awp_cond rfl (fun ht => ?_) (fun ht => ?_)
    · have hlt : k < 8 := by simp at ht; omega
      have hl : k < x.ins.length := by omega
      obtain ⟨b0, b1⟩ := hx.ins k hl
      refine awp_skip (hK51 _ _ ?_)
      refine awp_seq_k fun K53 hK53 => ?_
      refine awp_block ?_
      refine awp_seq_se KT_ok hc mixed rfl (q := 1) (by kernel_rfl) (by kernel_rfl) fun K54 hK54 => ?_
      simp -dsimp -implicitDefEqProofs (disch := first | assumption | omega | (simp [maxLen, avs_len, gates_len, wires_len] <;> omega) | decide) only [sE_move, sE_load, sE_fa, sE_ia, sE_bin, sE_conv, sE_build, sE_alloc, sE_store, sE_nil, oK_some, q_o, loadF, fieldAddrF, ixO, indexAddrF, binF_v, convF, buildF, layF, layEF, storeF, v_add, v_rem, ↓reduceIte, q_b, ifp, ifn, q_f, q_s, q_l, List.replicate_zero, List.replicate_succ, q_a, fill_cons, AV.one, D.one, Value.oneCell', Int.toNat_natCast, q_n, Nat.reduceEqDiff, shB, appB, killAll, map_d, avs_nil, avs_cons, get_map, w_i64, v_quo8, bD, Nat.reduceAdd, layEF, frzF, fo_26_0, sz_22, ag_22, eo_22, sz_5, ag_5, ik_5, ik_3, pa_86, pl_86_0, pl_86_1, sz_86, za_86, zc_86]
      refine hK54 _ _ ?_
      refine awp_seq_k fun K55 hK55 => ?_
      refine awp_seq_s hp KT_ok hc rfl fun K56 hK56 => ?_
      rcases tf (1 + nth x.ins k % 4 == 1) with e1 | e1
      rotate_left
      rcases tf (1 + nth x.ins k % 4 == 2) with e2 | e2
      rotate_left 2
      · have e2 := e1
        simp -dsimp -implicitDefEqProofs (disch := first | assumption | omega | (simp [maxLen, avs_len, gates_len, wires_len] <;> omega) | decide) only [sT_move, sT_pick, sT_load, sT_fa, sT_bin, sT_nil, sT_g, oK_some, gK_f, q_o, loadF, fieldAddrF, binF_v, v_eql, ↓reduceIte, q_b, ifp, guardA_some, guardV_f, q_f, q_l, q_n, Nat.reduceEqDiff, Nat.reduceAdd, e1, fo_86_0, sz_3, ag_3]
        refine hK56 _ _ ?_
        refine awp_cond rfl (fun ht => ?_) (fun ht => ?_)
        · refine awp_s hp KT_ok hc rfl fun K57 hK57 => ?_
          simp -dsimp -implicitDefEqProofs (disch := first | assumption | omega | (simp [maxLen, avs_len, gates_len, wires_len] <;> omega) | decide) only [sT_move, sT_load, sT_fa, sT_ia, sT_bin, sT_conv, sT_store, sT_nil, oK_some, q_o, loadF, fieldAddrF, ixO, indexAddrF, binF_v, convF, storeF, v_rem, ↓reduceIte, q_b, ifp, q_f, q_l, q_s, q_a, Int.toNat_natCast, q_n, Nat.reduceEqDiff, get_map, w_i64, v_quo8, bD, Nat.reduceAdd, fo_26_0, sz_22, ag_22, eo_22, sz_5, ag_5, ik_5, sz_3, ik_3, fo_86_2]
          refine hK57 _ _ (hK55 _ _ ?_)
          refine awp_s hp KT_ok hc rfl fun K58 hK58 => ?_
          simp -dsimp -implicitDefEqProofs (disch := first | assumption | omega | (simp only [maxLen, List.length_replicate, eq_self, true_and, and_true, and_self, avs_len, List.length_map, List.length_append, List.length_cons, List.length_nil, List.length_set, List.length_range, List.length_take, List.length_drop, gates_len, wires_len] <;> omega) | decide | fail) only [sT_load, sT_fa, sT_bs, sT_app, sT_store, deadH, sT_nil, oK_some, Option.map_some, loadF, fieldAddrF, layF, srcF, storeF, ↓reduceIte, Bool.false_eq_true, eq_self, ifp, ifn, frL_get, frL_put, frL_none, evalA_tmp, List.map_cons, List.map_nil, List.length_cons, List.length_nil, List.getElem?_cons_zero, List.getElem?_cons_succ, List.cons_append, List.nil_append, List.append_nil, List.set_cons_zero, List.set_cons_succ, List.replicate_zero, List.replicate_succ, List.all_cons, List.all_nil, reps_def, fill_nil, fill_cons, as_os, as_agg, many_nil, many_cons, AV.one, D.one, Value.oneCell', Bool.and_self, true_and, Nat.zero_add, Nat.add_zero, Nat.reduceEqDiff, avs_len, avs_app1, takeD_all, List.drop_zero, Nat.reduceAdd, List.nil_append, deadH, Nat.zero_mul, Nat.reduceMul, List.flatten_cons, List.flatten_nil, fo_41_0, sz_38, ag_38, sz_86, ag_86, mk_38]
          refine hK58 _ _ (hK53 _ _ ?_)
          refine awp_s hp KT_ok hc rfl fun K59 hK59 => ?_
          simp -dsimp -implicitDefEqProofs (disch := first | assumption | omega | (simp [maxLen, avs_len, gates_len, wires_len] <;> omega) | decide) only [sT_move, sT_assign, sT_bin, sT_nil, oK_some, q_o, binF_v, v_add, ↓reduceIte, q_b, q_f, Nat.reduceEqDiff]
          refine hK59 _ _ ⟨_, _, _, ?_, ⟨k + 1, ws ++ [⟨1 + nth x.ins k % 4, nth x.ins k / 4 % 3, nth x.ins k / 12 % 3⟩], ⟨by omega, by simp [hw]⟩, rfl, rfl, rfl⟩, ?_⟩
          · first | omega | (simp only [List.length_cons]; omega) | (dsimp only; omega)
          · refine Rt.trans (Rt.gc (keep := [0,1,2,6]) (by decide) (by decide) (by simp [])) ?_
            refine Rt.end (less_cons (less_cons (less_cons (less_cons (less_nil _) rfl) rfl) rfl) rfl) ?_
            simp only [bytesD, gcH, gcO_c, gcVs_avs, gcVs, gcV, Nat.reduceAdd, posN, avs_nil, avs_cons, List.map_cons, List.map_nil, List.getD_cons_zero, List.getD_cons_succ, ↓reduceIte, Nat.reduceEqDiff, Option.map_some, rawC]; simp [wireC, iD]
        · cases ht
      · simp -dsimp -implicitDefEqProofs (disch := first | assumption | omega | (simp [maxLen, avs_len, gates_len, wires_len] <;> omega) | decide) only [sT_move, sT_pick, sT_load, sT_fa, sT_bin, sT_nil, sT_g, oK_some, gK_t, q_o, loadF, fieldAddrF, binF_v, v_eql, ↓reduceIte, q_b, ifp, guardA_some, guardV_f, q_f, q_l, q_n, Nat.reduceEqDiff, Nat.reduceAdd, e1, e2, fo_86_0, sz_3, ag_3]
        refine hK56 _ _ ?_
        refine awp_cond rfl (fun ht => ?_) (fun ht => ?_)
        · refine awp_s hp KT_ok hc rfl fun K60 hK60 => ?_
          simp -dsimp -implicitDefEqProofs (disch := first | assumption | omega | (simp [maxLen, avs_len, gates_len, wires_len] <;> omega) | decide) only [sT_move, sT_load, sT_fa, sT_ia, sT_bin, sT_conv, sT_store, sT_nil, oK_some, q_o, loadF, fieldAddrF, ixO, indexAddrF, binF_v, convF, storeF, v_rem, ↓reduceIte, q_b, ifp, q_f, q_l, q_s, q_a, Int.toNat_natCast, q_n, Nat.reduceEqDiff, get_map, w_i64, v_quo8, bD, Nat.reduceAdd, fo_26_0, sz_22, ag_22, eo_22, sz_5, ag_5, ik_5, sz_3, ik_3, fo_86_2]
          refine hK60 _ _ (hK55 _ _ ?_)
          refine awp_s hp KT_ok hc rfl fun K61 hK61 => ?_
          simp -dsimp -implicitDefEqProofs (disch := first | assumption | omega | (simp only [maxLen, List.length_replicate, eq_self, true_and, and_true, and_self, avs_len, List.length_map, List.length_append, List.length_cons, List.length_nil, List.length_set, List.length_range, List.length_take, List.length_drop, gates_len, wires_len] <;> omega) | decide | fail) only [sT_load, sT_fa, sT_bs, sT_app, sT_store, deadH, sT_nil, oK_some, Option.map_some, loadF, fieldAddrF, layF, srcF, storeF, ↓reduceIte, Bool.false_eq_true, eq_self, ifp, ifn, frL_get, frL_put, frL_none, evalA_tmp, List.map_cons, List.map_nil, List.length_cons, List.length_nil, List.getElem?_cons_zero, List.getElem?_cons_succ, List.cons_append, List.nil_append, List.append_nil, List.set_cons_zero, List.set_cons_succ, List.replicate_zero, List.replicate_succ, List.all_cons, List.all_nil, reps_def, fill_nil, fill_cons, as_os, as_agg, many_nil, many_cons, AV.one, D.one, Value.oneCell', Bool.and_self, true_and, Nat.zero_add, Nat.add_zero, Nat.reduceEqDiff, avs_len, avs_app1, takeD_all, List.drop_zero, Nat.reduceAdd, List.nil_append, deadH, Nat.zero_mul, Nat.reduceMul, List.flatten_cons, List.flatten_nil, fo_41_0, sz_38, ag_38, sz_86, ag_86, mk_38]
          refine hK61 _ _ (hK53 _ _ ?_)
          refine awp_s hp KT_ok hc rfl fun K62 hK62 => ?_
          simp -dsimp -implicitDefEqProofs (disch := first | assumption | omega | (simp [maxLen, avs_len, gates_len, wires_len] <;> omega) | decide) only [sT_move, sT_assign, sT_bin, sT_nil, oK_some, q_o, binF_v, v_add, ↓reduceIte, q_b, q_f, Nat.reduceEqDiff]
          refine hK62 _ _ ⟨_, _, _, ?_, ⟨k + 1, ws ++ [⟨1 + nth x.ins k % 4, nth x.ins k / 4 % 3, nth x.ins k / 12 % 3⟩], ⟨by omega, by simp [hw]⟩, rfl, rfl, rfl⟩, ?_⟩
          · first | omega | (simp only [List.length_cons]; omega) | (dsimp only; omega)
          · refine Rt.trans (Rt.gc (keep := [0,1,2,6]) (by decide) (by decide) (by simp [])) ?_
            refine Rt.end (less_cons (less_cons (less_cons (less_cons (less_nil _) rfl) rfl) rfl) rfl) ?_
            simp only [bytesD, gcH, gcO_c, gcVs_avs, gcVs, gcV, Nat.reduceAdd, posN, avs_nil, avs_cons, List.map_cons, List.map_nil, List.getD_cons_zero, List.getD_cons_succ, ↓reduceIte, Nat.reduceEqDiff, Option.map_some, rawC]; simp [wireC, iD]
        · cases ht
      · simp -dsimp -implicitDefEqProofs (disch := first | assumption | omega | (simp [maxLen, avs_len, gates_len, wires_len] <;> omega) | decide) only [sT_move, sT_pick, sT_load, sT_fa, sT_bin, sT_nil, sT_g, oK_some, gK_t, q_o, loadF, fieldAddrF, binF_v, v_eql, ↓reduceIte, q_b, ifp, guardA_some, guardV_f, q_f, q_l, q_n, Nat.reduceEqDiff, Nat.reduceAdd, e1, e2, fo_86_0, sz_3, ag_3]
        refine hK56 _ _ ?_
        refine awp_cond rfl (fun ht => ?_) (fun ht => ?_)
        · cases ht
        · refine awp_skip (hK55 _ _ ?_)
          refine awp_s hp KT_ok hc rfl fun K63 hK63 => ?_
          simp -dsimp -implicitDefEqProofs (disch := first | assumption | omega | (simp only [maxLen, List.length_replicate, eq_self, true_and, and_true, and_self, avs_len, List.length_map, List.length_append, List.length_cons, List.length_nil, List.length_set, List.length_range, List.length_take, List.length_drop, gates_len, wires_len] <;> omega) | decide | fail) only [sT_load, sT_fa, sT_bs, sT_app, sT_store, deadH, sT_nil, oK_some, Option.map_some, loadF, fieldAddrF, layF, srcF, storeF, ↓reduceIte, Bool.false_eq_true, eq_self, ifp, ifn, frL_get, frL_put, frL_none, evalA_tmp, List.map_cons, List.map_nil, List.length_cons, List.length_nil, List.getElem?_cons_zero, List.getElem?_cons_succ, List.cons_append, List.nil_append, List.append_nil, List.set_cons_zero, List.set_cons_succ, List.replicate_zero, List.replicate_succ, List.all_cons, List.all_nil, reps_def, fill_nil, fill_cons, as_os, as_agg, many_nil, many_cons, AV.one, D.one, Value.oneCell', Bool.and_self, true_and, Nat.zero_add, Nat.add_zero, Nat.reduceEqDiff, avs_len, avs_app1, takeD_all, List.drop_zero, Nat.reduceAdd, List.nil_append, deadH, Nat.zero_mul, Nat.reduceMul, List.flatten_cons, List.flatten_nil, fo_41_0, sz_38, ag_38, sz_86, ag_86, mk_38]
          refine hK63 _ _ (hK53 _ _ ?_)
          refine awp_s hp KT_ok hc rfl fun K64 hK64 => ?_
          simp -dsimp -implicitDefEqProofs (disch := first | assumption | omega | (simp [maxLen, avs_len, gates_len, wires_len] <;> omega) | decide) only [sT_move, sT_assign, sT_bin, sT_nil, oK_some, q_o, binF_v, v_add, ↓reduceIte, q_b, q_f, Nat.reduceEqDiff]
          refine hK64 _ _ ⟨_, _, _, ?_, ⟨k + 1, ws ++ [⟨1 + nth x.ins k % 4, nth x.ins k / 4 % 3, 0⟩], ⟨by omega, by simp [hw]⟩, rfl, rfl, rfl⟩, ?_⟩
          · first | omega | (simp only [List.length_cons]; omega) | (dsimp only; omega)
          · refine Rt.trans (Rt.gc (keep := [0,1,2,6]) (by decide) (by decide) (by simp [])) ?_
            refine Rt.end (less_cons (less_cons (less_cons (less_cons (less_nil _) rfl) rfl) rfl) rfl) ?_
            simp only [bytesD, gcH, gcO_c, gcVs_avs, gcVs, gcV, Nat.reduceAdd, posN, avs_nil, avs_cons, List.map_cons, List.map_nil, List.getD_cons_zero, List.getD_cons_succ, ↓reduceIte, Nat.reduceEqDiff, Option.map_some, rawC]; simp [wireC, iD]
    · refine awp_exit (hJ3 _ _ ⟨_, _, ws, by omega, rfl, rfl, ?_⟩)
      refine Rt.end (less_cons (less_cons (less_cons (less_nil _) rfl) rfl) rfl) ?_
      first | rfl | (simp only [intsD, boolsD, bytesD, intssD, bytessD, gcH, gcO_c, gcO_de, gcO_fr, gc_m, fz_m, gcVs_avs, gcVs, gcV, gcV_d, fzH, fzO_c, fzO_de, fzO_fr, fzVs_avs, Nat.reduceAdd, fzVs, fzV, posN, avs_nil, avs_cons, List.map_cons, List.map_nil, List.getD_cons_zero, List.getD_cons_succ, ↓reduceIte, Nat.reduceEqDiff, Option.map_some, List.set_cons_zero, List.set_cons_succ, takeD_avs, takeD_all, Nat.mul_one, List.length_map, List.cons_append, List.nil_append, rawC, wireC, gateC, r5C, r4C, gate_w, wire_w]; first | done | rfl)
  · simp -dsimp -implicitDefEqProofs (disch := first | assumption | omega | (simp [maxLen, avs_len, gates_len, wires_len] <;> omega) | decide) only [sT_move, sT_pick, sT_load, sT_fa, sT_bin, sT_len, sT_nil, sT_g, oK_some, gK_f, q_o, loadF, fieldAddrF, binF_v, lenF, builtinF, v_lss, ↓reduceIte, q_b, ifp, guardA_some, guardV_t, q_f, q_s, q_l, q_n, Nat.reduceEqDiff, avs_nil, avs_cons, iD, bytesD, Nat.reduceAdd, rawC, q, decide_false, fo_26_0, sz_22, ag_22, eo_22]
    refine hK52 _ _ ?_
    refine awp_cond rfl (fun ht => ?_) (fun ht => ?_)
    · cases ht
    · skip
      refine awp_exit (hJ3 _ _ ⟨_, _, ws, by omega, rfl, rfl, ?_⟩)
      refine Rt.end (less_cons (less_cons (less_cons (less_nil _) rfl) rfl) rfl) ?_
      first | rfl | (simp only [intsD, boolsD, bytesD, intssD, bytessD, gcH, gcO_c, gcO_de, gcO_fr, gc_m, fz_m, gcVs_avs, gcVs, gcV, gcV_d, fzH, fzO_c, fzO_de, fzO_fr, fzVs_avs, Nat.reduceAdd, fzVs, fzV, posN, avs_nil, avs_cons, List.map_cons, List.map_nil, List.getD_cons_zero, List.getD_cons_succ, ↓reduceIte, Nat.reduceEqDiff, Option.map_some, List.set_cons_zero, List.set_cons_succ, takeD_avs, takeD_all, Nat.mul_one, List.length_map, List.cons_append, List.nil_append, rawC, wireC, gateC, r5C, r4C, gate_w, wire_w]; first | done | rfl)
theorem r5s_len {l : List R5} : (l.flatMap r5C).length = l.length * 5 := flat_len r5_w l
theorem r4s_len {l : List R4} : (l.flatMap r4C).length = l.length * 4 := flat_len r4_w l
end Go.Proofs.Ytgfnpfchdlcoeaa
