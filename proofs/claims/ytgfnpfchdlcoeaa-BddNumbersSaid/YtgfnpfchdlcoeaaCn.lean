/- What Build refuses; its results, as the laws take them. -/
import Derived.Test.YtgfnpfchdlcoeaaQ
import Derived.Test.YtgfnpfchdlcoeaaCm
set_option linter.unusedVariables false
set_option linter.unusedSimpArgs false
namespace Go.Proofs.Ytgfnpfchdlcoeaa
open Go Go.RowKit
def refB (n : Net) (sh : List (Int × Int)) (nodes : List Int) : Bool := decide (8 < sh.length) || (sh.any outB || nodes.any (unkB (2 + n.ins.length + n.gates.length)))
set_option maxRecDepth 100000 in
set_option linter.unusedVariables false in
set_option maxHeartbeats 4000000 in
theorem build_a (n : Net) (sh : List (Int × Int)) (nodes : List Int) (h : refB n sh nodes = true) (hsl : sh.length ≤ maxLen) (hnl : nodes.length ≤ maxLen) (hil : n.ins.length ≤ 1000000) (hgl : n.gates.length ≤ 1000000) : PCalls Try.prog 41 [netD n, shI sh, intsD nodes] (.tup [.d (bddD [] []), .d (iD 1)]) := by
  have hin := contains_p sh hsl
  have hun := contains_i nodes (2 + n.ins.length + n.gates.length) hnl
  have hsl' := hsl
  unfold maxLen at hsl'
  refine pcalls_of0 (fn := Try.f41) (by kernel_rfl) Try.func41 rfl (Nat.le_of_ble_eq_true rfl) fun c hc hp => ?_
  refine awp_less (τ' := frL [(0, .d (netD n)), (1, .d (shI sh)), (2, .d (intsD nodes))]) (less_cons (less_cons (less_cons (less_nil _) rfl) rfl) rfl) ?_
  refine awp_seq_s hp KT_ok hc rfl fun K1 hK1 => ?_
  simp -dsimp -implicitDefEqProofs (disch := first | assumption | omega | (simp [maxLen, avs_len, ps_len, gates_len, wires_len] <;> omega) | decide) only [sT_assign, sT_box, sT_alloc, deadH, sT_nil, oK_some, q_o, layF, ↓reduceIte, q_b, q_f, q_s, q_l, as_dagg, D.one, q_n, map_d, avs_nil, avs_cons, intsD, deadH, netD, netC, wiresD, gatesD, shI, za_31]
  refine hK1 _ _ ?_
  refine awp_seq_s hp KT_ok hc rfl fun K2 hK2 => ?_
  simp -dsimp -implicitDefEqProofs (disch := first | assumption | omega | (simp [maxLen, avs_len, ps_len, gates_len, wires_len] <;> omega) | decide) only [sT_assign, sT_nil, q_f]
  refine hK2 _ _ ?_
  refine awp_seq_s hp KT_ok hc rfl fun K3 hK3 => ?_
  simp -dsimp -implicitDefEqProofs (disch := first | assumption | omega | (simp [maxLen, avs_len, ps_len, gates_len, wires_len] <;> omega) | decide) only [sT_load, sT_fa, sT_bin, sT_len, sT_alloc, sT_store, deadH, sT_nil, oK_some, q_o, loadF, fieldAddrF, binF_v, lenF, builtinF, layF, storeF, v_add, ↓reduceIte, q_b, ifp, q_f, q_s, q_l, q_a, q_n, Nat.reduceEqDiff, map_d, avs_nil, avs_cons, Nat.reduceAdd, deadH, fo_41_0, sz_38, ag_38, eo_38, sz_3, fo_41_1, sz_39, ag_39, eo_39, za_3]
  refine hK3 _ _ ?_
  refine awp_seq_s hp KT_ok hc rfl fun K4 hK4 => ?_
  simp -dsimp -implicitDefEqProofs (disch := first | assumption | omega | (simp [maxLen, avs_len, ps_len, gates_len, wires_len] <;> omega) | decide) only [sT_assign, sT_mf, sT_nil, ↓reduceIte, q_b, q_f, q_s]
  refine hK4 _ _ ?_
  refine awp_seq_k fun K5 hK5 => ?_
  refine awp_seq_s hp KT_ok hc rfl fun K6 hK6 => ?_
  rcases (show 8 < sh.length ∨ (sh.length ≤ 8 ∧ sh.any outB = true) ∨ (sh.length ≤ 8 ∧ sh.any outB = false ∧ nodes.any (unkB (2 + n.ins.length + n.gates.length)) = true) by simp only [refB, Bool.or_eq_true, decide_eq_true_eq] at h; rcases h with h | h | h; exact .inl h; by_cases h8 : 8 < sh.length; exact .inl h8; exact .inr (.inl ⟨by omega, h⟩); by_cases h8 : 8 < sh.length; exact .inl h8; cases e : sh.any outB; exact .inr (.inr ⟨by omega, rfl, h⟩); exact .inr (.inl ⟨by omega, rfl⟩)) with q | ⟨q, q'⟩ | ⟨q, q', q''⟩
  · have q0 : decide ((8 : Int) < sh.length) = true := by simp; omega
    simp -dsimp -implicitDefEqProofs (disch := first | assumption | omega | (simp [maxLen, avs_len, ps_len, gates_len, wires_len] <;> omega) | decide) only [sT_move, sT_pick, sT_bin, sT_len, sT_nil, sT_g, oK_some, gK_f, q_o, binF_v, lenF, builtinF, v_gtr, ↓reduceIte, q_b, guardA_some, guardV_f, q_f, q_s, q_l, Nat.reduceEqDiff, q0, eo_32]
    refine hK6 _ _ ?_
    refine awp_cond rfl (fun ht => ?_) (fun ht => ?_)
    · refine awp_seq_s hp KT_ok hc rfl fun K7 hK7 => ?_
      simp -dsimp -implicitDefEqProofs (disch := first | assumption | omega | (simp [maxLen, avs_len, ps_len, gates_len, wires_len] <;> omega) | decide) only [sT_assign, sT_build, sT_store, sT_nil, oK_some, q_o, buildF, storeF, ↓reduceIte, q_b, ifp, q_f, q_s, q_l, q_a, AV.one, D.one, Value.oneCell', q_n, Nat.reduceEqDiff, Nat.reduceAdd, pa_31, sz_31, zc_31]
      refine hK7 _ _ ?_
      refine awp_ret ?_
      try dsimp only [thenA, inBlockA]
      refine PostA_retct rfl ?_
      simp -dsimp -implicitDefEqProofs (disch := first | assumption | omega | (simp [maxLen, avs_len, ps_len, gates_len, wires_len] <;> omega) | decide) only [oK_some, q_o, loadF, ↓reduceIte, q_b, ifp, q_f, q_l, q_n, Nat.reduceEqDiff, takeD_all, iD, Nat.reduceAdd, sz_31, ag_31]
      show closeA _ _ = _
      simp (disch := first | assumption | omega | (simp [maxLen, avs_len, ps_len, gates_len, wires_len] <;> omega) | decide) only [List.map_cons, List.map_nil, closeA, deep_d, deep_agg, deepL_nil, deepL_cons, Nat.reduceAdd, Nat.zero_add, D.fix, Option.map_some, Option.bind_some, List.length_cons, List.length_nil]
      rfl
    · cases ht
  · have q0 : decide ((8 : Int) < sh.length) = false := by simp; omega
    rw [q'] at hin
    simp -dsimp -implicitDefEqProofs (disch := first | assumption | omega | (simp [maxLen, avs_len, ps_len, gates_len, wires_len] <;> omega) | decide) only [sT_move, sT_bin, sT_len, sT_call0, sT_g, oK_some, gK_t, q_o, binF_v, lenF, builtinF, v_gtr, ↓reduceIte, q_b, guardA_some, guardV_f, q_f, q_s, q_l, q_n, Nat.reduceEqDiff, Nat.reduceAdd, q0, eo_32]
    refine kc_by (hin) rfl ?_
    simp -dsimp -implicitDefEqProofs (disch := first | assumption | omega | (simp [maxLen, avs_len, ps_len, gates_len, wires_len] <;> omega) | decide) only [sT_move, sT_pick, sT_nil, sT_g, oK_some, gK_f, q_o, ↓reduceIte, q_b, guardA_some, guardV_f, q_f, q_l, Nat.reduceEqDiff, oD]
    refine hK6 _ _ ?_
    refine awp_cond rfl (fun ht => ?_) (fun ht => ?_)
    · refine awp_seq_s hp KT_ok hc rfl fun K8 hK8 => ?_
      simp -dsimp -implicitDefEqProofs (disch := first | assumption | omega | (simp [maxLen, avs_len, ps_len, gates_len, wires_len] <;> omega) | decide) only [sT_assign, sT_build, sT_store, sT_nil, oK_some, q_o, buildF, storeF, ↓reduceIte, q_b, ifp, q_f, q_s, q_l, q_a, AV.one, D.one, Value.oneCell', q_n, Nat.reduceEqDiff, Nat.reduceAdd, pa_31, sz_31, zc_31]
      refine hK8 _ _ ?_
      refine awp_ret ?_
      try dsimp only [thenA, inBlockA]
      refine PostA_retct rfl ?_
      simp -dsimp -implicitDefEqProofs (disch := first | assumption | omega | (simp [maxLen, avs_len, ps_len, gates_len, wires_len] <;> omega) | decide) only [oK_some, q_o, loadF, ↓reduceIte, q_b, ifp, q_f, q_l, q_n, Nat.reduceEqDiff, takeD_all, iD, Nat.reduceAdd, sz_31, ag_31]
      show closeA _ _ = _
      simp (disch := first | assumption | omega | (simp [maxLen, avs_len, ps_len, gates_len, wires_len] <;> omega) | decide) only [List.map_cons, List.map_nil, closeA, deep_d, deep_agg, deepL_nil, deepL_cons, Nat.reduceAdd, Nat.zero_add, D.fix, Option.map_some, Option.bind_some, List.length_cons, List.length_nil]
      rfl
    · cases ht
  · have q0 : decide ((8 : Int) < sh.length) = false := by simp; omega
    rw [q'] at hin
    rw [q''] at hun
    simp -dsimp -implicitDefEqProofs (disch := first | assumption | omega | (simp [maxLen, avs_len, ps_len, gates_len, wires_len] <;> omega) | decide) only [sT_move, sT_bin, sT_len, sT_call0, sT_g, oK_some, gK_t, q_o, binF_v, lenF, builtinF, v_gtr, ↓reduceIte, q_b, guardA_some, guardV_f, q_f, q_s, q_l, q_n, Nat.reduceEqDiff, Nat.reduceAdd, q0, eo_32]
    refine kc_by (hin) rfl ?_
    simp -dsimp -implicitDefEqProofs (disch := first | assumption | omega | (simp [maxLen, avs_len, ps_len, gates_len, wires_len] <;> omega) | decide) only [sT_move, sT_pick, sT_call0, sT_g, oK_some, gK_t, q_o, ↓reduceIte, q_b, guardA_some, guardV_f, q_f, q_s, q_l, q_n, Nat.reduceEqDiff, oD, Nat.reduceAdd]
    refine kc_own (hun) ?_ ?_
    · simp (disch := first | assumption | omega | (simp [maxLen, avs_len, ps_len, gates_len, wires_len] <;> omega) | decide) only [deep_d, deepL_nil, deepL_cons, lookH_eq, cellsOf_c, deep_op, deep_clo, Nat.reduceAdd, D.fix, Option.map_some, Option.bind_some, List.getElem?_cons_zero, List.getElem?_cons_succ, iD, intsD]
    simp -dsimp -implicitDefEqProofs (disch := first | assumption | omega | (simp [maxLen, avs_len, ps_len, gates_len, wires_len] <;> omega) | decide) only [sT_pick, sT_nil, oK_some, ↓reduceIte, q_b, q_f, Nat.reduceEqDiff]
    refine hK6 _ _ ?_
    refine awp_cond rfl (fun ht => ?_) (fun ht => ?_)
    · refine awp_seq_s hp KT_ok hc rfl fun K9 hK9 => ?_
      simp -dsimp -implicitDefEqProofs (disch := first | assumption | omega | (simp [maxLen, avs_len, ps_len, gates_len, wires_len] <;> omega) | decide) only [sT_assign, sT_build, sT_store, sT_nil, oK_some, q_o, buildF, storeF, ↓reduceIte, q_b, ifp, q_f, q_s, q_l, q_a, AV.one, D.one, Value.oneCell', q_n, Nat.reduceEqDiff, Nat.reduceAdd, pa_31, sz_31, zc_31]
      refine hK9 _ _ ?_
      refine awp_ret ?_
      try dsimp only [thenA, inBlockA]
      refine PostA_retct rfl ?_
      simp -dsimp -implicitDefEqProofs (disch := first | assumption | omega | (simp [maxLen, avs_len, ps_len, gates_len, wires_len] <;> omega) | decide) only [oK_some, q_o, loadF, ↓reduceIte, q_b, ifp, q_f, q_l, q_n, Nat.reduceEqDiff, takeD_all, iD, Nat.reduceAdd, sz_31, ag_31]
      show closeA _ _ = _
      simp (disch := first | assumption | omega | (simp [maxLen, avs_len, ps_len, gates_len, wires_len] <;> omega) | decide) only [List.map_cons, List.map_nil, closeA, deep_d, deep_agg, deepL_nil, deepL_cons, Nat.reduceAdd, Nat.zero_add, D.fix, Option.map_some, Option.bind_some, List.length_cons, List.length_nil]
      rfl
    · cases ht
/-- What Build gives, in parts. -/
def BuR (V : Nat) (n : Net) (sh : Sh) (nodes : List Int) (ns : List Nd) (rs : List Nat) (e : Int) : Prop :=
  (e = 2 ∧ ns = [] ∧ rs = [] ∧ ∃ j fs, j ≤ n.gates.length ∧ FsP V n.ins.length sh n.gates j fs ∧ 3000 < (expT fs).length) ∨
  (e = 0 ∧ ∃ fs, FsP V n.ins.length sh n.gates n.gates.length fs ∧ (∀ q, q < n.gates.length → (expT (fs.take (2 + n.ins.length + (q + 1)))).length ≤ 3000) ∧ ns = erow (expT (rootsT fs nodes)) ∧ rs = (rootsT fs nodes).map (num (expT (rootsT fs nodes))))
theorem BuK.parts {V : Nat} {n : Net} {sh : Sh} {nodes : List Int} {r : AV} (h : BuK V n sh nodes r) : ∃ ns rs e, r = .tup [.d (bddD ns rs), .d (iD e)] ∧ BuR V n sh nodes ns rs e := by
  rcases h with ⟨j, fs, h1, h2, h3, rfl⟩ | ⟨fs, h1, h2, rfl⟩
  · exact ⟨_, _, _, rfl, .inl ⟨rfl, rfl, rfl, j, fs, h1, h2, h3⟩⟩
  · exact ⟨_, _, _, rfl, .inr ⟨rfl, fs, h1, h2, rfl, rfl⟩⟩
def bltD (ns : List Nd) (rs : List Nat) (e : Int) : D := .agg (bddC ns rs ++ [iD e])
structure BIn (V : Nat) (n : Net) (sh : Sh) (nodes : List Int) : Prop where
  hsh : ShOk sh
  hV : varsN n.ins.length sh = V
  hV9 : V ≤ 900
  hgs : ∀ k, k < n.gates.length → GOp (2 + n.ins.length + k) (nth n.gates k)
  hno : nodes.any (unkB (2 + n.ins.length + n.gates.length)) = false
  hnl : nodes.length ≤ 1000000
  hil : n.ins.length ≤ 1000
  hgl : n.gates.length ≤ 1000
  hB : n.ins.length + n.gates.length * (8 + 7 * 2 ^ V) + 32 * 2 ^ V ≤ bigB
theorem BIn.build {V : Nat} {n : Net} {sh : Sh} {nodes : List Int} (h : BIn V n sh nodes) : RCalls Try.prog 41 [netD n, shD sh, intsD nodes] (BuK V n sh nodes) := build_c V n sh nodes h.hsh h.hV h.hV9 h.hgs h.hno h.hnl h.hil h.hgl h.hB
set_option maxRecDepth 100000 in
set_option linter.unusedVariables false in
set_option maxHeartbeats 4000000 in
theorem built_c (V : Nat) (n : Net) (sh : Sh) (nodes : List Int) (hb : BIn V n sh nodes) : RCalls Try.prog 15 [netD n, shD sh, intsD nodes] (fun r => ∃ ns rs e, r = .d (bltD ns rs e) ∧ BuR V n sh nodes ns rs e) := by
  refine rcalls_of0 (fn := Try.f15) (by kernel_rfl) Try.func15 rfl (Nat.le_of_ble_eq_true rfl) fun c hc hp => ?_
  refine awp_less (τ' := frL [(0, .d (netD n)), (1, .d (shD sh)), (2, .d (intsD nodes))]) (less_cons (less_cons (less_cons (less_nil _) rfl) rfl) rfl) ?_
  refine awp_seq_s hp KT_ok hc rfl fun K1 hK1 => ?_
  simp -dsimp -implicitDefEqProofs (disch := first | assumption | omega | (simp [maxLen, avs_len, gates_len, wires_len, shs_len, nds_len] <;> omega) | decide) only [sT_box, sT_alloc, deadH, sT_nil, oK_some, q_o, layF, ↓reduceIte, q_b, q_f, q_s, q_l, as_dagg, D.one, q_n, map_d, avs_nil, avs_cons, intsD, deadH, netD, netC, wiresD, gatesD, shD, za_47]
  refine hK1 _ _ ?_
  refine awp_seq_s hp KT_ok hc rfl fun K2 hK2 => ?_
  simp -dsimp -implicitDefEqProofs (disch := first | assumption | omega | (simp [maxLen, avs_len, gates_len, wires_len, shs_len, nds_len] <;> omega) | decide) only [sT_move, sT_load, sT_call0, oK_some, q_o, loadF, ↓reduceIte, q_b, ifp, q_f, q_s, q_l, q_n, Nat.reduceEqDiff, takeD_all, Nat.reduceAdd, sz_41, ag_41]
  refine kc_rel (hb.build) rfl fun r hr0 => ?_
  obtain ⟨ns, rs, e, rfl, hr⟩ := BuK.parts hr0
  simp -dsimp -implicitDefEqProofs (disch := first | assumption | omega | (simp [maxLen, avs_len, gates_len, wires_len, shs_len, nds_len] <;> omega) | decide) only [sT_move, sT_assign, sT_extract, sT_alloc, sT_store, deadH, sT_nil, oK_some, q_o, layF, storeF, ↓reduceIte, q_b, ifp, q_f, q_s, q_l, as_dagg, q_a, D.one, q_n, Nat.reduceEqDiff, map_d, avs_nil, avs_cons, iD, Nat.reduceAdd, deadH, bddD, bddC, sz_31, za_31]
  refine hK2 _ _ ?_
  refine awp_seq_s hp KT_ok hc rfl fun K3 hK3 => ?_
  simp -dsimp -implicitDefEqProofs (disch := first | assumption | omega | (simp [maxLen, avs_len, gates_len, wires_len, shs_len, nds_len] <;> omega) | decide) only [sT_move, sT_load, sT_build, sT_store, sT_nil, oK_some, q_o, loadF, buildF, storeF, ↓reduceIte, q_b, ifp, ifn, q_f, q_s, q_l, q_a, fill_cons, AV.one, D.one, Value.oneCell', q_n, Nat.reduceEqDiff, takeD_all, Nat.reduceAdd, sz_31, ag_31, pa_47, pl_47_0, pl_47_1, sz_47, zc_47]
  refine hK3 _ _ ?_
  refine awp_ret ?_
  try dsimp only [thenA, inBlockA]
  refine PostA_retc rfl ?_
  simp -dsimp -implicitDefEqProofs (disch := first | assumption | omega | (simp [maxLen, avs_len, gates_len, wires_len, shs_len, nds_len] <;> omega) | decide) only [oK_some, q_o, loadF, ↓reduceIte, q_b, ifp, q_f, q_l, q_n, Nat.reduceEqDiff, takeD_all, Nat.reduceAdd, sz_47, ag_47]
  show ∃ r, closeA _ _ = some r ∧ _
  simp (disch := first | assumption | omega | (simp [maxLen, avs_len, gates_len, wires_len, shs_len, nds_len] <;> omega) | decide) only [closeA, deep_d, deep_agg, deepL_nil, deepL_cons, Nat.reduceAdd, Nat.zero_add, D.fix, Option.map_some, Option.bind_some, List.length_cons, List.length_nil]
  exact ⟨_, rfl, ns, rs, e, rfl, hr⟩
set_option maxRecDepth 100000 in
set_option linter.unusedVariables false in
set_option maxHeartbeats 4000000 in
theorem built_a (n : Net) (sh : List (Int × Int)) (nodes : List Int) (h : refB n sh nodes = true) (hsl : sh.length ≤ maxLen) (hnl : nodes.length ≤ maxLen) (hil : n.ins.length ≤ 1000000) (hgl : n.gates.length ≤ 1000000) : PCalls Try.prog 15 [netD n, shI sh, intsD nodes] (.d (bltD [] [] 1)) := by
  refine pcalls_of0 (fn := Try.f15) (by kernel_rfl) Try.func15 rfl (Nat.le_of_ble_eq_true rfl) fun c hc hp => ?_
  refine awp_less (τ' := frL [(0, .d (netD n)), (1, .d (shI sh)), (2, .d (intsD nodes))]) (less_cons (less_cons (less_cons (less_nil _) rfl) rfl) rfl) ?_
  refine awp_seq_s hp KT_ok hc rfl fun K1 hK1 => ?_
  simp -dsimp -implicitDefEqProofs (disch := first | assumption | omega | (simp [maxLen, avs_len, gates_len, wires_len, ps_len] <;> omega) | decide) only [sT_box, sT_alloc, deadH, sT_nil, oK_some, q_o, layF, ↓reduceIte, q_b, q_f, q_s, q_l, as_dagg, D.one, q_n, map_d, avs_nil, avs_cons, intsD, deadH, netD, netC, wiresD, gatesD, shI, za_47]
  refine hK1 _ _ ?_
  refine awp_seq_s hp KT_ok hc rfl fun K2 hK2 => ?_
  simp -dsimp -implicitDefEqProofs (disch := first | assumption | omega | (simp [maxLen, avs_len, gates_len, wires_len, ps_len] <;> omega) | decide) only [sT_move, sT_load, sT_call0, oK_some, q_o, loadF, ↓reduceIte, q_b, ifp, q_f, q_s, q_l, q_n, Nat.reduceEqDiff, takeD_all, Nat.reduceAdd, sz_41, ag_41]
  refine kc_by (build_a n sh nodes h hsl hnl hil hgl) rfl ?_
  simp -dsimp -implicitDefEqProofs (disch := first | assumption | omega | (simp [maxLen, avs_len, gates_len, wires_len, ps_len] <;> omega) | decide) only [sT_move, sT_assign, sT_extract, sT_alloc, sT_store, deadH, sT_nil, oK_some, q_o, layF, storeF, ↓reduceIte, q_b, ifp, q_f, q_s, q_l, as_dagg, q_a, D.one, q_n, Nat.reduceEqDiff, map_d, avs_nil, avs_cons, iD, Nat.reduceAdd, deadH, bddD, bddC, sz_31, za_31]
  refine hK2 _ _ ?_
  refine awp_seq_s hp KT_ok hc rfl fun K3 hK3 => ?_
  simp -dsimp -implicitDefEqProofs (disch := first | assumption | omega | (simp [maxLen, avs_len, gates_len, wires_len, ps_len] <;> omega) | decide) only [sT_move, sT_load, sT_build, sT_store, sT_nil, oK_some, q_o, loadF, buildF, storeF, ↓reduceIte, q_b, ifp, ifn, q_f, q_s, q_l, q_a, fill_cons, AV.one, D.one, Value.oneCell', q_n, Nat.reduceEqDiff, takeD_all, Nat.reduceAdd, sz_31, ag_31, pa_47, pl_47_0, pl_47_1, sz_47, zc_47]
  refine hK3 _ _ ?_
  refine awp_ret ?_
  try dsimp only [thenA, inBlockA]
  refine PostA_retc rfl ?_
  simp -dsimp -implicitDefEqProofs (disch := first | assumption | omega | (simp [maxLen, avs_len, gates_len, wires_len, ps_len] <;> omega) | decide) only [oK_some, q_o, loadF, ↓reduceIte, q_b, ifp, q_f, q_l, q_n, Nat.reduceEqDiff, takeD_all, Nat.reduceAdd, sz_47, ag_47]
  show closeA _ _ = _
  simp (disch := first | assumption | omega | (simp [maxLen, avs_len, gates_len, wires_len, ps_len] <;> omega) | decide) only [closeA, deep_d, deep_agg, deepL_nil, deepL_cons, Nat.reduceAdd, Nat.zero_add, D.fix, Option.map_some, Option.bind_some, List.length_cons, List.length_nil]
  rfl
set_option maxRecDepth 100000 in
set_option linter.unusedVariables false in
set_option maxHeartbeats 4000000 in
theorem found_c (V : Nat) (us : List T) (rs : List Nat) (hr : RowOk V us) (hV : V ≤ 1000) (hul : us.length ≤ bigB) (node n : Int) : PCalls Try.prog 20 [bddD (erow us) rs, iD node, iD n] (.d (.agg [boolsD (anyL us node n), iD (anyE us node n)])) := by
  refine pcalls_of0 (fn := Try.f20) (by kernel_rfl) Try.func20 rfl (Nat.le_of_ble_eq_true rfl) fun c hc hp => ?_
  refine awp_less (τ' := frL [(0, .d (bddD (erow us) rs)), (1, .d (iD node)), (2, .d (iD n))]) (less_cons (less_cons (less_cons (less_nil _) rfl) rfl) rfl) ?_
  refine awp_seq_s hp KT_ok hc rfl fun K1 hK1 => ?_
  simp -dsimp -implicitDefEqProofs (disch := first | assumption | omega | (simp [maxLen, avs_len, nds_len] <;> omega) | decide) only [sT_box, sT_alloc, deadH, sT_nil, oK_some, q_o, layF, ↓reduceIte, q_b, q_f, q_s, q_l, as_dagg, D.one, q_n, map_d, avs_nil, avs_cons, iD, deadH, bddD, bddC, za_53]
  refine hK1 _ _ ?_
  refine awp_seq_s hp KT_ok hc rfl fun K2 hK2 => ?_
  simp -dsimp -implicitDefEqProofs (disch := first | assumption | omega | (simp [maxLen, avs_len, nds_len] <;> omega) | decide) only [sT_move, sT_load, sT_call0, oK_some, q_o, loadF, ↓reduceIte, q_b, ifp, q_f, q_s, q_l, q_n, Nat.reduceEqDiff, takeD_all, Nat.reduceAdd, sz_31, ag_31]
  refine kc_by (any_c V us rs hr hV hul node n) rfl ?_
  simp -dsimp -implicitDefEqProofs (disch := first | assumption | omega | (simp [maxLen, avs_len, nds_len] <;> omega) | decide) only [sT_move, sT_assign, sT_extract, sT_nil, oK_some, ↓reduceIte, q_b, q_f, q_l, Nat.reduceEqDiff, iD, boolsD]
  refine hK2 _ _ ?_
  refine awp_seq_s hp KT_ok hc rfl fun K3 hK3 => ?_
  simp -dsimp -implicitDefEqProofs (disch := first | assumption | omega | (simp [maxLen, avs_len, nds_len] <;> omega) | decide) only [sT_move, sT_build, sT_store, sT_nil, oK_some, q_o, buildF, storeF, ↓reduceIte, q_b, ifp, ifn, q_f, q_s, q_l, q_a, fill_cons, as_fs, AV.one, D.one, Value.oneCell', q_n, Nat.reduceEqDiff, Nat.reduceAdd, pa_53, pl_53_0, pl_53_1, sz_53, zc_53]
  refine hK3 _ _ ?_
  refine awp_ret ?_
  try dsimp only [thenA, inBlockA]
  refine PostA_retc rfl ?_
  simp -dsimp -implicitDefEqProofs (disch := first | assumption | omega | (simp [maxLen, avs_len, nds_len] <;> omega) | decide) only [oK_some, q_o, loadF, ↓reduceIte, q_b, ifp, q_f, q_l, q_n, Nat.reduceEqDiff, takeD_all, iD, boolsD, Nat.reduceAdd, sz_53, ag_53]
  show closeA _ _ = _
  simp (disch := first | assumption | omega | (simp [maxLen, avs_len, nds_len] <;> omega) | decide) only [closeA, deep_d, deep_agg, deepL_nil, deepL_cons, Nat.reduceAdd, Nat.zero_add, D.fix, Option.map_some, Option.bind_some, List.length_cons, List.length_nil]
set_option maxRecDepth 100000 in
set_option linter.unusedVariables false in
set_option maxHeartbeats 4000000 in
theorem counted_c (V : Nat) (us : List T) (rs : List Nat) (hr : RowOk V us) (hV : V ≤ 1000) (hul : us.length ≤ bigB) (node n : Int) : PCalls Try.prog 27 [bddD (erow us) rs, iD node, iD n] (.d (.agg [iD (cntA us node n), iD (askE us node n)])) := by
  refine pcalls_of0 (fn := Try.f27) (by kernel_rfl) Try.func27 rfl (Nat.le_of_ble_eq_true rfl) fun c hc hp => ?_
  refine awp_less (τ' := frL [(0, .d (bddD (erow us) rs)), (1, .d (iD node)), (2, .d (iD n))]) (less_cons (less_cons (less_cons (less_nil _) rfl) rfl) rfl) ?_
  refine awp_seq_s hp KT_ok hc rfl fun K1 hK1 => ?_
  simp -dsimp -implicitDefEqProofs (disch := first | assumption | omega | (simp [maxLen, avs_len, nds_len] <;> omega) | decide) only [sT_box, sT_alloc, deadH, sT_nil, oK_some, q_o, layF, ↓reduceIte, q_b, q_f, q_s, q_l, as_dagg, D.one, q_n, map_d, avs_nil, avs_cons, iD, deadH, bddD, bddC, za_59]
  refine hK1 _ _ ?_
  refine awp_seq_s hp KT_ok hc rfl fun K2 hK2 => ?_
  simp -dsimp -implicitDefEqProofs (disch := first | assumption | omega | (simp [maxLen, avs_len, nds_len] <;> omega) | decide) only [sT_move, sT_load, sT_call0, oK_some, q_o, loadF, ↓reduceIte, q_b, ifp, q_f, q_s, q_l, q_n, Nat.reduceEqDiff, takeD_all, Nat.reduceAdd, sz_31, ag_31]
  refine kc_by (count_c V us rs hr hV hul node n) rfl ?_
  simp -dsimp -implicitDefEqProofs (disch := first | assumption | omega | (simp [maxLen, avs_len, nds_len] <;> omega) | decide) only [sT_move, sT_assign, sT_extract, sT_nil, oK_some, ↓reduceIte, q_b, q_f, q_l, Nat.reduceEqDiff, iD]
  refine hK2 _ _ ?_
  refine awp_seq_s hp KT_ok hc rfl fun K3 hK3 => ?_
  simp -dsimp -implicitDefEqProofs (disch := first | assumption | omega | (simp [maxLen, avs_len, nds_len] <;> omega) | decide) only [sT_move, sT_build, sT_store, sT_nil, oK_some, q_o, buildF, storeF, ↓reduceIte, q_b, ifp, ifn, q_f, q_s, q_l, q_a, fill_cons, AV.one, D.one, Value.oneCell', q_n, Nat.reduceEqDiff, Nat.reduceAdd, pa_59, pl_59_0, pl_59_1, sz_59, zc_59]
  refine hK3 _ _ ?_
  refine awp_ret ?_
  try dsimp only [thenA, inBlockA]
  refine PostA_retc rfl ?_
  simp -dsimp -implicitDefEqProofs (disch := first | assumption | omega | (simp [maxLen, avs_len, nds_len] <;> omega) | decide) only [oK_some, q_o, loadF, ↓reduceIte, q_b, ifp, q_f, q_l, q_n, Nat.reduceEqDiff, takeD_all, iD, Nat.reduceAdd, sz_59, ag_59]
  show closeA _ _ = _
  simp (disch := first | assumption | omega | (simp [maxLen, avs_len, nds_len] <;> omega) | decide) only [closeA, deep_d, deep_agg, deepL_nil, deepL_cons, Nat.reduceAdd, Nat.zero_add, D.fix, Option.map_some, Option.bind_some, List.length_cons, List.length_nil]
end Go.Proofs.Ytgfnpfchdlcoeaa
