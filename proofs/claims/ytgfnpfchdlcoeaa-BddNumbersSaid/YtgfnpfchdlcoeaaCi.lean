/- Build, of a shape and nodes that are not refused. -/
import Derived.Test.YtgfnpfchdlcoeaaQ
import Derived.Test.YtgfnpfchdlcoeaaCh
set_option linter.unusedVariables false
set_option linter.unusedSimpArgs false
namespace Go.Proofs.Ytgfnpfchdlcoeaa
open Go Go.RowKit
/-- The functions of the first nodes: constants, inputs, j gates. -/
structure FsP (V ins : Nat) (sh : Sh) (gates : List Gate) (j : Nat) (fs : List T) : Prop where
  len : fs.length = 2 + ins + j
  ok : ∀ t ∈ fs, t.Ok V 0
  f0 : nth fs 0 = .leaf false
  f1 : nth fs 1 = .leaf true
  fv : ∀ v, v < ins → nth fs (2 + v) = varT v
  fg : ∀ q, q < j → ∀ a, (nth fs (2 + ins + q)).eval a = gateA ins sh (fs.take (2 + ins + q)) (nth gates q) a
def vfs (v : Nat) : List T := .leaf false :: .leaf true :: (List.range v).map varT
theorem vfs_len (v : Nat) : (vfs v).length = 2 + v := by simp [vfs]; omega
theorem vfs_succ (v : Nat) : vfs (v + 1) = vfs v ++ [varT v] := by simp [vfs, List.range_succ]
theorem FsP.base {V ins : Nat} {sh : Sh} {gates : List Gate} (h : ins ≤ V) : FsP V ins sh gates 0 (vfs ins) := by
  refine ⟨by rw [vfs_len]; rfl, fun t ht => ?_, rfl, rfl, fun v hv => ?_, fun q hq => absurd hq (by omega)⟩
  · simp only [vfs, List.mem_cons] at ht
    rcases ht with rfl | rfl | ht
    · trivial
    · trivial
    · obtain ⟨v, hv, rfl⟩ := List.mem_map.1 ht
      have := List.mem_range.1 hv
      exact ⟨Nat.zero_le _, by omega, fun e => (by cases e), trivial, trivial⟩
  · unfold vfs
    rw [nth_eq (by simp; omega)]
    simp [Nat.add_comm 2 v]
theorem take_app {α : Type} {l m : List α} {k : Nat} (h : k ≤ l.length) : (l ++ m).take k = l.take k := List.take_append_of_le_length h
theorem FsP.snoc {V ins : Nat} {sh : Sh} {gates : List Gate} {j : Nat} {fs : List T} (h : FsP V ins sh gates j fs) {t : T} (ht : t.Ok V 0) (he : ∀ a, t.eval a = gateA ins sh fs (nth gates j) a) : FsP V ins sh gates (j + 1) (fs ++ [t]) := by
  have hl := h.len
  refine ⟨by simp; omega, fun s hs => ?_, by rw [nth_append_left (by omega)]; exact h.f0, by rw [nth_append_left (by omega)]; exact h.f1, fun v hv => by rw [nth_append_left (by omega)]; exact h.fv v hv, fun q hq a => ?_⟩
  · rcases List.mem_append.1 hs with hs | hs
    · exact h.ok s hs
    · rw [List.mem_singleton.1 hs]; exact ht
  · by_cases hqj : q < j
    · rw [nth_append_left (by omega), take_app (by omega)]; exact h.fg q hqj a
    · have : q = j := by omega
      subst this
      rw [← hl, nth_append_end, take_app (Nat.le_refl _), List.take_length]; exact he a
def rootsT (fs : List T) (nodes : List Int) : List T := nodes.map fun k => nth fs k.toNat
def bddF (rs : List T) : D := bddD (erow (expT rs)) (rs.map (num (expT rs)))
/-- What Build gives. -/
def BuK (V : Nat) (n : Net) (sh : Sh) (nodes : List Int) (r : AV) : Prop :=
  (∃ j fs, j ≤ n.gates.length ∧ FsP V n.ins.length sh n.gates j fs ∧ 3000 < (expT fs).length ∧ r = .tup [.d (bddD [] []), .d (iD 2)]) ∨
  (∃ fs, FsP V n.ins.length sh n.gates n.gates.length fs ∧ (∀ q, q < n.gates.length → (expT (fs.take (2 + n.ins.length + (q + 1)))).length ≤ 3000) ∧ r = .tup [.d (bddF (rootsT fs nodes)), .d (iD 0)])
theorem roots_len (fs : List T) (nodes : List Int) : (rootsT fs nodes).length = nodes.length := by simp [rootsT]
theorem fixN (ts fs : List T) : (fs.map (numD ts)).map D.fix = fs.map (numD ts) := fix_map (fun _ => rfl) fs
def bldG (ts : List T) (fst : List Nat) (sh : Sh) (fs : List T) : AHeap := [.cells [.op 0 0, .os 1 6 0 fst.length, .d (shD sh), .os 1 5 0 fs.length], .cells (avs (fs.map (numD ts))), .cells (avs (fst.map natD))]
def shZ (sh : Sh) : List (Int × Int) := sh.map fun p => ((p.1 : Int), (p.2 : Int))
theorem shD_I (sh : Sh) : shD sh = shI (shZ sh) := by
  unfold shD shI shZ
  rw [List.flatMap_map, List.length_map]; rfl
theorem shape_in {sh : Sh} (h : ShOk sh) : (shZ sh).any outB = false := by
  rw [List.any_eq_false]
  intro p hp
  obtain ⟨q, hq, rfl⟩ := List.mem_map.1 hp
  obtain ⟨k, hk, rfl⟩ := List.getElem_of_mem hq
  have := h.el k hk
  rw [nth_eq hk] at this
  simp only [outB, Bool.or_eq_true, decide_eq_true_eq, not_or]
  constructor <;> omega
theorem mrow_nil : mrow [] = [⟨1000, 0, 0⟩, ⟨1000, 0, 0⟩] := by decide
theorem MS.nil {V : Nat} (hV : V ≤ 900) : MS V [] ([], 0) ([], 0) := ⟨.nil V, ⟨OkM.nil _ _, fun t ht => (by cases ht), fun k u hg => (by cases hg)⟩, ⟨OkM.nil _ _, fun k u hg => (by cases hg)⟩, by decide, hV⟩
theorem firsts_take (base : Nat) (sh : Sh) {i : Nat} (h : i < sh.length) : (firsts base sh).take (i + 1) = (firsts base sh).take i ++ [firstN base sh i] := by rw [take_nth (by rw [firsts_len]; exact h), nth_firsts h]
theorem first_b {base : Nat} {sh : Sh} (h : ShOk sh) : ∀ {k : Nat}, k ≤ sh.length → firstN base sh k ≤ base + k * 64
  | 0, _ => by simp [firstN]
  | k + 1, hk => by
    have := first_b (base := base) h (k := k) (by omega)
    have h2 := h.el k (by omega)
    have h3 := Nat.mul_le_mul h2.1 h2.2
    rw [first_succ (by omega)]; omega
theorem exp_le {V : Nat} {ts fs : List T} (hr : RowOk V ts) (h : ∀ t ∈ fs, t ∈ full ts) : (expT fs).length ≤ ts.length := by
  obtain ⟨h1, h2⟩ := expT_ok hr h
  exact row_len h1 h2
set_option maxRecDepth 100000 in
set_option linter.unusedVariables false in
set_option maxHeartbeats 4000000 in
theorem build_c (V : Nat) (n : Net) (sh : Sh) (nodes : List Int) (hsh : ShOk sh) (hV : varsN n.ins.length sh = V) (hV9 : V ≤ 900) (hgs : ∀ k, k < n.gates.length → GOp (2 + n.ins.length + k) (nth n.gates k)) (hno : nodes.any (unkB (2 + n.ins.length + n.gates.length)) = false) (hnl : nodes.length ≤ 1000000) (hil : n.ins.length ≤ 1000) (hgl : n.gates.length ≤ 1000) (hB : n.ins.length + n.gates.length * (8 + 7 * 2 ^ V) + 32 * 2 ^ V ≤ bigB) : RCalls Try.prog 41 [netD n, shD sh, intsD nodes] (BuK V n sh nodes) := by
  have hpos : 0 < 2 ^ V := Nat.two_pow_pos V
  have hB' := hB
  unfold bigB at hB
  have hs8 := hsh.len
  have hiV : n.ins.length ≤ V := by rw [← hV]; have := first_le (base := n.ins.length) (sh := sh) (d := sh.length) (k := 0) (by omega); unfold varsN; simp [firstN] at this ⊢
  have q0 : decide ((8 : Int) < sh.length) = false := by simp; omega
  have hin := shape_in hsh
  refine rcalls_of0 (fn := Try.f41) (by kernel_rfl) Try.func41 rfl (Nat.le_of_ble_eq_true rfl) fun c hc hp => ?_
  refine awp_less (τ' := frL [(0, .d (netD n)), (1, .d (shD sh)), (2, .d (intsD nodes))]) (less_cons (less_cons (less_cons (less_nil _) rfl) rfl) rfl) ?_
  refine awp_seq_s hp KT_ok hc rfl fun K1 hK1 => ?_
  simp -dsimp -implicitDefEqProofs (disch := first | assumption | omega | (simp [maxLen, avs_len, mrow_len, nds_len, shs_len, firsts_len, gates_len, wires_len, vfs_len, ps_len, erow_len] <;> omega) | decide) only [sT_assign, sT_box, sT_alloc, deadH, sT_nil, oK_some, q_o, layF, ↓reduceIte, q_b, q_f, q_s, q_l, as_dagg, D.one, q_n, map_d, avs_nil, avs_cons, intsD, deadH, shD, netD, netC, wiresD, gatesD, za_31]
  refine hK1 _ _ ?_
  refine awp_seq_s hp KT_ok hc rfl fun K2 hK2 => ?_
  simp -dsimp -implicitDefEqProofs (disch := first | assumption | omega | (simp [maxLen, avs_len, mrow_len, nds_len, shs_len, firsts_len, gates_len, wires_len, vfs_len, ps_len, erow_len] <;> omega) | decide) only [sT_assign, sT_nil, q_f]
  refine hK2 _ _ ?_
  refine awp_seq_s hp KT_ok hc rfl fun K3 hK3 => ?_
  simp -dsimp -implicitDefEqProofs (disch := first | assumption | omega | (simp [maxLen, avs_len, mrow_len, nds_len, shs_len, firsts_len, gates_len, wires_len, vfs_len, ps_len, erow_len] <;> omega) | decide) only [sT_load, sT_fa, sT_bin, sT_len, sT_alloc, sT_store, deadH, sT_nil, oK_some, q_o, loadF, fieldAddrF, binF_v, lenF, builtinF, layF, storeF, v_add, ↓reduceIte, q_b, ifp, q_f, q_s, q_l, q_a, q_n, Nat.reduceEqDiff, map_d, avs_nil, avs_cons, Nat.reduceAdd, deadH, fo_41_0, sz_38, ag_38, eo_38, sz_3, fo_41_1, sz_39, ag_39, eo_39, za_3]
  refine hK3 _ _ ?_
  refine awp_seq_s hp KT_ok hc rfl fun K4 hK4 => ?_
  simp -dsimp -implicitDefEqProofs (disch := first | assumption | omega | (simp [maxLen, avs_len, mrow_len, nds_len, shs_len, firsts_len, gates_len, wires_len, vfs_len, ps_len, erow_len] <;> omega) | decide) only [sT_assign, sT_mf, sT_nil, ↓reduceIte, q_b, q_f, q_s]
  refine hK4 _ _ ?_
  refine awp_seq_k fun K5 hK5 => ?_
  refine awp_seq_s hp KT_ok hc rfl fun K6 hK6 => ?_
  simp -dsimp -implicitDefEqProofs (disch := first | assumption | omega | (simp [maxLen, avs_len, mrow_len, nds_len, shs_len, firsts_len, gates_len, wires_len, vfs_len, ps_len, erow_len] <;> omega) | decide) only [sT_move, sT_bin, sT_len, sT_call0, sT_g, oK_some, gK_t, q_o, binF_v, lenF, builtinF, v_gtr, ↓reduceIte, q_b, guardA_some, guardV_f, q_f, q_s, q_l, q_n, Nat.reduceEqDiff, Nat.reduceAdd, q0, eo_32]
  refine kc_by ((by have := contains_p (shZ sh) (by unfold shZ maxLen; simp; omega); rw [← shD_I, hin] at this; exact this)) rfl ?_
  simp -dsimp -implicitDefEqProofs (disch := first | assumption | omega | (simp [maxLen, avs_len, mrow_len, nds_len, shs_len, firsts_len, gates_len, wires_len, vfs_len, ps_len, erow_len] <;> omega) | decide) only [sT_move, sT_pick, sT_call0, sT_g, oK_some, gK_t, q_o, ↓reduceIte, q_b, guardA_some, guardV_f, q_f, q_s, q_l, q_n, Nat.reduceEqDiff, oD, Nat.reduceAdd]
  refine kc_own ((by have := contains_i nodes (2 + n.ins.length + n.gates.length) (by unfold maxLen; omega); rw [hno] at this; exact this)) ?_ ?_
  · simp (disch := first | assumption | omega | (simp [maxLen, avs_len, mrow_len, nds_len, shs_len, firsts_len, gates_len, wires_len, vfs_len, ps_len, erow_len] <;> omega) | decide) only [deep_d, deepL_nil, deepL_cons, lookH_eq, cellsOf_c, deep_op, deep_clo, Nat.reduceAdd, D.fix, Option.map_some, Option.bind_some, List.getElem?_cons_zero, List.getElem?_cons_succ, iD, intsD]
  simp -dsimp -implicitDefEqProofs (disch := first | assumption | omega | (simp [maxLen, avs_len, mrow_len, nds_len, shs_len, firsts_len, gates_len, wires_len, vfs_len, ps_len, erow_len] <;> omega) | decide) only [sT_pick, sT_nil, oK_some, ↓reduceIte, q_b, q_f, Nat.reduceEqDiff]
  refine hK6 _ _ ?_
  refine awp_cond rfl (fun ht => ?_) (fun ht => ?_)
  · cases ht
  · refine awp_skip (hK5 _ _ ?_)
    refine awp_seq_s hp KT_ok hc rfl fun K7 hK7 => ?_
    simp -dsimp -implicitDefEqProofs (disch := first | assumption | omega | (simp [maxLen, avs_len, mrow_len, nds_len, shs_len, firsts_len, gates_len, wires_len, vfs_len, ps_len, erow_len] <;> omega) | decide) only [sT_call0, q_f, q_s, q_l, q_n, Nat.reduceAdd]
    refine kc_in ⟨by kernel_rfl, _, _, Try.func60, rfl, Nat.le_of_ble_eq_true rfl, fun c107 hc107 => ?_⟩
    refine awp_sv0 ?_
    refine awp_seq_s (Kp.all c107) KT_ok hc107 rfl fun K108 hK108 => ?_
    simp -dsimp -implicitDefEqProofs (disch := first | assumption | omega | (simp [maxLen, avs_len, mrow_len, nds_len, shs_len, firsts_len, gates_len, wires_len, vfs_len, ps_len, erow_len] <;> omega) | decide) only [sT_assign, sT_nil, q_f]
    refine hK108 _ _ ?_
    refine awp_seq_s (Kp.all c107) KT_ok hc107 rfl fun K109 hK109 => ?_
    simp -dsimp -implicitDefEqProofs (disch := first | assumption | omega | (simp [maxLen, avs_len, mrow_len, nds_len, shs_len, firsts_len, gates_len, wires_len, vfs_len, ps_len, erow_len] <;> omega) | decide) only [sT_assign, sT_build, sT_bs, deadH, sT_nil, oK_some, q_o, buildF, layF, ↓reduceIte, q_b, ifp, ifn, q_f, q_s, q_l, List.append_nil, List.replicate_zero, List.replicate_succ, reps_def, q_a, fill_cons, AV.one, D.one, Value.oneCell', q_n, Nat.reduceEqDiff, Nat.reduceAdd, deadH, Nat.zero_mul, Nat.reduceMul, List.flatten_cons, List.flatten_nil, pa_83, pl_83_0, zc_83, mk_28]
    refine hK109 _ _ ?_
    refine awp_seq_s (Kp.all c107) KT_ok hc107 rfl fun K110 hK110 => ?_
    simp -dsimp -implicitDefEqProofs (disch := first | assumption | omega | (simp [maxLen, avs_len, mrow_len, nds_len, shs_len, firsts_len, gates_len, wires_len, vfs_len, ps_len, erow_len] <;> omega) | decide) only [sT_move, sT_assign, sT_build, sT_box, sT_mm, deadH, sT_nil, oK_some, q_o, buildF, layF, ↓reduceIte, q_b, ifn, q_f, q_s, q_l, q_a, fill_cons, as_os, as_om, AV.one, D.one, Value.oneCell', q_n, Nat.reduceEqDiff, Nat.reduceAdd, deadH, mm_m, pa_140, pl_140_0, pl_140_1, pl_140_2, zc_140]
    refine hK110 _ _ ?_
    refine awp_ret ?_
    refine PostA_ret1 (t := 0) rfl ?_
    simp -dsimp -implicitDefEqProofs (disch := first | assumption | omega | (simp [maxLen, avs_len, mrow_len, nds_len, shs_len, firsts_len, gates_len, wires_len, vfs_len, ps_len, erow_len] <;> omega) | decide) only [sT_move, sT_assign, sT_build, sT_box, sT_bs, deadH, sT_nil, oK_some, q_o, buildF, layF, ↓reduceIte, q_b, ifp, ifn, q_f, q_s, q_l, List.replicate_zero, List.replicate_succ, reps_def, q_a, fill_cons, as_fs, as_os, as_op, AV.one, D.one, Value.oneCell', q_n, Nat.reduceEqDiff, Nat.reduceAdd, deadH, mk_29, pa_123, pl_123_0, pl_123_2, pl_123_3, zc_123]
    refine hK7 _ _ ?_
    refine awp_seq_k fun K8 hK8 => ?_
    refine awp_seq_s hp KT_ok hc rfl fun K9 hK9 => ?_
    simp -dsimp -implicitDefEqProofs (disch := first | assumption | omega | (simp [maxLen, avs_len, mrow_len, nds_len, shs_len, firsts_len, gates_len, wires_len, vfs_len, ps_len, erow_len] <;> omega) | decide) only [sT_move, sT_load, sT_fa, sT_len, sT_nil, oK_some, q_o, loadF, fieldAddrF, lenF, builtinF, ↓reduceIte, q_b, ifp, q_f, q_s, q_l, q_n, Nat.reduceEqDiff, Nat.reduceAdd, fo_41_0, sz_38, ag_38, eo_38]
    refine hK9 _ _ ?_
    refine awp_block ?_
    refine awp_loop_rt hp (fun τ' H' mm => ∃ (v : Nat) (ts : List T) (μu μm : Mp), (v ≤ n.ins.length ∧ MS V ts μu μm ∧ ts.length ≤ v ∧ ∀ t ∈ vfs v, t ∈ full ts) ∧ mm = n.ins.length - v ∧ H' = mgrH ts μu μm ++ bldG ts [] sh (vfs v) ++ [.cells (avs (netC n)), .cells [.d (.val (.slice none 0 0)), .d (.val (.slice none 0 0))]] ∧ τ' = frL [(1, .d (shD sh)), (2, .d (intsD nodes)), (3, .op 7 0), (6, .op 8 0), (11, .op 4 0), (51, .d (iD n.ins.length)), (52, .d (iD v))]) (n.ins.length) ?_ ⟨0, [], ([], 0), ([], 0), ⟨Nat.zero_le _, MS.nil hV9, Nat.zero_le _, fun t ht => ht⟩, rfl, rfl, rfl⟩ ?_
    · refine Rt.trans (Rt.nilc 8 1 1 rfl rfl) ?_
      refine Rt.trans (Rt.gc (keep := [6,4,5,3,8,7,9,0,1]) (by decide) (by decide) (by simp [])) ?_
      refine Rt.end (less_cons (less_cons (less_cons (less_cons (less_cons (less_cons (less_cons (less_nil _) rfl) rfl) rfl) rfl) rfl) rfl) rfl) ?_
      simp only [intsD, gcH, gcO_c, gc_m, gcVs, gcV, Nat.reduceAdd, posN, avs_nil, avs_cons, List.map_cons, List.map_nil, List.getD_cons_zero, List.getD_cons_succ, ↓reduceIte, Nat.reduceEqDiff, Option.map_some, List.set_cons_zero, List.set_cons_succ, List.cons_append, List.nil_append, gc_m, mgrH, mgrC, bldG, shD, netC, wiresD, gatesD]; first | done | rfl | (rw [mrow_nil]; rfl)
    rintro τ' H' mm ⟨v, ts, μu, μm, ⟨hv, hS, htl, hfs⟩, rfl, rfl, rfl⟩
    refine awp_seq_s hp KT_ok hc rfl fun K10 hK10 => ?_
    simp -dsimp -implicitDefEqProofs (disch := first | assumption | omega | (simp [maxLen, avs_len, mrow_len, nds_len, shs_len, firsts_len, gates_len, wires_len, vfs_len, ps_len, erow_len] <;> omega) | decide) only [sT_bin, sT_nil, oK_some, q_o, binF_v, v_lss, ↓reduceIte, q_b, q_f, q_s, q_l, Nat.reduceEqDiff, avs_nil, avs_cons, iD, intsD, mgrH, mgrC, bldG, shD, netC, wiresD, gatesD]
    refine hK10 _ _ ?_
    refine awp_seq_k fun K11 hK11 => ?_
    refine awp_cond rfl (fun ht => ?_) (fun ht => ?_)
    · have hlt : v < n.ins.length := by simp at ht; omega
      refine awp_skip (hK11 _ _ ?_)
      refine awp_seq_k fun K12 hK12 => ?_
      refine awp_block ?_
      refine awp_seq_s hp KT_ok hc rfl fun K13 hK13 => ?_
      simp -dsimp -implicitDefEqProofs (disch := first | assumption | omega | (simp [maxLen, avs_len, mrow_len, nds_len, shs_len, firsts_len, gates_len, wires_len, vfs_len, ps_len, erow_len] <;> omega) | decide) only [sT_move, sT_assign, sT_nil, ↓reduceIte, q_b, q_f, Nat.reduceEqDiff]
      refine hK13 _ _ ?_
      refine awp_ss KT_ok hp hc mixed rfl [(0, []), (1, []), (2, []), (3, []), (4, []), (5, []), (6, []), (7, []), (8, []), (9, []), (10, [4]), (11, []), (12, []), (13, []), (14, []), (15, [])] [[], [], [1], [1, 2], [1, 2, 3], [], [5], [5, 6], [5, 6, 7], [], [5, 6, 7, 8, 9], [5, 6, 7, 8, 9, 10], [1, 2, 3, 4, 5, 6, 7, 8, 9, 10, 11], [0, 1, 2, 3, 4, 5, 6, 7, 8, 9, 10, 11, 12], [0, 1, 2, 3, 4, 5, 6, 7, 8, 9, 10, 11, 12, 13], [0, 1, 2, 3, 4, 5, 6, 7, 8, 9, 10, 11, 12, 13, 14]] 1 (by kernel_rfl) fun K14 hK14 => ?_
      simp -dsimp -implicitDefEqProofs (disch := first | assumption | omega | (simp [maxLen, avs_len, mrow_len, nds_len, shs_len, firsts_len, gates_len, wires_len, vfs_len, ps_len, erow_len] <;> omega) | decide) only [oK_some, loadF, fieldAddrF, nilOk, ↓reduceIte, q_b, ifp, q_f, q_s, q_l, List.replicate_zero, List.replicate_succ, q_n, Nat.reduceEqDiff, Nat.reduceAdd, stg_nil, stg_cons, List.getD_cons_zero, List.getD_cons_succ, sS_move, sS_load, sS_fa, sS_nilc, sS_call0, fo_123_3, sz_29, ag_29, fo_123_0, sz_120, ag_120]
      refine ke_st (S := mgrH ts μu μm) (T := bldG ts [] sh (vfs v) ++ [.cells (avs (netC n)), .cells [.d (.val (.slice none 0 0)), .d (.val (.slice none 0 0))], .free]) (var_n (v := v) hS (by omega) (by unfold bigB; omega) rfl) rfl (Nat.le_of_ble_eq_true rfl) (by first | rfl | (simp [AV.allIs, AV.allI, allI_c, allI_de, allI_fr, okI, ltI, allIs_avs, all_m, mgrH, mgrC, bldG, bldT, bldH, gA]; done) | (intro o ho; simp at ho; done)) (fun t => frL_all (by first | rfl | (simp [AV.allIs, AV.allI, allI_c, allI_de, allI_fr, okI, ltI, allIs_avs, all_m, mgrH, mgrC, bldG, bldT, bldH, gA]; done) | (intro o ho; simp at ho; done)) t) (fun t => frL_all (by first | rfl | (simp [AV.allIs, AV.allI, allI_c, allI_de, allI_fr, okI, ltI, allIs_avs, all_m, mgrH, mgrC, bldG, bldT, bldH, gA]; done) | (intro o ho; simp at ho; done)) t) (by first | rfl | (simp [AV.allIs, AV.allI, allI_c, allI_de, allI_fr, okI, ltI, allIs_avs, all_m, mgrH, mgrC, bldG, bldT, bldH, gA]; done) | (intro o ho; simp at ho; done)) (by first | rfl | (simp [AV.allIs, AV.allI, allI_c, ltI, allIs_avs, all_m, mgrH, mgrC]; done) | (intro o ho; simp at ho; done)) (by first | rfl | (simp [AV.allIs, AV.allI, allI_c, allI_fr, okI, allIs_avs, mgrH, mgrC, bldG]; done) | (intro o ho; simp at ho; done)) ?_
      rintro _ _ ⟨ts2, μu2, rfl, rfl, hS2, hp2, hl2, hm2⟩
      refine ⟨rfl, ?_⟩
      simp -dsimp -implicitDefEqProofs (disch := first | assumption | omega | (simp [maxLen, avs_len, mrow_len, nds_len, shs_len, firsts_len, gates_len, wires_len, vfs_len, ps_len, erow_len] <;> omega) | decide) only [deadH, oK_some, q_o, loadF, fieldAddrF, layF, layEF, srcF, storeF, nilOk, ↓reduceIte, q_b, ifp, ifn, q_f, q_s, q_l, List.append_nil, List.replicate_zero, List.replicate_succ, reps_def, q_a, fill_cons, as_os, and_true, q_n, Nat.reduceEqDiff, shB, appB, avs_nil, avs_cons, avs_len, avs_app1, List.drop_zero, iD, intsD, Nat.reduceAdd, deadH, List.length_map, layEF, frzF, datas, rT_nil, rT_load, sS_nil, sS_fa, sS_nilc, sS_bs, sS_app, sS_store, mgrH, mgrC, bldG, shD, netC, wiresD, gatesD, fo_123_3, sz_29, ag_29, mk_29]
      refine hK14 _ _ (hK12 _ _ ?_)
      refine awp_s hp KT_ok hc rfl fun K15 hK15 => ?_
      simp -dsimp -implicitDefEqProofs (disch := first | assumption | omega | (simp [maxLen, avs_len, mrow_len, nds_len, shs_len, firsts_len, gates_len, wires_len, vfs_len, ps_len, erow_len] <;> omega) | decide) only [sT_move, sT_bin, sT_nil, oK_some, q_o, binF_v, v_add, ↓reduceIte, q_b, q_f, Nat.reduceEqDiff]
      have hfs2 : ∀ t ∈ vfs (v + 1), t ∈ full ts2 := fun t ht => by
        rw [vfs_succ] at ht
        rcases List.mem_append.1 ht with ht | ht
        · exact full_pre hp2 (hfs t ht)
        · rw [List.mem_singleton.1 ht]; exact hm2
      refine hK15 _ _ ⟨_, _, _, ?_, ⟨v + 1, ts2, μu2, μm, ⟨by omega, hS2, by omega, hfs2⟩, rfl, rfl, rfl⟩, ?_⟩
      · first | omega | (simp only [List.length_cons]; omega) | (dsimp only; omega)
      · refine Rt.trans (Rt.gc (keep := [0,1,2,3,4,10,6,7,8]) (by decide) (by decide) (by simp [])) ?_
        refine Rt.end (less_cons (less_cons (less_cons (less_cons (less_cons (less_cons (less_cons (less_nil _) rfl) rfl) rfl) rfl) rfl) rfl) rfl) ?_
        simp only [intsD, gcH, gcO_c, gc_m, gcVs_avs, gcVs, gcV, Nat.reduceAdd, posN, avs_nil, avs_cons, List.map_cons, List.map_nil, List.getD_cons_zero, List.getD_cons_succ, ↓reduceIte, Nat.reduceEqDiff, Option.map_some, List.cons_append, List.nil_append, gc_m, mgrH, mgrC, bldG, shD, netC, wiresD, gatesD]; rw [vfs_succ, List.map_append, numD_pre hp2 hfs]; simp [avs, numD, iD, vfs_len]
    · have hvv : v = n.ins.length := by simp at ht; omega
      subst hvv
      refine awp_exit (hK8 _ _ ?_)
      refine awp_seq_s hp KT_ok hc rfl fun K16 hK16 => ?_
      simp -dsimp -implicitDefEqProofs (disch := first | assumption | omega | (simp [maxLen, avs_len, mrow_len, nds_len, shs_len, firsts_len, gates_len, wires_len, vfs_len, ps_len, erow_len] <;> omega) | decide) only [sT_assign, sT_load, sT_fa, sT_len, sT_nil, oK_some, q_o, loadF, fieldAddrF, lenF, builtinF, ↓reduceIte, q_b, ifp, q_f, q_s, q_l, q_n, Nat.reduceEqDiff, Nat.reduceAdd, fo_41_0, sz_38, ag_38, eo_38]
      refine hK16 _ _ ?_
      refine awp_seq_k fun K17 hK17 => ?_
      refine awp_seq_s hp KT_ok hc rfl fun K18 hK18 => ?_
      simp -dsimp -implicitDefEqProofs (disch := first | assumption | omega | (simp [maxLen, avs_len, mrow_len, nds_len, shs_len, firsts_len, gates_len, wires_len, vfs_len, ps_len, erow_len] <;> omega) | decide) only [sT_move, sT_len, sT_nil, oK_some, q_o, lenF, builtinF, ↓reduceIte, q_b, q_f, q_s, Nat.reduceEqDiff, eo_32]
      refine hK18 _ _ ?_
      refine awp_block ?_
      refine awp_loop_rt hp (fun τ' H' mm => ∃ (i : Nat) (fst : List Nat), (i ≤ sh.length ∧ fst = (firsts n.ins.length sh).take i) ∧ mm = sh.length - i ∧ H' = mgrH ts μu μm ++ bldG ts fst sh (vfs n.ins.length) ++ [.cells (avs (netC n)), .cells [.d (.val (.slice none 0 0)), .d (.val (.slice none 0 0))]] ∧ τ' = frL [(2, .d (intsD nodes)), (3, .op 7 0), (6, .op 8 0), (11, .op 4 0), (13, .d (iD (firstN n.ins.length sh i))), (74, .d (shD sh)), (75, .d (iD sh.length)), (76, .d (iD i))]) (sh.length) ?_ ⟨0, [], ⟨Nat.zero_le _, rfl⟩, rfl, rfl, rfl⟩ ?_
      · refine Rt.trans (Rt.gc (keep := [0,1,2,3,4,5,6,7,8]) (by decide) (by decide) (by simp [])) ?_
        refine Rt.end (less_cons (less_cons (less_cons (less_cons (less_cons (less_cons (less_cons (less_cons (less_nil _) rfl) rfl) rfl) rfl) rfl) rfl) rfl) rfl) ?_
        first | rfl | (simp only [intsD, gcH, gcO_c, gc_m, gcVs_avs, gcVs, gcV, Nat.reduceAdd, posN, avs_nil, avs_cons, List.map_cons, List.map_nil, List.getD_cons_zero, List.getD_cons_succ, ↓reduceIte, Nat.reduceEqDiff, Option.map_some, List.cons_append, List.nil_append, gc_m, mgrH, mgrC, bldG, shD, netC, wiresD, gatesD]; first | done | rfl)
      rintro τ' H' mm ⟨i, fst, ⟨hi, hfst⟩, rfl, rfl, rfl⟩
      refine awp_seq_s hp KT_ok hc rfl fun K19 hK19 => ?_
      simp -dsimp -implicitDefEqProofs (disch := first | assumption | omega | (simp [maxLen, avs_len, mrow_len, nds_len, shs_len, firsts_len, gates_len, wires_len, vfs_len, ps_len, erow_len] <;> omega) | decide) only [sT_bin, sT_nil, oK_some, q_o, binF_v, v_lss, ↓reduceIte, q_b, q_f, q_s, Nat.reduceEqDiff, avs_nil, avs_cons, iD, intsD, mgrH, mgrC, bldG, shD, netC, wiresD, gatesD]
      refine hK19 _ _ ?_
      refine awp_seq_k fun K20 hK20 => ?_
      refine awp_cond rfl (fun ht => ?_) (fun ht => ?_)
      · have hlt : i < sh.length := by simp at ht; omega
        have hfl : fst.length = i := by rw [hfst, List.length_take, firsts_len]; omega
        have fb := first_b (base := n.ins.length) hsh (k := i) (by omega)
        have hel := hsh.el i hlt
        have hib : ((nth sh i).1 : Int) * ((nth sh i).2 : Int) ≤ 64 := by
          have := Nat.mul_le_mul hel.1 hel.2
          omega
        have hib0 : 0 ≤ ((nth sh i).1 : Int) * ((nth sh i).2 : Int) := by
          have : (((nth sh i).1 * (nth sh i).2 : Nat) : Int) = ((nth sh i).1 : Int) * ((nth sh i).2 : Int) := by simp
          omega
        have hfs1 : (firstN n.ins.length sh (i + 1) : Int) = (firstN n.ins.length sh i : Int) + ((nth sh i).1 : Int) * ((nth sh i).2 : Int) := by rw [first_succ hlt]; simp
        refine awp_skip (hK20 _ _ ?_)
        refine awp_seq_k fun K21 hK21 => ?_
        refine awp_block ?_
        refine awp_seq_s hp KT_ok hc rfl fun K22 hK22 => ?_
        simp -dsimp -implicitDefEqProofs (disch := first | assumption | omega | (simp [maxLen, avs_len, mrow_len, nds_len, shs_len, firsts_len, gates_len, wires_len, vfs_len, ps_len, erow_len] <;> omega) | decide) only [sT_load, sT_ia, sT_alloc, sT_store, deadH, sT_nil, oK_some, q_o, loadF, ixO, indexAddrF, layF, storeF, ↓reduceIte, q_b, ifp, q_f, q_s, q_l, as_dagg, q_a, D.one, Value.oneCell', Int.toNat_natCast, q_n, Nat.reduceEqDiff, map_d, avs_nil, avs_cons, iD, Nat.reduceAdd, deadH, sh_row, shC, eo_32, sz_84, ag_84, za_84]
        refine hK22 _ _ ?_
        refine awp_seq_s hp KT_ok hc rfl fun K23 hK23 => ?_
        simp -dsimp -implicitDefEqProofs (disch := first | assumption | omega | (simp [maxLen, avs_len, mrow_len, nds_len, shs_len, firsts_len, gates_len, wires_len, vfs_len, ps_len, erow_len] <;> omega) | decide) only [sT_move, sT_load, sT_fa, sT_nilc, sT_bs, sT_app, sT_store, deadH, sT_nil, oK_some, q_o, loadF, fieldAddrF, layF, srcF, storeF, nilOk, ↓reduceIte, q_b, ifp, ifn, q_f, q_s, q_l, List.append_nil, List.replicate_zero, List.replicate_succ, reps_def, q_a, fill_cons, as_os, q_n, Nat.reduceEqDiff, avs_len, avs_app1, takeD_all, List.drop_zero, Nat.reduceAdd, deadH, List.length_map, fo_123_1, sz_29, ag_29, mk_29]
        refine hK23 _ _ ?_
        refine awp_s hp KT_ok hc rfl fun K24 hK24 => ?_
        simp -dsimp -implicitDefEqProofs (disch := first | assumption | omega | (simp [maxLen, avs_len, mrow_len, nds_len, shs_len, firsts_len, gates_len, wires_len, vfs_len, ps_len, erow_len] <;> omega) | decide) only [sT_move, sT_assign, sT_load, sT_ia, sT_bin, sT_nil, oK_some, q_o, loadF, ixO, indexAddrF, binF_v, v_add, v_mul, ↓reduceIte, q_b, ifp, q_f, q_l, q_n, Nat.reduceEqDiff, Nat.reduceAdd, Int.toNat_zero, Int.reduceToNat, eo_84, sz_3, ag_3]
        refine hK24 _ _ (hK21 _ _ ?_)
        refine awp_s hp KT_ok hc rfl fun K25 hK25 => ?_
        simp -dsimp -implicitDefEqProofs (disch := first | assumption | omega | (simp [maxLen, avs_len, mrow_len, nds_len, shs_len, firsts_len, gates_len, wires_len, vfs_len, ps_len, erow_len] <;> omega) | decide) only [sT_move, sT_bin, sT_nil, oK_some, q_o, binF_v, v_add, ↓reduceIte, q_b, q_f, Nat.reduceEqDiff]
        refine hK25 _ _ ⟨_, _, _, ?_, ⟨i + 1, fst ++ [firstN n.ins.length sh i], ⟨by omega, by rw [hfst, firsts_take _ _ hlt]⟩, rfl, rfl, rfl⟩, ?_⟩
        · first | omega | (simp only [List.length_cons]; omega) | (dsimp only; omega)
        · refine Rt.trans (Rt.gc (keep := [0,1,2,3,4,5,11,7,8]) (by decide) (by decide) (by simp [])) ?_
          refine Rt.end (less_cons (less_cons (less_cons (less_cons (less_cons (less_cons (less_cons (less_cons (less_nil _) rfl) rfl) rfl) (by first | rfl | (simp [frL, gcV, iD]; done) | simp [frL, gcV, iD, *])) rfl) rfl) rfl) rfl) ?_
          simp only [intsD, gcH, gcO_c, gc_m, gcVs_avs, gcVs, gcV, Nat.reduceAdd, posN, avs_nil, avs_cons, List.map_cons, List.map_nil, List.getD_cons_zero, List.getD_cons_succ, ↓reduceIte, Nat.reduceEqDiff, Option.map_some, List.cons_append, List.nil_append, gc_m, mgrH, mgrC, bldG, shD, netC, wiresD, gatesD]; simp [avs, natD, iD]
      · have hii : i = sh.length := by simp at ht; omega
        subst hii
        rw [List.take_of_length_le (by rw [firsts_len]; exact Nat.le_refl _)] at hfst
        subst hfst
        refine awp_exit (hK17 _ _ ?_)
        refine awp_seq_k fun K26 hK26 => ?_
        refine awp_seq_s hp KT_ok hc rfl fun K27 hK27 => ?_
        simp -dsimp -implicitDefEqProofs (disch := first | assumption | omega | (simp [maxLen, avs_len, mrow_len, nds_len, shs_len, firsts_len, gates_len, wires_len, vfs_len, ps_len, erow_len] <;> omega) | decide) only [sT_move, sT_load, sT_fa, sT_len, sT_nil, oK_some, q_o, loadF, fieldAddrF, lenF, builtinF, ↓reduceIte, q_b, ifp, q_f, q_s, q_l, q_n, Nat.reduceEqDiff, Nat.reduceAdd, fo_41_1, sz_39, ag_39, eo_39]
        refine hK27 _ _ ?_
        refine awp_block ?_
        refine awp_loop_rt hp (fun τ' H' mm => ∃ (j : Nat) (fs : List T) (ts2 : List T) (μu2 μm2 : Mp), (j ≤ n.gates.length ∧ FsP V n.ins.length sh n.gates j fs ∧ MS V ts2 μu2 μm2 ∧ (∀ t ∈ fs, t ∈ full ts2) ∧ ts2.length ≤ n.ins.length + j * (8 + 7 * 2 ^ V) ∧ ∀ q, q < j → (expT (fs.take (2 + n.ins.length + (q + 1)))).length ≤ 3000) ∧ mm = n.gates.length - j ∧ H' = bldH ts2 μu2 μm2 n.ins.length sh fs ++ [.cells (avs (netC n)), .cells [.d (.val (.slice none 0 0)), .d (.val (.slice none 0 0))]] ∧ τ' = frL [(2, .d (intsD nodes)), (6, .op 8 0), (11, .op 4 0), (99, .d (gatesD n.gates)), (100, .d (iD n.gates.length)), (101, .d (iD j))]) (n.gates.length) ?_ ⟨0, vfs n.ins.length, ts, μu, μm, ⟨Nat.zero_le _, FsP.base hiV, hS, hfs, by omega, fun q hq => absurd hq (by omega)⟩, rfl, rfl, rfl⟩ ?_
        · refine Rt.trans (Rt.gc (keep := [0,1,2,3,4,5,6,7,8]) (by decide) (by decide) (by simp [])) ?_
          refine Rt.end (less_cons (less_cons (less_cons (less_cons (less_cons (less_cons (less_nil _) rfl) rfl) rfl) rfl) rfl) rfl) ?_
          simp only [intsD, gcH, gcO_c, gc_m, gcVs_avs, gcVs, gcV, Nat.reduceAdd, posN, avs_nil, avs_cons, List.map_cons, List.map_nil, List.getD_cons_zero, List.getD_cons_succ, ↓reduceIte, Nat.reduceEqDiff, Option.map_some, List.cons_append, List.nil_append, gc_m, mgrH, mgrC, bldH, bldT, shD, netC, wiresD, gatesD]; first | done | rfl | (simp [firsts_len]; done)
        rintro τ' H' mm ⟨j, fs, ts2, μu2, μm2, ⟨hj, hF, hS2, hf2, hl2, hx2⟩, rfl, rfl, rfl⟩
        refine awp_seq_s hp KT_ok hc rfl fun K28 hK28 => ?_
        simp -dsimp -implicitDefEqProofs (disch := first | assumption | omega | (simp [maxLen, avs_len, mrow_len, nds_len, shs_len, firsts_len, gates_len, wires_len, vfs_len, ps_len, erow_len] <;> omega) | decide) only [sT_bin, sT_nil, oK_some, q_o, binF_v, v_lss, ↓reduceIte, q_b, q_f, q_s, Nat.reduceEqDiff, avs_nil, avs_cons, iD, intsD, mgrH, mgrC, bldH, bldT, shD, netC, wiresD, gatesD]
        refine hK28 _ _ ?_
        refine awp_seq_k fun K29 hK29 => ?_
        refine awp_cond rfl (fun ht => ?_) (fun ht => ?_)
        · have hlt : j < n.gates.length := by simp at ht; omega
          have hFl := hF.len
          have hg : GOp fs.length (nth n.gates j) := by rw [hFl]; have := hgs j hlt; simpa using this
          have hjb : j * (8 + 7 * 2 ^ V) + (8 + 7 * 2 ^ V) ≤ n.gates.length * (8 + 7 * 2 ^ V) := by
            rw [← Nat.succ_mul]; exact Nat.mul_le_mul_right _ hlt
          refine awp_skip (hK29 _ _ ?_)
          refine awp_seq_k fun K30 hK30 => ?_
          refine awp_block ?_
          refine awp_seq_s hp KT_ok hc rfl fun K31 hK31 => ?_
          simp -dsimp -implicitDefEqProofs (disch := first | assumption | omega | (simp [maxLen, avs_len, mrow_len, nds_len, shs_len, firsts_len, gates_len, wires_len, vfs_len, ps_len, erow_len] <;> omega) | decide) only [sT_load, sT_ia, sT_alloc, sT_store, deadH, sT_nil, oK_some, q_o, loadF, ixO, indexAddrF, layF, storeF, ↓reduceIte, q_b, ifp, q_f, q_s, q_l, as_dagg, q_a, D.one, Value.oneCell', Int.toNat_natCast, q_n, Nat.reduceEqDiff, map_d, avs_nil, avs_cons, iD, Nat.reduceAdd, deadH, gate_row, gateC, eo_39, sz_64, ag_64, za_64]
          refine hK31 _ _ ?_
          refine awp_seq_ss KT_ok hp hc mixed rfl [(0, []), (1, []), (2, []), (3, []), (4, []), (5, []), (6, []), (7, [4]), (8, []), (9, []), (10, []), (11, []), (12, [])] [[], [], [1], [1, 2], [1, 2, 3], [], [], [5, 6], [5, 6, 7], [1, 2, 3, 4, 5, 6, 7, 8], [0, 1, 2, 3, 4, 5, 6, 7, 8, 9], [0, 1, 2, 3, 4, 5, 6, 7, 8, 9, 10], [0, 1, 2, 3, 4, 5, 6, 7, 8, 9, 10, 11]] 1 (by kernel_rfl) fun K32 hK32 => ?_
          simp -dsimp -implicitDefEqProofs (disch := first | assumption | omega | (simp [maxLen, avs_len, mrow_len, nds_len, shs_len, firsts_len, gates_len, wires_len, vfs_len, ps_len, erow_len] <;> omega) | decide) only [oK_some, q_o, loadF, fieldAddrF, nilOk, ↓reduceIte, q_b, ifp, q_f, q_s, q_l, List.replicate_zero, List.replicate_succ, q_n, Nat.reduceEqDiff, takeD_all, Nat.reduceAdd, stg_nil, stg_cons, List.getD_cons_zero, List.getD_cons_succ, sS_move, sS_load, sS_fa, sS_nilc, sS_call0, fo_123_3, sz_29, ag_29, sz_64, ag_64]
          refine ke_st (S := bldH ts2 μu2 μm2 n.ins.length sh fs) (T := [.cells (avs (netC n)), .cells [.d (.val (.slice none 0 0)), .d (.val (.slice none 0 0))], .cells (gA (nth n.gates j)), .free]) (gate_c V n.ins.length sh fs ts2 μu2 μm2 (nth n.gates j) hS2 hsh (Nat.le_of_eq hV) hf2 (by omega) hg (by unfold bigB; omega)) rfl (Nat.le_of_ble_eq_true rfl) (by first | rfl | (simp [AV.allIs, AV.allI, allI_c, allI_de, allI_fr, okI, ltI, allIs_avs, all_m, mgrH, mgrC, bldG, bldT, bldH, gA]; done) | (intro o ho; simp at ho; done)) (fun t => frL_all (by first | rfl | (simp [AV.allIs, AV.allI, allI_c, allI_de, allI_fr, okI, ltI, allIs_avs, all_m, mgrH, mgrC, bldG, bldT, bldH, gA]; done) | (intro o ho; simp at ho; done)) t) (fun t => frL_all (by first | rfl | (simp [AV.allIs, AV.allI, allI_c, allI_de, allI_fr, okI, ltI, allIs_avs, all_m, mgrH, mgrC, bldG, bldT, bldH, gA]; done) | (intro o ho; simp at ho; done)) t) (by first | rfl | (simp [AV.allIs, AV.allI, allI_c, allI_de, allI_fr, okI, ltI, allIs_avs, all_m, mgrH, mgrC, bldG, bldT, bldH, gA]; done) | (intro o ho; simp at ho; done)) (by first | rfl | (simp [AV.allIs, AV.allI, allI_c, ltI, allIs_avs, all_m, mgrH, mgrC, bldT, bldH]; done) | (intro o ho; simp at ho; done)) (by first | rfl | (simp [AV.allIs, AV.allI, allI_c, allI_fr, allIs_avs, mgrH, mgrC, bldT, bldH, gA]; done) | (intro o ho; simp at ho; done)) ?_
          rintro _ _ ⟨ts3, μu3, μm3, t3, rfl, rfl, hS3, hp3, hl3, hm3, hi3⟩
          refine ⟨rfl, ?_⟩
          simp -dsimp -implicitDefEqProofs (disch := first | assumption | omega | (simp [maxLen, avs_len, mrow_len, nds_len, shs_len, firsts_len, gates_len, wires_len, vfs_len, ps_len, erow_len] <;> omega) | decide) only [deadH, oK_some, q_o, loadF, fieldAddrF, layF, layEF, srcF, storeF, nilOk, ↓reduceIte, q_b, ifp, ifn, q_f, q_s, q_l, List.append_nil, List.replicate_zero, List.replicate_succ, reps_def, q_a, fill_cons, as_os, and_true, q_n, Nat.reduceEqDiff, shB, appB, avs_nil, avs_cons, avs_len, avs_app1, List.drop_zero, iD, intsD, Nat.reduceAdd, deadH, List.length_map, layEF, frzF, datas, rT_nil, rT_load, sS_nil, sS_fa, sS_nilc, sS_bs, sS_app, sS_store, mgrH, mgrC, bldH, bldT, shD, gA, netC, wiresD, gatesD, fo_123_3, sz_29, ag_29, mk_29]
          have hf3 : ∀ t ∈ fs ++ [t3], t ∈ full ts3 := fun t ht => by
            rcases List.mem_append.1 ht with ht | ht
            · exact full_pre hp3 (hf2 t ht)
            · rw [List.mem_singleton.1 ht]; exact hm3
          have hF3 : FsP V n.ins.length sh n.gates (j + 1) (fs ++ [t3]) := hF.snoc (hS3.row.okf hm3) hi3
          have hxl := exp_le hS3.row hf3
          have hxe := erow_len (expT (fs ++ [t3]))
          have hS3l := hS3.len
          unfold bigB at hS3l
          refine hK32 _ _ ?_
          refine awp_rt hp (τ' := frL [(2, .d (intsD nodes)), (6, .op 8 0), (11, .op 4 0), (99, .d (gatesD n.gates)), (100, .d (iD n.gates.length)), (101, .d (iD j))]) (H' := bldH ts3 μu3 μm3 n.ins.length sh (fs ++ [t3]) ++ [.cells (avs (netC n)), .cells [.d (.val (.slice none 0 0)), .d (.val (.slice none 0 0))]]) ?_ ?_
          · refine Rt.trans (Rt.gc (keep := [0,1,2,3,4,11,6,7,8]) (by decide) (by decide) (by simp [])) ?_
            refine Rt.end (less_cons (less_cons (less_cons (less_cons (less_cons (less_cons (less_nil _) rfl) rfl) rfl) rfl) rfl) rfl) ?_
            simp only [intsD, gcH, gcO_c, gc_m, gcVs_avs, gcVs, gcV, Nat.reduceAdd, posN, avs_nil, avs_cons, List.map_cons, List.map_nil, List.getD_cons_zero, List.getD_cons_succ, ↓reduceIte, Nat.reduceEqDiff, Option.map_some, List.cons_append, List.nil_append, gc_m, mgrH, mgrC, bldH, bldT, shD, netC, wiresD, gatesD]; rw [List.map_append, numD_pre hp3 hf2]; simp [avs, numD, iD]
          refine awp_seq_se KT_ok hc mixed rfl (q := 0) (by kernel_rfl) (by kernel_rfl) fun K33 hK33 => ?_
          simp -dsimp -implicitDefEqProofs (disch := first | assumption | omega | (simp only [maxLen, List.length_replicate, eq_self, true_and, and_true, and_self, avs_len, List.length_map, List.length_append, List.length_cons, List.length_nil, List.length_set, List.length_range, List.length_take, List.length_drop, mrow_len, nds_len, shs_len, firsts_len, gates_len, wires_len, vfs_len, ps_len, erow_len] <;> omega) | decide | fail) only [sE_move, sE_load, sE_fa, sE_nilc, sE_call0, oK_some, loadF, fieldAddrF, nilOk, ↓reduceIte, Bool.false_eq_true, eq_self, ifp, frL_get, frL_put, evalA_tmp, evalA_func, List.map_cons, List.map_nil, List.length_cons, List.length_nil, List.getElem?_cons_zero, List.getElem?_cons_succ, List.cons_append, List.nil_append, List.append_nil, List.replicate_zero, Nat.zero_add, Nat.add_zero, Nat.reduceEqDiff, avs_nil, avs_cons, iD, intsD, Nat.reduceAdd, List.nil_append, mgrH, mgrC, bldH, bldT, shD, netC, wiresD, gatesD, fo_123_0, sz_120, ag_120, fo_123_3, sz_29, ag_29]
          refine kc_new (export_n V ts3 μu3 μm3 hS3.row hS3.len (fs ++ [t3]) hf3 (by simp; omega)) ?_ ?_
          · simp (disch := first | assumption | omega | (simp only [maxLen, List.length_replicate, eq_self, true_and, and_true, and_self, avs_len, List.length_map, List.length_append, List.length_cons, List.length_nil, List.length_set, List.length_range, List.length_take, List.length_drop, mrow_len, nds_len, shs_len, firsts_len, gates_len, wires_len, vfs_len, ps_len, erow_len] <;> omega) | decide | fail) only [deepL_avs, deepL_nil, deepL_cons, lookH_eq, cellsOf_c, deep_os, deep_op, Nat.reduceAdd, takeD_all, Option.map_some, Option.bind_some, Nat.mul_one, List.getElem?_cons_zero, List.getElem?_cons_succ, maps_m, mD_eq, mgrD, deep_om, lookM_eq, maps_m, nd_fix, fixN]
          simp -dsimp -implicitDefEqProofs (disch := first | assumption | omega | (simp [maxLen, avs_len, mrow_len, nds_len, shs_len, firsts_len, gates_len, wires_len, vfs_len, ps_len, erow_len] <;> omega) | decide) only [sE_field, sE_bin, sE_len, sE_nil, oK_some, q_o, partF, fieldF, partsOf, binF_v, lenF, builtinF, v_gtr, ↓reduceIte, q_b, q_f, q_s, q_l, killAll, Nat.reduceAdd, List.length_map, bddD, bddC, ft_31_0, eo_28]
          refine hK33 _ _ ?_
          refine awp_cond rfl (fun ht => ?_) (fun ht => ?_)
          · have hbig : 3000 < (expT (fs ++ [t3])).length := by simp at ht; omega
            refine awp_seq_s hp KT_ok hc rfl fun K34 hK34 => ?_
            simp -dsimp -implicitDefEqProofs (disch := first | assumption | omega | (simp [maxLen, avs_len, mrow_len, nds_len, shs_len, firsts_len, gates_len, wires_len, vfs_len, ps_len, erow_len] <;> omega) | decide) only [sT_assign, sT_build, sT_store, sT_nil, oK_some, q_o, buildF, storeF, ↓reduceIte, q_b, ifp, q_f, q_s, q_l, q_a, AV.one, D.one, Value.oneCell', q_n, Nat.reduceEqDiff, Nat.reduceAdd, pa_31, sz_31, zc_31]
            refine hK34 _ _ ?_
            refine awp_ret ?_
            try dsimp only [thenA, inBlockA]
            refine PostA_retct rfl ?_
            simp -dsimp -implicitDefEqProofs (disch := first | assumption | omega | (simp [maxLen, avs_len, mrow_len, nds_len, shs_len, firsts_len, gates_len, wires_len, vfs_len, ps_len, erow_len] <;> omega) | decide) only [oK_some, q_o, loadF, ↓reduceIte, q_b, ifp, q_f, q_l, q_n, Nat.reduceEqDiff, takeD_all, Nat.reduceAdd, sz_31, ag_31]
            show ∃ r, closeA _ _ = some r ∧ _
            simp (disch := first | assumption | omega | (simp [maxLen, avs_len, mrow_len, nds_len, shs_len, firsts_len, gates_len, wires_len, vfs_len, ps_len, erow_len] <;> omega) | decide) only [List.map_cons, List.map_nil, closeA, deep_d, deep_agg, deepL_nil, deepL_cons, Nat.reduceAdd, Nat.zero_add, D.fix, Option.map_some, Option.bind_some, List.length_cons, List.length_nil]
            exact ⟨_, rfl, .inl ⟨j + 1, fs ++ [t3], by omega, hF3, hbig, rfl⟩⟩
          · have hsm : (expT (fs ++ [t3])).length ≤ 3000 := by simp at ht; omega
            refine awp_skip (hK30 _ _ ?_)
            refine awp_s hp KT_ok hc rfl fun K35 hK35 => ?_
            simp -dsimp -implicitDefEqProofs (disch := first | assumption | omega | (simp [maxLen, avs_len, mrow_len, nds_len, shs_len, firsts_len, gates_len, wires_len, vfs_len, ps_len, erow_len] <;> omega) | decide) only [sT_move, sT_bin, sT_nil, oK_some, q_o, binF_v, v_add, ↓reduceIte, q_b, q_f, Nat.reduceEqDiff]
            have hx3 : ∀ q, q < j + 1 → (expT ((fs ++ [t3]).take (2 + n.ins.length + (q + 1)))).length ≤ 3000 := fun q hq => by
              by_cases hqj : q < j
              · rw [take_app (by omega)]; exact hx2 q hqj
              · have : q = j := by omega
                subst this
                rw [List.take_of_length_le (by simp; omega)]; exact hsm
            refine hK35 _ _ ⟨_, _, _, ?_, ⟨j + 1, fs ++ [t3], ts3, μu3, μm3, ⟨by omega, hF3, hS3, hf3, by rw [Nat.succ_mul]; omega, hx3⟩, rfl, rfl, rfl⟩, ?_⟩
            · first | omega | (simp only [List.length_cons]; omega) | (dsimp only; omega)
            · refine Rt.trans (Rt.gc (keep := [0,1,2,3,4,5,6,7,8]) (by decide) (by decide) (by simp [])) ?_
              refine Rt.end (less_cons (less_cons (less_cons (less_cons (less_cons (less_cons (less_nil _) rfl) rfl) rfl) rfl) rfl) rfl) ?_
              first | rfl | (simp only [intsD, gcH, gcO_c, gc_m, gcVs_avs, gcVs, gcV, Nat.reduceAdd, posN, avs_nil, avs_cons, List.map_cons, List.map_nil, List.getD_cons_zero, List.getD_cons_succ, ↓reduceIte, Nat.reduceEqDiff, Option.map_some, List.cons_append, List.nil_append, gc_m, mgrH, mgrC, bldH, bldT, shD, netC, wiresD, gatesD]; first | done | rfl)
        · have hjj : j = n.gates.length := by simp at ht; omega
          subst hjj
          have hFl := hF.len
          have hS2l := hS2.len
          unfold bigB at hS2l
          have hroot : ∀ k, k < nodes.length → 0 ≤ nth nodes k ∧ nth nodes k < fs.length := fun k hk => by
            have := List.any_eq_false.1 hno _ (nth_mem hk)
            simp only [unkB, Bool.or_eq_true, decide_eq_true_eq, not_or] at this
            omega
          refine awp_exit (hK26 _ _ ?_)
          refine awp_seq_s hp KT_ok hc rfl fun K36 hK36 => ?_
          simp -dsimp -implicitDefEqProofs (disch := first | assumption | omega | (simp [maxLen, avs_len, mrow_len, nds_len, shs_len, firsts_len, gates_len, wires_len, vfs_len, ps_len, erow_len] <;> omega) | decide) only [sT_assign, sT_nil, q_f]
          refine hK36 _ _ ?_
          refine awp_seq_k fun K37 hK37 => ?_
          refine awp_seq_s hp KT_ok hc rfl fun K38 hK38 => ?_
          simp -dsimp -implicitDefEqProofs (disch := first | assumption | omega | (simp [maxLen, avs_len, mrow_len, nds_len, shs_len, firsts_len, gates_len, wires_len, vfs_len, ps_len, erow_len] <;> omega) | decide) only [sT_move, sT_len, sT_nil, oK_some, q_o, lenF, builtinF, ↓reduceIte, q_b, q_f, q_s, Nat.reduceEqDiff, eo_29]
          refine hK38 _ _ ?_
          refine awp_block ?_
          refine awp_loop_rt hp (fun τ' H' mm => ∃ (i : Nat), (i ≤ nodes.length) ∧ mm = nodes.length - i ∧ H' = bldH ts2 μu2 μm2 n.ins.length sh fs ++ [.cells (avs (netC n)), .cells [.d (.val (.slice none 0 0)), .d (.val (.slice none 0 0))], .cells (avs (((rootsT fs nodes).take i).map (numD ts2)))] ∧ τ' = frL [(6, .op 8 0), (11, .op 4 0), (18, .os 1 9 0 i), (131, .d (intsD nodes)), (132, .d (iD nodes.length)), (133, .d (iD i))]) (nodes.length) ?_ ⟨0, Nat.zero_le _, rfl, rfl, rfl⟩ ?_
          · refine Rt.trans (Rt.nil 18 1 rfl) ?_
            refine Rt.trans (Rt.gc (keep := [0,1,2,3,4,5,6,7,8,9]) (by decide) (by decide) (by simp [])) ?_
            refine Rt.end (less_cons (less_cons (less_cons (less_cons (less_cons (less_cons (less_nil _) rfl) rfl) rfl) rfl) rfl) rfl) ?_
            first | rfl | (simp only [intsD, gcH, gcO_c, gc_m, gcVs_avs, gcVs, gcV, Nat.reduceAdd, posN, avs_nil, avs_cons, List.map_cons, List.map_nil, List.getD_cons_zero, List.getD_cons_succ, ↓reduceIte, Nat.reduceEqDiff, Option.map_some, List.cons_append, List.nil_append, gc_m, mgrH, mgrC, bldH, bldT, shD, netC, wiresD, gatesD]; first | done | rfl)
          rintro τ' H' mm ⟨i, hi, rfl, rfl, rfl⟩
          refine awp_seq_s hp KT_ok hc rfl fun K39 hK39 => ?_
          simp -dsimp -implicitDefEqProofs (disch := first | assumption | omega | (simp [maxLen, avs_len, mrow_len, nds_len, shs_len, firsts_len, gates_len, wires_len, vfs_len, ps_len, erow_len] <;> omega) | decide) only [sT_bin, sT_nil, oK_some, q_o, binF_v, v_lss, ↓reduceIte, q_b, q_f, q_s, Nat.reduceEqDiff, avs_nil, avs_cons, iD, intsD, mgrH, mgrC, bldH, bldT, shD, netC, wiresD, gatesD]
          refine hK39 _ _ ?_
          refine awp_seq_k fun K40 hK40 => ?_
          refine awp_cond rfl (fun ht => ?_) (fun ht => ?_)
          · have hlt : i < nodes.length := by simp at ht; omega
            obtain ⟨r0, r1⟩ := hroot i hlt
            have hrl := roots_len fs nodes
            refine awp_skip (hK40 _ _ ?_)
            refine awp_seq_k fun K41 hK41 => ?_
            refine awp_block ?_
            refine awp_seq_s hp KT_ok hc rfl fun K42 hK42 => ?_
            simp -dsimp -implicitDefEqProofs (disch := first | assumption | omega | (simp [maxLen, avs_len, mrow_len, nds_len, shs_len, firsts_len, gates_len, wires_len, vfs_len, ps_len, erow_len] <;> omega) | decide) only [sT_assign, sT_load, sT_ia, sT_nil, oK_some, q_o, loadF, ixO, indexAddrF, ↓reduceIte, q_b, ifp, q_f, Int.toNat_natCast, q_n, Nat.reduceEqDiff, get_map, iD, eo_29, sz_3, ag_3]
            refine hK42 _ _ ?_
            refine awp_s hp KT_ok hc rfl fun K43 hK43 => ?_
            simp -dsimp -implicitDefEqProofs (disch := first | assumption | omega | (simp [maxLen, avs_len, mrow_len, nds_len, shs_len, firsts_len, gates_len, wires_len, vfs_len, ps_len, erow_len] <;> omega) | decide) only [sT_move, sT_assign, sT_load, sT_fa, sT_ia, sT_nilc, sT_bs, sT_app, deadH, sT_nil, oK_some, q_o, loadF, fieldAddrF, ixO, indexAddrF, layF, srcF, nilOk, ↓reduceIte, q_b, ifp, ifn, q_f, q_s, q_l, List.append_nil, List.replicate_zero, List.replicate_succ, reps_def, q_a, fill_cons, and_true, q_n, Nat.reduceEqDiff, avs_len, avs_get, avs_app1, takeD_all, List.drop_zero, get_map, iD, Nat.reduceAdd, deadH, List.length_map, numD, get_map, fo_123_3, sz_29, ag_29, eo_29, sz_3, ag_3, mk_29]
            refine hK43 _ _ (hK41 _ _ ?_)
            refine awp_s hp KT_ok hc rfl fun K44 hK44 => ?_
            simp -dsimp -implicitDefEqProofs (disch := first | assumption | omega | (simp [maxLen, avs_len, mrow_len, nds_len, shs_len, firsts_len, gates_len, wires_len, vfs_len, ps_len, erow_len] <;> omega) | decide) only [sT_move, sT_bin, sT_nil, oK_some, q_o, binF_v, v_add, ↓reduceIte, q_b, q_f, Nat.reduceEqDiff]
            refine hK44 _ _ ⟨_, _, _, ?_, ⟨i + 1, by omega, rfl, rfl, rfl⟩, ?_⟩
            · first | omega | (simp only [List.length_cons]; omega) | (dsimp only; omega)
            · refine Rt.trans (Rt.gc (keep := [0,1,2,3,4,5,6,7,8,11]) (by decide) (by decide) (by simp [])) ?_
              refine Rt.end (less_cons (less_cons (less_cons (less_cons (less_cons (less_cons (less_nil _) rfl) rfl) rfl) rfl) rfl) rfl) ?_
              simp only [intsD, gcH, gcO_c, gc_m, gcVs_avs, gcVs, gcV, Nat.reduceAdd, posN, avs_nil, avs_cons, List.map_cons, List.map_nil, List.getD_cons_zero, List.getD_cons_succ, ↓reduceIte, Nat.reduceEqDiff, Option.map_some, List.cons_append, List.nil_append, gc_m, mgrH, mgrC, bldH, bldT, shD, netC, wiresD, gatesD]; rw [take_nth (l := rootsT fs nodes) (by omega)]; simp [avs, numD, iD, rootsT, nth_map hlt]
          · have hii : i = nodes.length := by simp at ht; omega
            subst hii
            rw [List.take_of_length_le (by rw [roots_len]; exact Nat.le_refl _)]
            have hrl := roots_len fs nodes
            have hrm : ∀ t ∈ rootsT fs nodes, t ∈ full ts2 := fun t ht => by
              obtain ⟨k, hk, rfl⟩ := List.mem_map.1 ht
              obtain ⟨q, hq, rfl⟩ := List.getElem_of_mem hk
              obtain ⟨r0, r1⟩ := hroot q hq
              rw [nth_eq hq] at r0 r1
              exact hf2 _ (nth_mem (by omega))
            have hxr := exp_le hS2.row hrm
            refine awp_exit (hK37 _ _ ?_)
            refine awp_seq_s hp KT_ok hc rfl fun K45 hK45 => ?_
            simp -dsimp -implicitDefEqProofs (disch := first | assumption | omega | (simp only [maxLen, List.length_replicate, eq_self, true_and, and_true, and_self, avs_len, List.length_map, List.length_append, List.length_cons, List.length_nil, List.length_set, List.length_range, List.length_take, List.length_drop, mrow_len, nds_len, shs_len, firsts_len, gates_len, wires_len, vfs_len, ps_len, erow_len] <;> omega) | decide | fail) only [sT_move, sT_load, sT_fa, sT_nilc, sT_call0, oK_some, loadF, fieldAddrF, nilOk, ↓reduceIte, Bool.false_eq_true, eq_self, ifp, frL_get, frL_put, evalA_tmp, evalA_func, List.map_cons, List.map_nil, List.length_cons, List.length_nil, List.getElem?_cons_zero, List.getElem?_cons_succ, Nat.zero_add, Nat.add_zero, Nat.reduceEqDiff, Nat.reduceAdd, fo_123_0, sz_120, ag_120]
            refine kc_new ((by have := export_n V ts2 μu2 μm2 hS2.row hS2.len (rootsT fs nodes) hrm (by omega); rw [roots_len] at this; exact this)) ?_ ?_
            · simp (disch := first | assumption | omega | (simp only [maxLen, List.length_replicate, eq_self, true_and, and_true, and_self, avs_len, List.length_map, List.length_append, List.length_cons, List.length_nil, List.length_set, List.length_range, List.length_take, List.length_drop, mrow_len, nds_len, shs_len, firsts_len, gates_len, wires_len, vfs_len, ps_len, erow_len] <;> omega) | decide | fail) only [deepL_avs, deepL_nil, deepL_cons, lookH_eq, cellsOf_c, deep_os, deep_op, Nat.reduceAdd, takeD_all, Option.map_some, Option.bind_some, Nat.mul_one, List.getElem?_cons_zero, List.getElem?_cons_succ, maps_m, mD_eq, mgrD, deep_om, lookM_eq, maps_m, nd_fix, fixN]
            simp -dsimp -implicitDefEqProofs (disch := first | assumption | omega | (simp [maxLen, avs_len, mrow_len, nds_len, shs_len, firsts_len, gates_len, wires_len, vfs_len, ps_len, erow_len] <;> omega) | decide) only [sT_assign, sT_store, sT_nil, oK_some, storeF, ↓reduceIte, q_b, ifp, q_f, q_s, q_l, as_dagg, q_a, D.one, q_n, Nat.reduceEqDiff, Nat.reduceAdd, List.length_map, bddD, bddC, sz_31]
            refine hK45 _ _ ?_
            refine awp_ret ?_
            try dsimp only [thenA, inBlockA]
            refine PostA_retct rfl ?_
            simp -dsimp -implicitDefEqProofs (disch := first | assumption | omega | (simp [maxLen, avs_len, mrow_len, nds_len, shs_len, firsts_len, gates_len, wires_len, vfs_len, ps_len, erow_len] <;> omega) | decide) only [oK_some, q_o, loadF, ↓reduceIte, q_b, ifp, q_f, q_l, q_n, Nat.reduceEqDiff, takeD_all, Nat.reduceAdd, sz_31, ag_31]
            show ∃ r, closeA _ _ = some r ∧ _
            simp (disch := first | assumption | omega | (simp [maxLen, avs_len, mrow_len, nds_len, shs_len, firsts_len, gates_len, wires_len, vfs_len, ps_len, erow_len] <;> omega) | decide) only [List.map_cons, List.map_nil, closeA, deep_d, deep_agg, deepL_nil, deepL_cons, Nat.reduceAdd, Nat.zero_add, D.fix, Option.map_some, Option.bind_some, List.length_cons, List.length_nil]
            exact ⟨_, rfl, .inr ⟨fs, hF, hx2, by simp [bddF, bddD, bddC, iD]⟩⟩
end Go.Proofs.Ytgfnpfchdlcoeaa
