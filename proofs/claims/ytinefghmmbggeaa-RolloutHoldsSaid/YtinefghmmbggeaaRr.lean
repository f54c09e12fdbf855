/- The examples. -/
import Derived.Test.YtinefghmmbggeaaQ
import Derived.Test.YtinefghmmbggeaaRq
set_option linter.unusedVariables false
set_option linter.unusedSimpArgs false
namespace Go.Proofs.Ytinefghmmbggeaa
open Go Go.RowKit
/-! The functions, reckoned with sorted lists. -/
def activeC (r : Rol) (p : Rep) : Rol :=
  if p.no = r.frm then (if p.chip ∈ r.dn then { r with st := 1 } else r)
  else if p.runs = false ∨ p.same = false ∨ p.slk < r.slk ∨ r.pos < waveI p.chip r.wv then { r with st := 1 }
  else if subB (nth r.wv r.pos.toNat) (insL p.chip r.dn) = true then
    (if r.pos + 1 = r.wv.length then { r with dn := insL p.chip r.dn, pos := r.pos + 1, st := 3 } else { r with dn := insL p.chip r.dn, pos := r.pos + 1 })
  else { r with dn := insL p.chip r.dn }
def turnedC (r : Rol) (p : Rep) : Rol :=
  if p.no ≠ r.frm ∨ p.runs = false ∨ r.pos < waveI p.chip r.wv then r
  else if subB (uptoL r (r.pos + 1)) (insL p.chip r.dn) = true then { r with dn := insL p.chip r.dn, st := 4 } else { r with dn := insL p.chip r.dn }
def seeC (r : Rol) (p : Rep) : Rol × Int :=
  if waveI p.chip r.wv < 0 ∨ (p.no ≠ r.frm ∧ p.no ≠ r.to) then (noRol, 510)
  else if r.st = 0 then (activeC r p, 0) else if r.st = 2 then (turnedC r p, 0) else (r, 0)
theorem done_ins {r : Rol} {p : Rep} (h : Inc r.dn) : listS (doneS r p) = insL p.chip r.dn := (ins_put h).symm
theorem allIn_ins {r : Rol} {p : Rep} (h : Inc r.dn) (l : List Int) : allIn (doneS r p) l = subB l (insL p.chip r.dn) := by rw [← done_ins h, sub_list]
theorem see_comp {r : Rol} {p : Rep} (h : Inc r.dn) : seeG r p = seeC r p := by
  unfold seeG seeC activeG activeC turnedG turnedC
  rw [done_ins h, allIn_ins h, allIn_ins h]
def incL (l : List Int) : List Int := l.foldl (fun o x => insL x o) []
theorem incL_srt (l : List Int) : incL l = srtL l := by
  have key : ∀ (m l : List Int), l.foldl (fun o x => insL x o) (srtL m) = srtL (m ++ l) := by
    intro m l
    induction l generalizing m with
    | nil => simp
    | cons x l ih => rw [List.foldl_cons, ins_srt, ih, List.append_assoc]; rfl
  have := key [] l
  rw [srt_nil] at this
  exact this
def readyC (r : Rol) : List Int := if r.st = 0 ∨ r.st = 2 then (incL (uptoL r (r.pos + 1))).filter (fun x => !inB x r.dn) else []
theorem ready_comp {r : Rol} (hi : OkI r) : readyG r = readyC r := by
  unfold readyG readyC
  split
  · rw [incL_srt, ready_eq hi]
  · rfl
def exA : Rol := ⟨3, 4, [[3], [1, 2]], 5, 0, [], 0⟩
def exB : Rol := ⟨3, 4, [[3], [1, 2]], 5, 1, [3], 0⟩
def exC : Rol := ⟨3, 4, [[3], [1, 2]], 5, 1, [3], 1⟩
def exD : Rol := ⟨3, 4, [[3], [1, 2]], 5, 1, [], 2⟩
def exE : Nat → Rol
  | 0 | 1 => exD
  | 2 => ⟨3, 4, [[3], [1, 2]], 5, 1, [1], 2⟩
  | 3 => ⟨3, 4, [[3], [1, 2]], 5, 1, [1, 2], 2⟩
  | _ => ⟨3, 4, [[3], [1, 2]], 5, 1, [1, 2, 3], 4⟩
theorem exA_ok : VR exA := vr_iff.1 (by decide)
theorem exB_ok : VR exB := vr_iff.1 (by decide)
theorem exC_ok : VR exC := vr_iff.1 (by decide)
theorem exE_ok (k : Nat) : VR (exE k) := by
  match k with
  | 0 | 1 => exact vr_iff.1 (by decide)
  | 2 => exact vr_iff.1 (by decide)
  | 3 => exact vr_iff.1 (by decide)
  | _ + 4 => exact (vr_iff.1 (by decide) : VR ⟨3, 4, [[3], [1, 2]], 5, 1, [1, 2, 3], 4⟩)
theorem ex_made : PCalls Try.prog 15 [planD 3 4 [[3], [1, 2]] 5] (.d (gotD (exA, 0))) := by
  have h := made_c 3 4 [[3], [1, 2]] 5 exA_ok.short exA_ok.ok
  have e : newG 3 4 [[3], [1, 2]] 5 = (exA, 0) := by decide
  rwa [e] at h
theorem ex_see {r : Rol} {p : Rep} (h : VR r) (hp : I64 p.chip) {g : Rol × Int} (e : seeC r p = g) : PCalls Try.prog 21 [rolD r, repD p] (.d (gotD g)) := by
  have h1 := see1_c r p (h.see hp)
  rw [see_comp h.inc, e] at h1
  exact h1
theorem ex_ready {r : Rol} (h : VR r) {l : List Int} (e : readyC r = l) : PCalls Try.prog 19 [rolD r] (.d (intsD l)) := by
  have h1 := ready_c r h.short h.ok h.pos02
  rw [ready_comp h.ok, e] at h1
  exact h1
theorem ex_ints (l : List Int) (h : l.length ≤ 1000000) : PCalls Try.prog 18 [intsD l, intsD l] (.d (.val (.bool true))) := by
  have := ints_c l l h
  simpa [oD] using this
theorem ex_back : PCalls Try.prog 25 [rolD exC] (.d (gotD (exD, 0))) := by
  have h := back1_c exC exC_ok.short exC_ok.ok
  have e : backG exC = (exD, 0) := by decide
  rwa [e] at h
theorem ex_resume {r : Rol} {g : Rol × Int} (e : resumeG r = g) : PCalls Try.prog 23 [rolD r] (.d (gotD g)) := e ▸ resume1_c r
theorem ex_same : PCalls Try.prog 31 [rolD exB, rolD exB] (.d (.val (.bool true))) := by
  have := samep_c exB exB exB_ok.short exB_ok.short
  simpa [oD] using this
theorem ex_valid {r : Rol} (h1 : ShortR r) (h2 : OkI r) {b : Bool} (e : validR r = b) : PCalls Try.prog 12 [rolD r] (.d (.val (.bool b))) := e ▸ valid_c r h1 h2
theorem noRol_short : ShortR noRol := ⟨by decide, by decide, by decide⟩
theorem noRol_ok : OkI noRol := ⟨fun l hl => (by cases hl), fun x hx => (by cases hx), ⟨by decide, by decide⟩⟩
theorem ex_bad : PCalls Try.prog 15 [planD 3 3 [[3]] 0] (.d (gotD (noRol, 510))) := by
  have h := made_c 3 3 [[3]] 0 ⟨by decide, by decide, by decide⟩ ⟨fun l hl x hx => by simp [newR] at hl; subst hl; simp at hx; subst hx; exact ⟨by decide, by decide⟩, fun x hx => (by cases hx), ⟨by decide, by decide⟩⟩
  have e : newG 3 3 [[3]] 0 = (noRol, 510) := by decide
  rwa [e] at h
theorem ex_step {k : Nat} (h1 : 1 ≤ k) (h2 : k ≤ 3) : PCalls Try.prog 21 [rolD (exE k), repD ⟨k, 3, 0, false, true⟩] (.d (gotD (exE (k + 1), 0))) :=
  ex_see (exE_ok k) ⟨by show (-9223372036854775808 : Int) ≤ (k : Int); omega, by show (k : Int) < 9223372036854775808; omega⟩ (by
    match k, h1, h2 with
    | 1, _, _ => decide
    | 2, _, _ => decide
    | 3, _, _ => decide)
def gotC (p : Rol × Int) : List D := [iD p.1.frm, iD p.1.to, intssD p.1.wv, iD p.1.slk, iD p.1.pos, intsD p.1.dn, iD p.1.st, iD p.2]
theorem exE_4 : exE 4 = ⟨3, 4, [[3], [1, 2]], 5, 1, [1, 2, 3], 4⟩ := rfl
set_option maxRecDepth 100000 in
set_option linter.unusedVariables false in
set_option maxHeartbeats 4000000 in
theorem examples_c : PCalls Try.prog 9 [] (.d (.val (.bool true))) := by
  refine pcalls_of0 (fn := Try.f9) (by kernel_rfl) Try.func9 rfl (Nat.le_of_ble_eq_true rfl) fun c hc hp => ?_
  refine awp_less (τ' := frL []) (less_nil _) ?_
  refine awp_seq_s KT_ok hc rfl fun K1 hK1 => ?_
  simp -dsimp -implicitDefEqProofs (disch := first | assumption | omega | (simp [maxLen, avs_len] <;> omega) | decide) only [sT_assign, sT_nil, q_f]
  refine hK1 _ _ ?_
  refine awp_seq_s KT_ok hc rfl fun K2 hK2 => ?_
  simp -dsimp -implicitDefEqProofs (disch := first | assumption | omega | (simp [maxLen, avs_len] <;> omega) | decide) only [sT_build, sT_call0, sT_bs, deadH, oK_some, q_o, buildF, layF, ↓reduceIte, q_b, ifp, ifn, q_f, q_s, q_l, List.replicate_zero, List.replicate_succ, reps_def, q_a, fill_cons, as_os, D.one, Value.oneCell', q_n, Nat.reduceEqDiff, Nat.reduceAdd, deadH, mk_27, mk_26, pa_35, pl_35_0, pl_35_1, pl_35_2, pl_35_3, zc_35]
  refine kc_all ex_made (by simp (disch := first | omega | decide) only [List.map_cons, List.map_nil, deep_d, deep_agg, deepL_nil, deepL_cons, lookH_eq, cellsOf_c, deep_os, Nat.reduceAdd, Nat.zero_add, takeD_all, D.fix, Option.map_some, Option.bind_some, Nat.mul_one, List.getElem?_cons_zero, List.getElem?_cons_succ, List.length_cons, List.length_nil, iD, intsD, intssD, planD]) ?_
  simp -dsimp -implicitDefEqProofs (disch := first | assumption | omega | (simp [maxLen, avs_len] <;> omega) | decide) only [sT_alloc, sT_store, deadH, sT_nil, oK_some, q_o, layF, storeF, ↓reduceIte, q_b, ifp, q_f, q_s, q_l, as_dagg, q_a, D.one, Value.oneCell', q_n, Nat.reduceEqDiff, map_d, avs_nil, avs_cons, iD, intsD, intssD, Nat.reduceAdd, deadH, gotD, exA, sz_40, za_40]
  refine hK2 _ _ ?_
  refine awp_seq_k fun K3 hK3 => ?_
  refine awp_rt hp (τ' := frL [(1, .op 0 0)]) (H' := [.cells (avs (gotC (exA, 0)))]) ?_ ?_
  · refine Rt.trans (Rt.gc (keep := [3]) (by decide) (by simp [])) ?_
    refine Rt.end (less_cons (less_nil _) rfl) ?_
    simp only [intsD, intssD, gcH, gcO, gcVs, gcV, avs_nil, avs_cons, List.map_cons, List.map_nil, List.getD_cons_zero, List.getD_cons_succ, gotC, exA]; rfl
  refine awp_seq_s KT_ok hc rfl fun K4 hK4 => ?_
  simp -dsimp -implicitDefEqProofs (disch := first | assumption | omega | (simp [maxLen, avs_len] <;> omega) | decide) only [sT_move, sT_load, sT_fa, sT_bin, sT_call0, sT_g, oK_some, gK_t, q_o, loadF, fieldAddrF, binF_v, v_neq, ↓reduceIte, q_b, ifp, guardA_some, guardV_f, q_f, q_s, q_l, q_n, Nat.reduceEqDiff, avs_nil, avs_cons, takeD_zero, takeD_cs, iD, intsD, intssD, Nat.reduceAdd, gotC, exA, bne_f, nb_t, fo_40_1, sz_38, ag_38, fo_40_0, sz_29, ag_29]
  refine kc_by (ex_ready exA_ok (l := [3]) (by decide)) rfl ?_
  simp -dsimp -implicitDefEqProofs (disch := first | assumption | omega | (simp [maxLen, avs_len] <;> omega) | decide) only [sT_call0, sT_bs, deadH, sT_g, oK_some, gK_t, q_o, layF, ↓reduceIte, q_b, ifp, ifn, guardA_some, guardV_f, q_f, q_s, q_l, List.replicate_zero, List.replicate_succ, reps_def, q_a, fill_cons, q_n, Nat.reduceEqDiff, iD, intsD, Nat.reduceAdd, deadH, nb_t, mk_27]
  refine kc_own (ex_ints [3] (by decide)) ?_ ?_
  · simp (disch := first | assumption | omega | (simp [maxLen, avs_len] <;> omega) | decide) only [List.map_cons, List.map_nil, deep_d, deepL_nil, deepL_cons, lookH_eq, cellsOf_c, deep_os, Nat.reduceAdd, Nat.zero_add, takeD_all, D.fix, Option.map_some, Option.bind_some, Nat.mul_one, List.getElem?_cons_zero, List.getElem?_cons_succ, List.length_cons, List.length_nil, iD, intsD]
  simp -dsimp -implicitDefEqProofs (disch := first | assumption | omega | (simp [maxLen, avs_len] <;> omega) | decide) only [sT_pick, sT_un, sT_nil, sT_g, oK_some, gK_t, q_o, u_not, ↓reduceIte, q_b, guardA_some, guardV_f, q_f, q_l, Nat.reduceEqDiff, nb_t, nb_f]
  refine hK4 _ _ ?_
  refine awp_cond rfl (fun ht => ?_) (fun ht => ?_)
  · cases ht
  · refine awp_skip (hK3 _ _ ?_)
    refine awp_rt hp (τ' := frL [(1, .op 0 0)]) (H' := [.cells (avs (gotC (exA, 0)))]) ?_ ?_
    · refine Rt.trans (Rt.gc (keep := [0]) (by decide) (by simp [])) ?_
      refine Rt.end (less_cons (less_nil _) rfl) ?_
      simp only [intsD, intssD, gcH, gcO, gcVs, gcV, avs_nil, avs_cons, List.map_cons, List.map_nil, List.getD_cons_zero, gotC, exA]; rfl
    refine awp_seq_se KT_ok hc mixed rfl (q := 1) (by kernel_rfl) (by kernel_rfl) fun K5 hK5 => ?_
    simp -dsimp -implicitDefEqProofs (disch := first | assumption | omega | (simp [maxLen, avs_len] <;> omega) | decide) only [sE_load, sE_fa, sE_call0, oK_some, q_o, loadF, fieldAddrF, ↓reduceIte, q_b, ifp, q_f, q_s, q_l, List.replicate_zero, List.replicate_succ, q_n, Nat.reduceEqDiff, avs_nil, avs_cons, takeD_zero, takeD_cs, iD, intsD, intssD, Nat.reduceAdd, gotC, exA, fo_40_0, sz_29, ag_29]
    refine kc_by (goodr_c exA 3) rfl ?_
    simp -dsimp -implicitDefEqProofs (disch := first | assumption | omega | (simp [maxLen, avs_len] <;> omega) | decide) only [sE_call0, ↓reduceIte, q_b, q_f, q_s, Nat.reduceEqDiff, iD, oD, Nat.reduceAdd, exA, repC, repD, goodR]
    refine kc_by (ex_see exA_ok ⟨by decide, by decide⟩ (p := goodR exA 3) (g := (exB, 0)) (by decide)) rfl ?_
    simp -dsimp -implicitDefEqProofs (disch := first | assumption | omega | (simp [maxLen, avs_len] <;> omega) | decide) only [sE_alloc, sE_store, sE_nil, oK_some, q_o, layF, layEF, storeF, ↓reduceIte, q_b, ifp, q_f, q_s, q_l, as_dagg, q_a, D.one, Value.oneCell', q_n, Nat.reduceEqDiff, shB, appB, killAll, map_d, avs_nil, avs_cons, iD, intsD, intssD, Nat.reduceAdd, layEF, frzF, gotD, exB, sz_40, za_40]
    refine hK5 _ _ ?_
    refine awp_rt hp (τ' := frL [(1, .op 0 0), (2, .op 1 0)]) (H' := [.cells (avs (gotC (exA, 0))), .cells (avs (gotC (exB, 0)))]) ?_ ?_
    · refine Rt.trans (Rt.gc (keep := [0,1]) (by decide) (by simp [])) ?_
      refine Rt.end (less_cons (less_cons (less_nil _) rfl) rfl) ?_
      simp only [intsD, intssD, gcH, gcO, gcVs, gcV, avs_nil, avs_cons, List.map_cons, List.map_nil, List.getD_cons_zero, List.getD_cons_succ, gotC, exA, exB]; rfl
    refine awp_seq_s KT_ok hc rfl fun K6 hK6 => ?_
    simp -dsimp -implicitDefEqProofs (disch := first | assumption | omega | (simp [maxLen, avs_len] <;> omega) | decide) only [sT_load, sT_fa, sT_build, sT_call0, oK_some, q_o, loadF, fieldAddrF, buildF, ↓reduceIte, q_b, ifp, ifn, q_f, q_s, q_l, q_a, fill_cons, D.one, Value.oneCell', q_n, Nat.reduceEqDiff, avs_nil, avs_cons, takeD_zero, takeD_cs, iD, intsD, intssD, Nat.reduceAdd, gotC, exA, exB, fo_40_0, sz_29, ag_29, pa_31, pl_31_0, pl_31_1, pl_31_2, pl_31_3, pl_31_4, zc_31]
    refine kc_by (ex_see exB_ok (p := ⟨2, 4, 4, true, true⟩) ⟨by decide, by decide⟩ (g := (exC, 0)) (by decide)) rfl ?_
    simp -dsimp -implicitDefEqProofs (disch := first | assumption | omega | (simp [maxLen, avs_len] <;> omega) | decide) only [sT_alloc, sT_store, deadH, sT_nil, oK_some, q_o, layF, storeF, ↓reduceIte, q_b, ifp, q_f, q_s, q_l, as_dagg, q_a, D.one, Value.oneCell', q_n, Nat.reduceEqDiff, map_d, avs_nil, avs_cons, iD, intsD, intssD, Nat.reduceAdd, deadH, gotD, exC, sz_40, za_40]
    refine hK6 _ _ ?_
    refine awp_rt hp (τ' := frL [(1, .op 0 0), (2, .op 1 0), (3, .op 2 0)]) (H' := [.cells (avs (gotC (exA, 0))), .cells (avs (gotC (exB, 0))), .cells (avs (gotC (exC, 0)))]) ?_ ?_
    · refine Rt.trans (Rt.gc (keep := [0,1,2]) (by decide) (by simp [])) ?_
      refine Rt.end (less_cons (less_cons (less_cons (less_nil _) rfl) rfl) rfl) ?_
      simp only [intsD, intssD, gcH, gcO, gcVs, gcV, avs_nil, avs_cons, List.map_cons, List.map_nil, List.getD_cons_zero, List.getD_cons_succ, gotC, exA, exB, exC]; rfl
    refine awp_seq_s KT_ok hc rfl fun K7 hK7 => ?_
    simp -dsimp -implicitDefEqProofs (disch := first | assumption | omega | (simp [maxLen, avs_len] <;> omega) | decide) only [sT_load, sT_fa, sT_call0, oK_some, q_o, loadF, fieldAddrF, ↓reduceIte, q_b, ifp, q_f, q_s, q_l, q_n, Nat.reduceEqDiff, avs_nil, avs_cons, takeD_zero, takeD_cs, iD, intsD, intssD, Nat.reduceAdd, gotC, exA, exB, exC, fo_40_0, sz_29, ag_29]
    refine kc_by ex_back rfl ?_
    simp -dsimp -implicitDefEqProofs (disch := first | assumption | omega | (simp [maxLen, avs_len] <;> omega) | decide) only [sT_alloc, sT_store, deadH, sT_nil, oK_some, q_o, layF, storeF, ↓reduceIte, q_b, ifp, q_f, q_s, q_l, as_dagg, q_a, D.one, Value.oneCell', q_n, Nat.reduceEqDiff, map_d, avs_nil, avs_cons, iD, intsD, intssD, Nat.reduceAdd, deadH, gotD, exD, sz_40, za_40]
    refine hK7 _ _ ?_
    refine awp_seq_k fun K8 hK8 => ?_
    refine awp_rt hp (τ' := frL [(1, .op 0 0), (2, .op 1 0), (3, .op 2 0), (4, .op 3 0)]) (H' := [.cells (avs (gotC (exA, 0))), .cells (avs (gotC (exB, 0))), .cells (avs (gotC (exC, 0))), .cells (avs (gotC (exD, 0)))]) ?_ ?_
    · refine Rt.trans (Rt.gc (keep := [0,1,2,3]) (by decide) (by simp [])) ?_
      refine Rt.end (less_cons (less_cons (less_cons (less_cons (less_nil _) rfl) rfl) rfl) rfl) ?_
      simp only [intsD, intssD, gcH, gcO, gcVs, gcV, avs_nil, avs_cons, List.map_cons, List.map_nil, List.getD_cons_zero, List.getD_cons_succ, gotC, exA, exB, exC, exD]; rfl
    refine awp_seq_se KT_ok hc mixed rfl (q := 2) (by kernel_rfl) (by kernel_rfl) fun K9 hK9 => ?_
    simp -dsimp -implicitDefEqProofs (disch := first | assumption | omega | (simp [maxLen, avs_len] <;> omega) | decide) only [sE_move, sE_pick, sE_load, sE_fa, sE_bin, sE_call0, oK_some, gK_t, q_o, loadF, fieldAddrF, binF_v, v_neq, ↓reduceIte, q_b, ifp, guardA_some, guardV_f, q_f, q_s, q_l, List.replicate_zero, List.replicate_succ, q_n, Nat.reduceEqDiff, avs_nil, avs_cons, takeD_zero, takeD_cs, iD, intsD, intssD, Nat.reduceAdd, sE_gg, gotC, exA, exB, exC, exD, bne_f, nb_t, fo_40_1, sz_38, ag_38, fo_40_0, sz_29, ag_29]
    refine kc_by (ex_ready exB_ok (l := [1, 2]) (by decide)) rfl ?_
    simp -dsimp -implicitDefEqProofs (disch := first | assumption | omega | (simp [maxLen, avs_len] <;> omega) | decide) only [sE_call0, sE_bs, oK_some, gK_t, q_o, layF, layEF, ↓reduceIte, q_b, ifp, ifn, guardA_some, guardV_f, q_f, q_s, q_l, List.replicate_zero, List.replicate_succ, reps_def, q_a, fill_cons, and_true, q_n, Nat.reduceEqDiff, shB, appB, iD, intsD, Nat.reduceAdd, layEF, frzF, datas, sE_gg, nb_t, mk_27]
    refine kc_by (ex_ints [1, 2] (by decide)) rfl ?_
    simp -dsimp -implicitDefEqProofs (disch := first | assumption | omega | (simp [maxLen, avs_len] <;> omega) | decide) only [sE_move, sE_pick, sE_load, sE_fa, sE_bin, sE_un, sE_call0, oK_some, gK_t, q_o, loadF, fieldAddrF, binF_v, u_not, v_neq, ↓reduceIte, q_b, ifp, guardA_some, guardV_f, q_f, q_s, q_l, q_n, Nat.reduceEqDiff, takeD_zero, takeD_cs, Nat.reduceAdd, sE_gg, bne_f, nb_t, nb_f, fo_40_0, sz_29, ag_29, fo_29_6, sz_3, ag_3]
    refine kc_by (ex_ready exC_ok (l := []) (by decide)) rfl ?_
    simp -dsimp -implicitDefEqProofs (disch := first | assumption | omega | (simp [maxLen, avs_len] <;> omega) | decide) only [sE_move, sE_pick, sE_load, sE_fa, sE_bin, sE_len, sE_call0, oK_some, gK_t, q_o, loadF, fieldAddrF, binF_v, lenF, builtinF, v_neq, ↓reduceIte, q_b, ifp, guardA_some, guardV_f, q_f, q_s, q_l, q_n, Nat.reduceEqDiff, takeD_zero, takeD_cs, intsD, Nat.reduceAdd, sE_gg, bne_f, nb_t, fo_40_0, sz_29, ag_29, eo_27]
    refine kc_by (ex_ready (exE_ok 0) (l := [1, 2, 3]) (by decide)) rfl ?_
    simp -dsimp -implicitDefEqProofs (disch := first | assumption | omega | (simp [maxLen, avs_len] <;> omega) | decide) only [sE_call0, sE_bs, oK_some, gK_t, q_o, layF, layEF, ↓reduceIte, q_b, ifp, ifn, guardA_some, guardV_f, q_f, q_s, q_l, List.replicate_zero, List.replicate_succ, reps_def, q_a, fill_cons, and_true, q_n, Nat.reduceEqDiff, shB, appB, iD, intsD, Nat.reduceAdd, layEF, frzF, datas, sE_gg, nb_t, mk_27]
    refine kc_by (ex_ints [1, 2, 3] (by decide)) rfl ?_
    simp -dsimp -implicitDefEqProofs (disch := first | assumption | omega | (simp [maxLen, avs_len] <;> omega) | decide) only [sE_move, sE_pick, sE_load, sE_fa, sE_un, sE_call0, oK_some, gK_t, q_o, loadF, fieldAddrF, u_not, ↓reduceIte, q_b, ifp, guardA_some, guardV_f, q_f, q_s, q_l, q_n, Nat.reduceEqDiff, takeD_zero, takeD_cs, Nat.reduceAdd, sE_gg, nb_t, nb_f, fo_40_0, sz_29, ag_29]
    refine kc_by (ex_resume (r := exC) (g := (exB, 0)) (by decide)) rfl ?_
    simp -dsimp -implicitDefEqProofs (disch := first | assumption | omega | (simp [maxLen, avs_len] <;> omega) | decide) only [sE_load, sE_fa, sE_field, sE_call0, oK_some, gK_t, q_o, loadF, fieldAddrF, partF, fieldF, partsOf, ↓reduceIte, q_b, ifp, guardA_some, guardV_f, q_f, q_s, q_l, q_n, Nat.reduceEqDiff, takeD_zero, takeD_cs, iD, intsD, intssD, Nat.reduceAdd, sE_gg, gotD, exB, nb_t, fo_40_0, ft_40_0, sz_29, ag_29]
    refine kc_by ex_same rfl ?_
    simp -dsimp -implicitDefEqProofs (disch := first | assumption | omega | (simp [maxLen, avs_len] <;> omega) | decide) only [sE_pick, sE_un, sE_nil, oK_some, gK_t, q_o, u_not, ↓reduceIte, q_b, guardA_some, guardV_f, q_f, q_l, Nat.reduceEqDiff, killAll, Nat.reduceAdd, sE_gg, nb_t, nb_f]
    refine hK9 _ _ ?_
    refine awp_cond rfl (fun ht => ?_) (fun ht => ?_)
    · cases ht
    · refine awp_skip (hK8 _ _ ?_)
      refine awp_seq_s KT_ok hc rfl fun K10 hK10 => ?_
      simp -dsimp -implicitDefEqProofs (disch := first | assumption | omega | (simp [maxLen, avs_len] <;> omega) | decide) only [sT_load, sT_fa, sT_alloc, sT_store, deadH, sT_nil, oK_some, q_o, loadF, fieldAddrF, layF, storeF, ↓reduceIte, q_b, ifp, q_f, q_l, q_s, q_a, AV.one, D.one, Value.oneCell', q_n, Nat.reduceEqDiff, map_d, avs_nil, avs_cons, takeD_zero, takeD_cs, Nat.reduceAdd, deadH, fo_40_0, sz_29, ag_29, za_29]
      refine hK10 _ _ ?_
      refine awp_seq_k fun K11 hK11 => ?_
      refine awp_seq_s KT_ok hc rfl fun K12 hK12 => ?_
      simp -dsimp -implicitDefEqProofs (disch := first | assumption | omega | (simp [maxLen, avs_len] <;> omega) | decide) only [sT_assign, sT_nil, q_f]
      refine hK12 _ _ ?_
      refine awp_block ?_
      refine awp_loop_rt hp (fun τ' H' mm => ∃ k, (1 ≤ k ∧ k ≤ 4) ∧ mm = 4 - k ∧ H' = [.cells (avs (gotC (exA, 0))), .cells (avs (rolC (exE k)))] ∧ τ' = frL [(1, .op 0 0), (5, .op 1 0), (6, .d (iD k))]) (3) ?_ ⟨1, ⟨by decide, by decide⟩, rfl, rfl, rfl⟩ ?_
      · refine Rt.trans (Rt.gc (keep := [0,6]) (by decide) (by simp [])) ?_
        refine Rt.end (less_cons (less_cons (less_cons (less_nil _) rfl) rfl) rfl) ?_
        rfl
      rintro τ' H' mm ⟨k, ⟨hk1, hk4⟩, rfl, rfl, rfl⟩
      refine awp_seq_k fun K13 hK13 => ?_
      refine awp_seq_s KT_ok hc rfl fun K14 hK14 => ?_
      simp -dsimp -implicitDefEqProofs (disch := first | assumption | omega | (simp [maxLen, avs_len] <;> omega) | decide) only [sT_move, sT_bin, sT_nil, oK_some, q_o, binF_v, v_leq, ↓reduceIte, q_b, q_f, q_s, q_l, q_n, Nat.reduceEqDiff, avs_nil, avs_cons, iD, intsD, intssD, Nat.reduceAdd, gotC, exA, rolC]
      refine hK14 _ _ ?_
      refine awp_cond rfl (fun ht => ?_) (fun ht => ?_)
      · have hk3 : k ≤ 3 := by simp at ht; omega
        refine awp_skip (hK13 _ _ ?_)
        refine awp_seq_k fun K15 hK15 => ?_
        refine awp_block ?_
        refine awp_s KT_ok hc rfl fun K16 hK16 => ?_
        simp -dsimp -implicitDefEqProofs (disch := first | assumption | omega | (simp [maxLen, avs_len] <;> omega) | decide) only [sT_move, sT_load, sT_build, sT_call0, oK_some, q_o, loadF, buildF, ↓reduceIte, q_b, ifp, ifn, q_f, q_s, q_l, q_a, fill_cons, D.one, Value.oneCell', q_n, Nat.reduceEqDiff, takeD_all, Nat.reduceAdd, sz_29, ag_29, pa_31, pl_31_0, pl_31_1, pl_31_4, zc_31]
        refine kc_by (ex_step hk1 hk3) rfl ?_
        simp -dsimp -implicitDefEqProofs (disch := first | assumption | omega | (simp [maxLen, avs_len] <;> omega) | decide) only [sT_field, sT_store, sT_nil, oK_some, q_o, partF, fieldF, partsOf, storeF, ↓reduceIte, q_b, ifp, q_f, q_s, q_l, q_a, AV.one, D.one, Value.oneCell', q_n, Nat.reduceEqDiff, takeD_zero, takeD_cs, iD, intsD, intssD, Nat.reduceAdd, gotD, sz_29, ft_40_0]
        refine hK16 _ _ (hK15 _ _ ?_)
        refine awp_s KT_ok hc rfl fun K17 hK17 => ?_
        simp -dsimp -implicitDefEqProofs (disch := first | assumption | omega | (simp [maxLen, avs_len] <;> omega) | decide) only [sT_move, sT_assign, sT_bin, sT_nil, oK_some, q_o, binF_v, v_add, ↓reduceIte, q_b, q_f, Nat.reduceEqDiff]
        refine hK17 _ _ ⟨_, _, _, ?_, ⟨k + 1, ⟨by omega, by omega⟩, rfl, rfl, rfl⟩, ?_⟩
        · first | omega | (simp only [List.length_cons]; omega) | (dsimp only; omega)
        · refine Rt.end (less_cons (less_cons (less_cons (less_nil _) rfl) rfl) rfl) ?_
          first | rfl | (simp only [intsD, boolsD, bytesD, intssD, bytessD, gcH, gcO, gcVs_avs, gcVs, gcV, gcV_d, fzH, fzO, fzVs_avs, fzVs, fzV, posN, avs_nil, avs_cons, List.map_cons, List.map_nil, List.getD_cons_zero, List.getD_cons_succ, ↓reduceIte, Nat.reduceEqDiff, Option.map_some, List.set_cons_zero, List.set_cons_succ, takeD_avs, takeD_all, Nat.mul_one, List.length_map, List.cons_append, List.nil_append, gotD, gotC, exA, exB, exC, exD, rolC, rolD, repC, repD, goodR]; first | done | rfl)
      · have hk3 : k = 4 := by simp at ht; omega
        subst hk3
        refine awp_exit (hK11 _ _ ?_)
        refine awp_seq_se KT_ok hc mixed rfl (q := 3) (by kernel_rfl) (by kernel_rfl) fun K18 hK18 => ?_
        simp -dsimp -implicitDefEqProofs (disch := first | assumption | omega | (simp [maxLen, avs_len] <;> omega) | decide) only [sE_move, sE_load, sE_fa, sE_bin, sE_call0, sE_bs, oK_some, gK_t, q_o, loadF, fieldAddrF, binF_v, layF, layEF, v_eql, ↓reduceIte, q_b, ifp, ifn, guardA_some, guardV_t, q_f, q_s, q_l, List.replicate_zero, List.replicate_succ, reps_def, q_a, fill_cons, and_true, q_n, Nat.reduceEqDiff, shB, appB, iD, intsD, Nat.reduceAdd, layEF, frzF, datas, sE_gg, dec_f, beq_t, exE_4, fo_29_6, sz_3, ag_3, fo_29_5, sz_27, ag_27, mk_27]
        refine kc_by (ex_ints [1, 2, 3] (by decide)) rfl ?_
        simp -dsimp -implicitDefEqProofs (disch := first | assumption | omega | (simp [maxLen, avs_len] <;> omega) | decide) only [sE_move, sE_pick, sE_load, sE_call0, oK_some, gK_t, q_o, loadF, ↓reduceIte, q_b, ifp, guardA_some, guardV_t, q_f, q_s, q_l, Nat.reduceEqDiff, takeD_all, Nat.reduceAdd, sE_gg, sz_29, ag_29]
        refine kc_by (ex_valid (exE_ok 4).short (exE_ok 4).ok (b := true) (by decide)) rfl ?_
        simp -dsimp -implicitDefEqProofs (disch := first | assumption | omega | (simp [maxLen, avs_len] <;> omega) | decide) only [sE_move, sE_pick, sE_build, sE_call0, oK_some, gK_t, q_o, buildF, ↓reduceIte, q_b, guardA_some, guardV_t, q_f, q_s, q_l, q_a, D.one, Value.oneCell', Nat.reduceEqDiff, Nat.reduceAdd, sE_gg, pa_29, zc_29]
        refine kc_by (ex_valid noRol_short noRol_ok (b := false) (by decide)) rfl ?_
        simp -dsimp -implicitDefEqProofs (disch := first | assumption | omega | (simp [maxLen, avs_len] <;> omega) | decide) only [sE_move, sE_pick, sE_load, sE_fa, sE_un, sE_call0, oK_some, gK_t, q_o, loadF, fieldAddrF, u_not, ↓reduceIte, q_b, ifp, guardA_some, guardV_t, q_f, q_s, q_l, q_n, Nat.reduceEqDiff, takeD_zero, takeD_cs, Nat.reduceAdd, sE_gg, nb_t, sz_29, ag_29, fo_40_0]
        refine kc_by (goodr_c exA 7) rfl ?_
        simp -dsimp -implicitDefEqProofs (disch := first | assumption | omega | (simp [maxLen, avs_len] <;> omega) | decide) only [sE_call0, gK_t, q_o, ↓reduceIte, q_b, guardA_some, guardV_t, q_f, q_s, q_l, Nat.reduceEqDiff, iD, oD, Nat.reduceAdd, sE_gg, exA, repC, repD, goodR]
        refine kc_by (ex_see exA_ok (p := goodR exA 7) ⟨by decide, by decide⟩ (g := (noRol, 510)) (by decide)) rfl ?_
        simp -dsimp -implicitDefEqProofs (disch := first | assumption | omega | (simp [maxLen, avs_len] <;> omega) | decide) only [sE_move, sE_pick, sE_load, sE_fa, sE_field, sE_bin, sE_call0, oK_some, gK_t, q_o, loadF, fieldAddrF, partF, fieldF, partsOf, binF_v, v_eql, ↓reduceIte, q_b, ifp, guardA_some, guardV_t, q_f, q_s, q_l, q_n, Nat.reduceEqDiff, takeD_zero, takeD_cs, iD, intsD, intssD, Nat.reduceAdd, sE_gg, gotD, beq_t, sz_29, ag_29, fo_40_0, ft_40_1]
        refine kc_by (ex_resume (r := exA) (g := (noRol, 510)) (by decide)) rfl ?_
        simp -dsimp -implicitDefEqProofs (disch := first | assumption | omega | (simp [maxLen, avs_len] <;> omega) | decide) only [sE_move, sE_pick, sE_field, sE_bin, sE_build, sE_call0, sE_bs, oK_some, gK_t, q_o, partF, fieldF, partsOf, binF_v, buildF, layF, layEF, v_eql, ↓reduceIte, q_b, ifp, ifn, guardA_some, guardV_t, q_f, q_s, q_l, List.replicate_zero, List.replicate_succ, reps_def, q_a, fill_cons, as_fs, D.one, Value.oneCell', and_true, q_n, Nat.reduceEqDiff, shB, appB, iD, intsD, intssD, Nat.reduceAdd, layEF, frzF, datas, sE_gg, gotD, beq_t, mk_27, ft_40_1, mk_26, pa_35, pl_35_0, pl_35_1, pl_35_2, zc_35]
        refine kc_by ex_bad rfl ?_
        simp -dsimp -implicitDefEqProofs (disch := first | assumption | omega | (simp [maxLen, avs_len] <;> omega) | decide) only [sE_assign, sE_pick, sE_field, sE_bin, sE_nil, oK_some, gK_t, q_o, partF, fieldF, partsOf, binF_v, v_eql, ↓reduceIte, q_b, guardA_some, guardV_t, q_f, q_s, q_l, Nat.reduceEqDiff, killAll, iD, intsD, intssD, Nat.reduceAdd, sE_gg, gotD, beq_t, ft_40_1]
        refine hK18 _ _ ?_
        refine awp_ret ?_
        show closeA _ _ = _
        simp (disch := first | assumption | omega | (simp [maxLen, avs_len] <;> omega) | decide) only [closeA, retV, deep_d, Nat.reduceAdd, Nat.zero_add, D.fix, frL_get, ↓reduceIte, Option.map_some, List.length_cons, List.length_nil]
end Go.Proofs.Ytinefghmmbggeaa
