/- The law RolloutMatchesReference. -/
import Derived.Test.YtinefghmmbggeaaQ
import Derived.Test.YtinefghmmbggeaaRt
import Derived.Test.YtinefghmmbggeaaRx
set_option linter.unusedVariables false
set_option linter.unusedSimpArgs false
namespace Go.Proofs.Ytinefghmmbggeaa
open Go Go.RowKit
theorem v_remt {P : Program} {t : TypeId} {kk : IntKind} {a b : Int} (h : b ≠ 0) : binV P .rem t (.int kk a) (.int kk b) = some (.int kk (a.tmod b)) := by simp [binV, binI, h]
theorem wrap8 (n : Int) : B8 (IntKind.u8.wrap n) := by
  unfold IntKind.wrap
  simp [IntKind.bits, IntKind.signed]
  exact ⟨by omega, by omega⟩
theorem eq_same2 {a : Rol × Int} (ha : ShortR a.1) : PCalls Try.prog 14 [gotD a, gotD a] (.d (.val (.bool true))) := by
  have := same_c a a ha ha
  simpa [oD] using this
theorem sum_small : ∀ {w : List (List Int)}, (∀ l ∈ w, l.length ≤ 70) → sumL w ≤ w.length * 70
  | [], _ => Nat.le_refl _
  | l :: w, h => by
    have h1 := h l List.mem_cons_self
    have h2 := sum_small (w := w) fun l hl => h l (List.mem_cons_of_mem _ hl)
    unfold sumL at *
    simp only [List.flatten_cons, List.length_append, List.length_cons]
    omega
theorem small_short {z : Rol} (h : smallB z = true) : ShortR z := by
  unfold smallB at h
  simp only [Bool.and_eq_true, List.all_eq_true, decide_eq_true_eq] at h
  obtain ⟨⟨h1, h2⟩, h3⟩ := h
  rw [List.take_of_length_le (by omega)] at h1
  have := sum_small h1
  exact ⟨by omega, by omega, by omega⟩
theorem RolIn.ok {z : Rol} (h : RolIn z) : OkI z := ⟨fun l hl => (h.wr l hl).2, h.di, h.p⟩
theorem new_short {z : Rol} (h : ShortR z) : ShortR (newR z.frm z.to z.wv z.slk) := ⟨h.wl, h.ws, by simp [newR]⟩
theorem new_ok {z : Rol} (h : OkI z) : OkI (newR z.frm z.to z.wv z.slk) := ⟨h.w, fun x hx => (by cases hx), ⟨by simp [newR], by simp [newR]⟩⟩
theorem newG_short {a b s : Int} {w : List (List Int)} (h : ShortR (newR a b w s)) : ShortR (newG a b w s).1 := by
  unfold newG
  split
  · exact h
  · exact noRol_short
theorem seeG_short {r : Rol} (h : VR r) (p : Rep) : ShortR (seeG r p).1 := by
  by_cases e : (seeG r p).2 = 0
  · exact (h.seeG e).short
  · rw [see_bad (Decidable.byContradiction fun k => e (see_err.2 k))]; exact noRol_short
theorem resume_short {r : Rol} (h : VR r) : ShortR (resumeG r).1 := by
  unfold resumeG
  split
  · exact ⟨h.short.wl, h.short.ws, h.short.dl⟩
  · exact noRol_short
theorem back_short {r : Rol} (h : VR r) : ShortR (backG r).1 := by
  unfold backG
  split
  · exact noRol_short
  · exact ⟨h.short.wl, h.short.ws, by simp⟩
def ownS (x : Rw) (p : Rep) : Sp := ⟨x.slk, IntKind.u8.wrap p.chip, IntKind.u8.wrap p.slk, p.same, p.runs, p.no.tmod 2 == 0⟩
theorem ownS_ok {x : Rw} (h : RwOk x) (p : Rep) : SpOk (ownS x p) := ⟨h.s, wrap8 _, wrap8 _⟩
theorem rol_w (r : Rol) : (rolC r).length = 7 := rfl
theorem rol_row {l : List Rol} {k : Nat} (h : k < l.length) : takeD (l.flatMap rolC) (k * 7) 7 = some (rolC (nth l k)) := flat_row rol_w h
theorem rols_len {l : List Rol} : (l.flatMap rolC).length = l.length * 7 := flat_len rol_w l
set_option maxRecDepth 100000 in
set_option linter.unusedVariables false in
set_option maxHeartbeats 4000000 in
theorem match_law (x : Rw) (hx : RwOk x) (z : Rol) (hz : RolIn z) (p : Rep) (hpp : RepIn p) : PCalls Try.prog 3 [rwD x, rolD z, repD p] (.d (.val (.bool true))) := by
  refine pcalls_of0 (fn := Try.f3) (by kernel_rfl) Try.func3 rfl (Nat.le_of_ble_eq_true rfl) fun c hc hp => ?_
  refine awp_less (τ' := frL [(0, .d (rwD x)), (1, .d (rolD z)), (2, .d (repD p))]) (less_cons (less_cons (less_cons (less_nil _) rfl) rfl) rfl) ?_
  obtain ⟨r, hmr⟩ : ∃ r, madeR x = r := ⟨_, rfl⟩
  have hvr : VR r := hmr ▸ madeK_ok hx 24
  have hpi := hpp.c
  refine awp_seq_s KT_ok hc rfl fun K1 hK1 => ?_
  simp -dsimp -implicitDefEqProofs (disch := first | assumption | omega | (simp [maxLen, avs_len, rols_len] <;> omega) | decide) only [sT_assign, sT_box, deadH, sT_nil, oK_some, q_o, layF, ↓reduceIte, q_b, q_f, q_s, q_l, as_dagg, D.one, Value.oneCell', q_n, Nat.reduceEqDiff, iD, bD, oD, intsD, bytesD, intssD, Nat.reduceAdd, deadH, rwD, bytesD, spsD, rolD, rolC, repD, repC]
  refine hK1 _ _ ?_
  refine awp_seq_s KT_ok hc rfl fun K2 hK2 => ?_
  simp -dsimp -implicitDefEqProofs (disch := first | assumption | omega | (simp [maxLen, avs_len, rols_len] <;> omega) | decide) only [sT_call0, q_f, q_s, q_l, q_n, Nat.reduceAdd]
  refine kc_by (examples_c) rfl ?_
  simp -dsimp -implicitDefEqProofs (disch := first | assumption | omega | (simp [maxLen, avs_len, rols_len] <;> omega) | decide) only [sT_assign, sT_nil, ↓reduceIte, q_b, q_f]
  refine hK2 _ _ ?_
  refine awp_seq_k fun K3 hK3 => ?_
  refine awp_seq_s KT_ok hc rfl fun K4 hK4 => ?_
  simp -dsimp -implicitDefEqProofs (disch := first | assumption | omega | (simp [maxLen, avs_len, rols_len] <;> omega) | decide) only [sT_move, sT_un, sT_nil, oK_some, u_not, ↓reduceIte, q_b, q_f]
  refine hK4 _ _ ?_
  refine awp_cond rfl (fun ht => ?_) (fun ht => ?_)
  · cases ht
  · refine awp_skip (hK3 _ _ ?_)
    refine awp_seq_k fun K5 hK5 => ?_
    refine awp_seq_s KT_ok hc rfl fun K6 hK6 => ?_
    simp -dsimp -implicitDefEqProofs (disch := first | assumption | omega | (simp [maxLen, avs_len, rols_len] <;> omega) | decide) only [sT_load, sT_call0, oK_some, q_o, loadF, ↓reduceIte, q_b, ifp, q_f, q_s, q_l, q_n, Nat.reduceEqDiff, takeD_all, Nat.reduceAdd, sz_29, ag_29]
    refine kc_by (small_c z hz.wl (fun l hl => (hz.wr l hl).1) hz.dl) rfl ?_
    simp -dsimp -implicitDefEqProofs (disch := first | assumption | omega | (simp [maxLen, avs_len, rols_len] <;> omega) | decide) only [sT_un, sT_nil, oK_some, u_not, ↓reduceIte, q_b, q_f]
    refine hK6 _ _ ?_
    refine awp_cond rfl (fun ht => ?_) (fun ht => ?_)
    · refine awp_seq_s KT_ok hc rfl fun K7 hK7 => ?_
      simp -dsimp -implicitDefEqProofs (disch := first | assumption | omega | (simp [maxLen, avs_len, rols_len] <;> omega) | decide) only [sT_move, sT_assign, sT_nil, ↓reduceIte, q_b, q_f, Nat.reduceEqDiff]
      refine hK7 _ _ ?_
      refine awp_ret ?_
      show closeA _ _ = _
      simp (disch := first | assumption | omega | (simp [maxLen, avs_len, rols_len] <;> omega) | decide) only [closeA, retV, deep_d, Nat.reduceAdd, Nat.zero_add, D.fix, frL_get, ↓reduceIte, Option.map_some, List.length_cons, List.length_nil]
    · have hsm : smallB z = true := by simpa using ht
      have hzs := small_short hsm
      have hzo := hz.ok
      obtain ⟨bz, hbz⟩ : ∃ b, validR z = b := ⟨_, rfl⟩
      obtain ⟨gz, hgz⟩ : ∃ g, newG z.frm z.to z.wv z.slk = g := ⟨_, rfl⟩
      have hgs : ShortR gz.1 := hgz ▸ newG_short (new_short hzs)
      refine awp_skip (hK5 _ _ ?_)
      refine awp_seq_s KT_ok hc rfl fun K8 hK8 => ?_
      simp -dsimp -implicitDefEqProofs (disch := first | assumption | omega | (simp [maxLen, avs_len, rols_len] <;> omega) | decide) only [sT_load, sT_fa, sT_build, sT_alloc, sT_store, deadH, sT_nil, oK_some, q_o, loadF, fieldAddrF, buildF, layF, storeF, ↓reduceIte, q_b, ifp, ifn, q_f, q_s, q_l, q_a, fill_cons, as_fs, AV.one, D.one, Value.oneCell', q_n, Nat.reduceEqDiff, map_d, avs_nil, avs_cons, Nat.reduceAdd, deadH, fo_29_0, sz_3, ag_3, fo_29_1, fo_29_2, sz_26, ag_26, fo_29_3, pa_35, pl_35_0, pl_35_1, pl_35_2, pl_35_3, sz_35, za_35, zc_35]
      refine hK8 _ _ ?_
      refine awp_seq_s KT_ok hc rfl fun K9 hK9 => ?_
      simp -dsimp -implicitDefEqProofs (disch := first | assumption | omega | (simp [maxLen, avs_len, rols_len] <;> omega) | decide) only [sT_load, sT_call0, oK_some, q_o, loadF, ↓reduceIte, q_b, ifp, q_f, q_s, q_l, q_n, Nat.reduceEqDiff, takeD_all, Nat.reduceAdd, sz_25, ag_25]
      refine kc_by (show PCalls Try.prog 11 [rwD x] (.d (rolD r)) from hmr ▸ madex_c x hx) rfl ?_
      simp -dsimp -implicitDefEqProofs (disch := first | assumption | omega | (simp [maxLen, avs_len, rols_len] <;> omega) | decide) only [sT_alloc, sT_store, deadH, sT_nil, oK_some, q_o, layF, storeF, ↓reduceIte, q_b, ifp, q_f, q_s, q_l, as_dagg, q_a, D.one, Value.oneCell', q_n, Nat.reduceEqDiff, map_d, avs_nil, avs_cons, iD, intsD, intssD, Nat.reduceAdd, deadH, rolD, rolC, sz_29, za_29]
      refine hK9 _ _ ?_
      refine awp_seq_k fun K10 hK10 => ?_
      refine awp_seq_se KT_ok hc mixed rfl (q := 0) (by kernel_rfl) (by kernel_rfl) fun K11 hK11 => ?_
      simp -dsimp -implicitDefEqProofs (disch := first | assumption | omega | (simp [maxLen, avs_len, rols_len] <;> omega) | decide) only [sE_load, sE_call0, oK_some, q_o, loadF, ↓reduceIte, q_b, ifp, q_f, q_s, q_l, List.append_nil, List.replicate_zero, q_n, Nat.reduceEqDiff, takeD_all, Nat.reduceAdd, nb_f, sz_29, ag_29]
      refine kc_by (show PCalls Try.prog 12 [rolD z] (.d (.val (.bool bz))) from hbz ▸ valid_c z hzs hzo) rfl ?_
      simp -dsimp -implicitDefEqProofs (disch := first | assumption | omega | (simp [maxLen, avs_len, rols_len] <;> omega) | decide) only [sE_load, sE_call0, oK_some, q_o, loadF, ↓reduceIte, q_b, ifp, q_f, q_s, q_l, Nat.reduceEqDiff, takeD_all, Nat.reduceAdd, sz_29, ag_29]
      refine kc_by (show PCalls Try.prog 13 [rolD z] (.d (.val (.bool bz))) from hbz ▸ validp_c z hzs) rfl ?_
      simp -dsimp -implicitDefEqProofs (disch := first | assumption | omega | (simp [maxLen, avs_len, rols_len] <;> omega) | decide) only [sE_move, sE_load, sE_bin, sE_call0, oK_some, q_o, loadF, binF_v, v_bneq, ↓reduceIte, q_b, ifp, guardA_some, guardV_f, q_f, q_s, q_l, Nat.reduceEqDiff, takeD_all, Nat.reduceAdd, sE_gg, bne_self_eq_false, nb_t, gK_tt, bne_self_eq_false, bt_4, sz_35, ag_35]
      refine kc_by (show PCalls Try.prog 15 [planD z.frm z.to z.wv z.slk] (.d (gotD gz)) from hgz ▸ made_c z.frm z.to z.wv z.slk (new_short hzs) (new_ok hzo)) rfl ?_
      simp -dsimp -implicitDefEqProofs (disch := first | assumption | omega | (simp [maxLen, avs_len, rols_len] <;> omega) | decide) only [sE_load, sE_call0, oK_some, q_o, loadF, ↓reduceIte, q_b, ifp, guardA_some, guardV_f, q_f, q_s, q_l, Nat.reduceEqDiff, takeD_all, iD, intsD, intssD, Nat.reduceAdd, sE_gg, gotD, nb_t, gK_tt, sz_35, ag_35]
      refine kc_by (show PCalls Try.prog 16 [planD z.frm z.to z.wv z.slk] (.d (gotD gz)) from hgz ▸ newp_c z.frm z.to z.wv z.slk (new_short hzs)) rfl ?_
      simp -dsimp -implicitDefEqProofs (disch := first | assumption | omega | (simp [maxLen, avs_len, rols_len] <;> omega) | decide) only [sE_call0, q_o, ↓reduceIte, q_b, guardA_some, guardV_f, q_f, q_s, q_l, Nat.reduceEqDiff, iD, intsD, intssD, Nat.reduceAdd, sE_gg, gotD, nb_t, gK_tt]
      refine kc_by (eq_same2 hgs) rfl ?_
      simp -dsimp -implicitDefEqProofs (disch := first | assumption | omega | (simp [maxLen, avs_len, rols_len] <;> omega) | decide) only [sE_move, sE_pick, sE_load, sE_un, sE_call0, oK_some, q_o, loadF, u_not, ↓reduceIte, q_b, ifp, guardA_some, guardV_f, q_f, q_s, q_l, Nat.reduceEqDiff, takeD_all, Nat.reduceAdd, sE_gg, nb_t, nb_f, gK_tt, sz_29, ag_29]
      refine kc_by (valid_v hvr) rfl ?_
      simp -dsimp -implicitDefEqProofs (disch := first | assumption | omega | (simp [maxLen, avs_len, rols_len] <;> omega) | decide) only [sE_pick, sE_un, sE_nil, oK_some, q_o, u_not, ↓reduceIte, q_b, guardA_some, guardV_f, q_f, q_l, Nat.reduceEqDiff, killAll, Nat.reduceAdd, sE_gg, nb_t, nb_f, gK_tt]
      refine hK11 _ _ ?_
      refine awp_cond rfl (fun ht => ?_) (fun ht => ?_)
      · cases ht
      · refine awp_skip (hK10 _ _ ?_)
        refine awp_seq_s KT_ok hc rfl fun K12 hK12 => ?_
        simp -dsimp -implicitDefEqProofs (disch := first | assumption | omega | (simp [maxLen, avs_len, rols_len] <;> omega) | decide) only [sT_assign, sT_load, sT_bs, deadH, sT_nil, oK_some, q_o, loadF, layF, ↓reduceIte, q_b, ifp, ifn, q_f, q_s, q_l, List.append_nil, List.replicate_zero, List.replicate_succ, reps_def, q_a, fill_cons, AV.one, D.one, Value.oneCell', q_n, Nat.reduceEqDiff, takeD_all, Nat.reduceAdd, deadH, Nat.zero_mul, Nat.reduceMul, List.flatten_cons, List.flatten_nil, sz_29, ag_29, mk_42]
        refine hK12 _ _ ?_
        refine awp_seq_k fun K13 hK13 => ?_
        have hJ13 : ∀ τ' H', (∃ τ1 H1, ∃ (all : List Rol), (all.length ≤ 2 ∧ ∀ q ∈ all, VR q) ∧ H1 = [.cells [.d (bytesD x.ws), .d (bD x.slk), .d (spsD x.steps)], .cells (avs (repC p))] ∧ τ1 = frL [(3, .op 0 0), (5, .op 1 0), (7, .d (.val (.bool true))), (10, .d (.fs (all.flatMap rolC) all.length))] ∧ Rt τ' H' τ1 H1) → K13 τ' H' := by
          rintro τ' H' ⟨_, _, all, ⟨hal, hav⟩, rfl, rfl, hrt⟩
          refine hK13 _ _ (awp_rt hp hrt ?_)
          clear hrt
          refine awp_seq_k fun K14 hK14 => ?_
          refine awp_seq_s KT_ok hc rfl fun K15 hK15 => ?_
          simp -dsimp -implicitDefEqProofs (disch := first | assumption | omega | (simp [maxLen, avs_len, rols_len] <;> omega) | decide) only [sT_assign, sT_nil, q_f, avs_nil, avs_cons, iD, bD, oD, bytesD, bytesD, spsD, repC]
          refine hK15 _ _ ?_
          refine awp_block ?_
          refine awp_loop_rt hp (fun τ' H' mm => ∃ k, (k ≤ all.length) ∧ mm = 100 - k ∧ H' = [.cells [.d (bytesD x.ws), .d (bD x.slk), .d (spsD x.steps)], .cells (avs (repC p))] ∧ τ' = frL [(3, .op 0 0), (5, .op 1 0), (7, .d (.val (.bool true))), (10, .d (.fs (all.flatMap rolC) all.length)), (11, .d (iD k))]) (100) ?_ ⟨0, Nat.zero_le _, rfl, rfl, rfl⟩ ?_
          · refine Rt.end (less_cons (less_cons (less_cons (less_cons (less_cons (less_nil _) rfl) rfl) rfl) rfl) rfl) ?_
            first | rfl | (simp only [intsD, boolsD, bytesD, intssD, bytessD, gcH, gcO, gcVs_avs, gcVs, gcV, gcV_d, fzH, fzO, fzVs_avs, fzVs, fzV, posN, avs_nil, avs_cons, List.map_cons, List.map_nil, List.getD_cons_zero, List.getD_cons_succ, ↓reduceIte, Nat.reduceEqDiff, Option.map_some, List.set_cons_zero, List.set_cons_succ, takeD_avs, takeD_all, Nat.mul_one, List.length_map, List.cons_append, List.nil_append, gotC, rwD, bytesD, spsD, spD, spC, rol_row, planD, rolD, rolC, repD, repC, gotD, List.cons_append, List.nil_append, bne_self_eq_false, beq_self_eq_true, Bool.bne_true, Bool.bne_false, Bool.true_bne, Bool.false_bne, Bool.not_true, Bool.not_false]; first | done | rfl)
          rintro τ' H' mm ⟨k, hk, rfl, rfl, rfl⟩
          refine awp_seq_k fun K16 hK16 => ?_
          refine awp_seq_s KT_ok hc rfl fun K17 hK17 => ?_
          simp -dsimp -implicitDefEqProofs (disch := first | assumption | omega | (simp [maxLen, avs_len, rols_len] <;> omega) | decide) only [sT_move, sT_bin, sT_len, sT_nil, oK_some, q_o, binF_v, lenF, builtinF, v_lss, ↓reduceIte, q_b, q_f, q_s, Nat.reduceEqDiff, avs_nil, avs_cons, iD, bD, oD, bytesD, bytesD, spsD, repC, eo_42]
          refine hK17 _ _ ?_
          refine awp_cond rfl (fun ht => ?_) (fun ht => ?_)
          · have hkl : k < all.length := by simpa using ht
            obtain ⟨q, hq⟩ : ∃ q, nth all k = q := ⟨_, rfl⟩
            have hqv : VR q := hq ▸ hav _ (nth_mem hkl)
            obtain ⟨o, ho⟩ : ∃ o, reportR q (ownS x p) = o := ⟨_, rfl⟩
            have hoi : I64 o.chip := ho ▸ rep_i64 hqv (ownS_ok hx p)
            have hrl := ready_len hqv
            obtain ⟨R, hR⟩ : ∃ R, readyG q = R := ⟨_, rfl⟩
            rw [hR] at hrl
            obtain ⟨g1, hg1⟩ : ∃ g, seeG q p = g := ⟨_, rfl⟩
            have hs1 : ShortR g1.1 := hg1 ▸ seeG_short hqv p
            obtain ⟨g2, hg2⟩ : ∃ g, seeG q o = g := ⟨_, rfl⟩
            have hs2 : ShortR g2.1 := hg2 ▸ seeG_short hqv o
            obtain ⟨g3, hg3⟩ : ∃ g, resumeG q = g := ⟨_, rfl⟩
            have hs3 : ShortR g3.1 := hg3 ▸ resume_short hqv
            obtain ⟨g4, hg4⟩ : ∃ g, backG q = g := ⟨_, rfl⟩
            have hs4 : ShortR g4.1 := hg4 ▸ back_short hqv
            refine awp_skip (hK16 _ _ ?_)
            refine awp_seq_k fun K18 hK18 => ?_
            refine awp_block ?_
            refine awp_seq_s KT_ok hc rfl fun K19 hK19 => ?_
            simp -dsimp -implicitDefEqProofs (disch := first | assumption | omega | (simp [maxLen, avs_len, rols_len] <;> omega) | decide) only [sT_move, sT_load, sT_ia, sT_alloc, sT_store, deadH, sT_nil, oK_some, q_o, loadF, ixO, indexAddrF, layF, storeF, ↓reduceIte, q_b, ifp, q_f, q_s, q_l, as_dagg, q_a, D.one, Value.oneCell', Int.toNat_natCast, q_n, Nat.reduceEqDiff, map_d, avs_nil, avs_cons, iD, intsD, intssD, Nat.reduceAdd, deadH, rol_row, rolC, hq, eo_42, sz_29, ag_29, za_29]
            refine hK19 _ _ ?_
            refine awp_seq_s KT_ok hc rfl fun K20 hK20 => ?_
            simp -dsimp -implicitDefEqProofs (disch := first | assumption | omega | (simp [maxLen, avs_len, rols_len] <;> omega) | decide) only [sT_load, sT_fa, sT_bin, sT_conv, sT_build, sT_call0, oK_some, q_o, loadF, fieldAddrF, binF_v, convF, buildF, v_eql, ↓reduceIte, q_b, ifp, ifn, q_f, q_s, q_l, q_a, fill_cons, D.one, Value.oneCell', q_n, Nat.reduceEqDiff, takeD_all, Nat.reduceAdd, v_remt, sz_29, ag_29, fo_25_1, sz_5, ag_5, fo_31_0, sz_3, ag_3, ik_3, ik_5, fo_31_2, fo_31_3, sz_4, ag_4, fo_31_4, fo_31_1, pa_45, pl_45_0, pl_45_1, pl_45_2, pl_45_3, pl_45_4, pl_45_5, zc_45]
            refine kc_by (show PCalls Try.prog 17 [rolD q, spD (ownS x p)] (.d (repD o)) from ho ▸ report_c q (ownS x p) hqv (ownS_ok hx p)) rfl ?_
            simp -dsimp -implicitDefEqProofs (disch := first | assumption | omega | (simp [maxLen, avs_len, rols_len] <;> omega) | decide) only [sT_alloc, sT_store, deadH, sT_nil, oK_some, q_o, layF, storeF, ↓reduceIte, q_b, ifp, q_f, q_s, q_l, as_dagg, q_a, D.one, Value.oneCell', q_n, Nat.reduceEqDiff, map_d, avs_nil, avs_cons, iD, oD, Nat.reduceAdd, deadH, repD, repC, sz_31, za_31]
            refine hK20 _ _ ?_
            refine awp_seq_se KT_ok hc mixed rfl (q := 0) (by kernel_rfl) (by kernel_rfl) fun K21 hK21 => ?_
            simp -dsimp -implicitDefEqProofs (disch := first | assumption | omega | (simp [maxLen, avs_len, rols_len] <;> omega) | decide) only [sE_load, sE_call0, oK_some, q_o, loadF, ↓reduceIte, q_b, ifp, q_f, q_s, q_l, List.append_nil, List.replicate_zero, q_n, Nat.reduceEqDiff, takeD_all, Nat.reduceAdd, dec_t, sz_29, ag_29]
            refine kc_by (show PCalls Try.prog 19 [rolD q] (.d (intsD R)) from hR ▸ ready_v hqv) rfl ?_
            simp -dsimp -implicitDefEqProofs (disch := first | assumption | omega | (simp [maxLen, avs_len, rols_len] <;> omega) | decide) only [sE_load, sE_call0, oK_some, q_o, loadF, ↓reduceIte, q_b, ifp, q_f, q_s, q_l, Nat.reduceEqDiff, takeD_all, intsD, Nat.reduceAdd, sz_29, ag_29]
            refine kc_by (show PCalls Try.prog 20 [rolD q] (.d (intsD R)) from hR ▸ readyp_c q hqv.short hqv.ok hqv.pos02) rfl ?_
            simp -dsimp -implicitDefEqProofs (disch := first | assumption | omega | (simp [maxLen, avs_len, rols_len] <;> omega) | decide) only [sE_call0, ↓reduceIte, q_b, q_f, q_s, Nat.reduceEqDiff, intsD, Nat.reduceAdd]
            refine kc_by (ex_ints R (by omega)) rfl ?_
            simp -dsimp -implicitDefEqProofs (disch := first | assumption | omega | (simp [maxLen, avs_len, rols_len] <;> omega) | decide) only [sE_move, sE_load, sE_un, sE_call0, oK_some, q_o, loadF, u_not, ↓reduceIte, q_b, ifp, guardA_some, guardV_f, q_f, q_s, q_l, Nat.reduceEqDiff, takeD_all, Nat.reduceAdd, sE_gg, nb_t, nb_f, gK_tt, sz_29, ag_29, sz_31, ag_31]
            refine kc_by (see_v hqv hpi hg1) rfl ?_
            simp -dsimp -implicitDefEqProofs (disch := first | assumption | omega | (simp [maxLen, avs_len, rols_len] <;> omega) | decide) only [sE_load, sE_call0, oK_some, q_o, loadF, ↓reduceIte, q_b, ifp, guardA_some, guardV_f, q_f, q_s, q_l, Nat.reduceEqDiff, takeD_all, iD, intsD, intssD, Nat.reduceAdd, sE_gg, gotD, nb_t, gK_tt, sz_29, ag_29, sz_31, ag_31]
            refine kc_by (show PCalls Try.prog 22 [rolD q, repD p] (.d (gotD g1)) from hg1 ▸ seep_c q p (hqv.see hpi) hqv.inc) rfl ?_
            simp -dsimp -implicitDefEqProofs (disch := first | assumption | omega | (simp [maxLen, avs_len, rols_len] <;> omega) | decide) only [sE_call0, q_o, ↓reduceIte, q_b, guardA_some, guardV_f, q_f, q_s, q_l, Nat.reduceEqDiff, iD, intsD, intssD, Nat.reduceAdd, sE_gg, gotD, nb_t, gK_tt]
            refine kc_by (eq_same2 hs1) rfl ?_
            simp -dsimp -implicitDefEqProofs (disch := first | assumption | omega | (simp [maxLen, avs_len, rols_len] <;> omega) | decide) only [sE_move, sE_pick, sE_load, sE_un, sE_call0, oK_some, q_o, loadF, u_not, ↓reduceIte, q_b, ifp, guardA_some, guardV_f, q_f, q_s, q_l, Nat.reduceEqDiff, takeD_all, Nat.reduceAdd, sE_gg, nb_t, nb_f, gK_tt, sz_29, ag_29, sz_31, ag_31]
            refine kc_by (see_v hqv hoi hg2) rfl ?_
            simp -dsimp -implicitDefEqProofs (disch := first | assumption | omega | (simp [maxLen, avs_len, rols_len] <;> omega) | decide) only [sE_load, sE_call0, oK_some, q_o, loadF, ↓reduceIte, q_b, ifp, guardA_some, guardV_f, q_f, q_s, q_l, Nat.reduceEqDiff, takeD_all, iD, intsD, intssD, Nat.reduceAdd, sE_gg, gotD, nb_t, gK_tt, sz_29, ag_29, sz_31, ag_31]
            refine kc_by (show PCalls Try.prog 22 [rolD q, repD o] (.d (gotD g2)) from hg2 ▸ seep_c q o (hqv.see hoi) hqv.inc) rfl ?_
            simp -dsimp -implicitDefEqProofs (disch := first | assumption | omega | (simp [maxLen, avs_len, rols_len] <;> omega) | decide) only [sE_call0, q_o, ↓reduceIte, q_b, guardA_some, guardV_f, q_f, q_s, q_l, Nat.reduceEqDiff, iD, intsD, intssD, Nat.reduceAdd, sE_gg, gotD, nb_t, gK_tt]
            refine kc_by (eq_same2 hs2) rfl ?_
            simp -dsimp -implicitDefEqProofs (disch := first | assumption | omega | (simp [maxLen, avs_len, rols_len] <;> omega) | decide) only [sE_move, sE_pick, sE_load, sE_un, sE_call0, oK_some, q_o, loadF, u_not, ↓reduceIte, q_b, ifp, guardA_some, guardV_f, q_f, q_s, q_l, Nat.reduceEqDiff, takeD_all, Nat.reduceAdd, sE_gg, nb_t, nb_f, gK_tt, sz_29, ag_29]
            refine kc_by (show PCalls Try.prog 23 [rolD q] (.d (gotD g3)) from hg3 ▸ resume1_c q) rfl ?_
            simp -dsimp -implicitDefEqProofs (disch := first | assumption | omega | (simp [maxLen, avs_len, rols_len] <;> omega) | decide) only [sE_load, sE_call0, oK_some, q_o, loadF, ↓reduceIte, q_b, ifp, guardA_some, guardV_f, q_f, q_s, q_l, Nat.reduceEqDiff, takeD_all, iD, intsD, intssD, Nat.reduceAdd, sE_gg, gotD, nb_t, gK_tt, sz_29, ag_29]
            refine kc_by (show PCalls Try.prog 24 [rolD q] (.d (gotD g3)) from hg3 ▸ resumep_c q) rfl ?_
            simp -dsimp -implicitDefEqProofs (disch := first | assumption | omega | (simp [maxLen, avs_len, rols_len] <;> omega) | decide) only [sE_call0, q_o, ↓reduceIte, q_b, guardA_some, guardV_f, q_f, q_s, q_l, Nat.reduceEqDiff, iD, intsD, intssD, Nat.reduceAdd, sE_gg, gotD, nb_t, gK_tt]
            refine kc_by (eq_same2 hs3) rfl ?_
            simp -dsimp -implicitDefEqProofs (disch := first | assumption | omega | (simp [maxLen, avs_len, rols_len] <;> omega) | decide) only [sE_move, sE_pick, sE_load, sE_un, sE_call0, oK_some, q_o, loadF, u_not, ↓reduceIte, q_b, ifp, guardA_some, guardV_f, q_f, q_s, q_l, Nat.reduceEqDiff, takeD_all, Nat.reduceAdd, sE_gg, nb_t, nb_f, gK_tt, sz_29, ag_29]
            refine kc_by (show PCalls Try.prog 25 [rolD q] (.d (gotD g4)) from hg4 ▸ back1_c q hqv.short hqv.ok) rfl ?_
            simp -dsimp -implicitDefEqProofs (disch := first | assumption | omega | (simp [maxLen, avs_len, rols_len] <;> omega) | decide) only [sE_load, sE_call0, oK_some, q_o, loadF, ↓reduceIte, q_b, ifp, guardA_some, guardV_f, q_f, q_s, q_l, Nat.reduceEqDiff, takeD_all, iD, intsD, intssD, Nat.reduceAdd, sE_gg, gotD, nb_t, gK_tt, sz_29, ag_29]
            refine kc_by (show PCalls Try.prog 26 [rolD q] (.d (gotD g4)) from hg4 ▸ backp_c q hqv.short) rfl ?_
            simp -dsimp -implicitDefEqProofs (disch := first | assumption | omega | (simp [maxLen, avs_len, rols_len] <;> omega) | decide) only [sE_call0, q_o, ↓reduceIte, q_b, guardA_some, guardV_f, q_f, q_s, q_l, Nat.reduceEqDiff, iD, intsD, intssD, Nat.reduceAdd, sE_gg, gotD, nb_t, gK_tt]
            refine kc_by (eq_same2 hs4) rfl ?_
            simp -dsimp -implicitDefEqProofs (disch := first | assumption | omega | (simp [maxLen, avs_len, rols_len] <;> omega) | decide) only [sE_pick, sE_un, sE_nil, oK_some, q_o, u_not, ↓reduceIte, q_b, guardA_some, guardV_f, q_f, q_l, Nat.reduceEqDiff, killAll, Nat.reduceAdd, sE_gg, nb_t, nb_f, gK_tt]
            refine hK21 _ _ ?_
            refine awp_cond rfl (fun ht => ?_) (fun ht => ?_)
            · cases ht
            · refine awp_skip (hK18 _ _ ?_)
              refine awp_s KT_ok hc rfl fun K22 hK22 => ?_
              simp -dsimp -implicitDefEqProofs (disch := first | assumption | omega | (simp [maxLen, avs_len, rols_len] <;> omega) | decide) only [sT_move, sT_assign, sT_bin, sT_nil, oK_some, q_o, binF_v, v_add, ↓reduceIte, q_b, q_f, Nat.reduceEqDiff]
              refine hK22 _ _ ⟨_, _, _, ?_, ⟨k + 1, hkl, rfl, rfl, rfl⟩, ?_⟩
              · first | omega | (simp only [List.length_cons]; omega) | (dsimp only; omega)
              · refine Rt.trans (Rt.gc (keep := [0,1]) (by decide) (by simp [])) ?_
                refine Rt.end (less_cons (less_cons (less_cons (less_cons (less_cons (less_nil _) rfl) rfl) rfl) rfl) rfl) ?_
                first | rfl | (simp only [intsD, boolsD, bytesD, intssD, bytessD, gcH, gcO, gcVs_avs, gcVs, gcV, gcV_d, fzH, fzO, fzVs_avs, fzVs, fzV, posN, avs_nil, avs_cons, List.map_cons, List.map_nil, List.getD_cons_zero, List.getD_cons_succ, ↓reduceIte, Nat.reduceEqDiff, Option.map_some, List.set_cons_zero, List.set_cons_succ, takeD_avs, takeD_all, Nat.mul_one, List.length_map, List.cons_append, List.nil_append, gotC, rwD, bytesD, spsD, spD, spC, rol_row, planD, rolD, rolC, repD, repC, gotD, List.cons_append, List.nil_append, bne_self_eq_false, beq_self_eq_true, Bool.bne_true, Bool.bne_false, Bool.true_bne, Bool.false_bne, Bool.not_true, Bool.not_false]; first | done | rfl)
          · refine awp_exit (hK14 _ _ ?_)
            refine awp_seq_s KT_ok hc rfl fun K23 hK23 => ?_
            simp -dsimp -implicitDefEqProofs (disch := first | assumption | omega | (simp [maxLen, avs_len, rols_len] <;> omega) | decide) only [sT_move, sT_assign, sT_nil, ↓reduceIte, q_b, q_f, Nat.reduceEqDiff]
            refine hK23 _ _ ?_
            refine awp_ret ?_
            show closeA _ _ = _
            simp (disch := first | assumption | omega | (simp [maxLen, avs_len, rols_len] <;> omega) | decide) only [closeA, retV, deep_d, Nat.reduceAdd, Nat.zero_add, D.fix, frL_get, ↓reduceIte, Option.map_some, List.length_cons, List.length_nil]
        refine awp_seq_s KT_ok hc rfl fun K24 hK24 => ?_
        simp -dsimp -implicitDefEqProofs (disch := first | assumption | omega | (simp [maxLen, avs_len, rols_len] <;> omega) | decide) only [sT_load, sT_call0, oK_some, q_o, loadF, ↓reduceIte, q_b, ifp, q_f, q_s, q_l, q_n, Nat.reduceEqDiff, takeD_all, Nat.reduceAdd, sz_29, ag_29]
        refine kc_by (show PCalls Try.prog 13 [rolD z] (.d (.val (.bool bz))) from hbz ▸ validp_c z hzs) rfl ?_
        simp -dsimp -implicitDefEqProofs (disch := first | assumption | omega | (simp [maxLen, avs_len, rols_len] <;> omega) | decide) only [sT_nil, q_f]
        refine hK24 _ _ ?_
        refine awp_cond rfl (fun ht => ?_) (fun ht => ?_)
        · have hzv : VR z := vr_iff.1 (hbz.trans ht)
          refine awp_s KT_ok hc rfl fun K25 hK25 => ?_
          simp -dsimp -implicitDefEqProofs (disch := first | assumption | omega | (simp [maxLen, avs_len, rols_len] <;> omega) | decide) only [sT_move, sT_assign, sT_load, sT_bs, sT_app, deadH, sT_nil, oK_some, q_o, loadF, layF, srcF, ↓reduceIte, q_b, ifp, ifn, q_f, q_s, q_l, List.append_nil, List.replicate_zero, List.replicate_succ, reps_def, q_a, fill_cons, AV.one, D.one, Value.oneCell', q_n, Nat.reduceEqDiff, takeD_all, List.drop_zero, Nat.reduceAdd, deadH, Nat.zero_mul, Nat.reduceMul, List.flatten_cons, List.flatten_nil, sz_29, ag_29, mk_42]
          refine hK25 _ _ (hJ13 _ _ ⟨_, _, [r, z], ⟨by simp, fun q hq => by rcases List.mem_cons.1 hq with rfl | hq; exact hvr; rw [List.mem_singleton.1 hq]; exact hzv⟩, rfl, rfl, ?_⟩)
          refine Rt.trans (Rt.fz (id := 7) (l := (rolC r ++ rolC z)) rfl) ?_
          refine Rt.trans (Rt.slot 10 (fzV_os (takeD_all (by first | rfl | simp)))) ?_
          refine Rt.trans (Rt.gc (keep := [0,2]) (by decide) (by simp [fzH])) ?_
          refine Rt.end (less_cons (less_cons (less_cons (less_cons (less_nil _) rfl) rfl) rfl) rfl) ?_
          first | rfl | (simp only [intsD, boolsD, bytesD, intssD, bytessD, gcH, gcO, gcVs_avs, gcVs, gcV, gcV_d, fzH, fzO, fzVs_avs, fzVs, fzV, posN, avs_nil, avs_cons, List.map_cons, List.map_nil, List.getD_cons_zero, List.getD_cons_succ, ↓reduceIte, Nat.reduceEqDiff, Option.map_some, List.set_cons_zero, List.set_cons_succ, takeD_avs, takeD_all, Nat.mul_one, List.length_map, List.cons_append, List.nil_append, gotC, rwD, bytesD, spsD, spD, spC, rol_row, planD, rolD, rolC, repD, repC, gotD, List.cons_append, List.nil_append, bne_self_eq_false, beq_self_eq_true, Bool.bne_true, Bool.bne_false, Bool.true_bne, Bool.false_bne, Bool.not_true, Bool.not_false]; first | done | rfl)
        · refine awp_skip (hJ13 _ _ ⟨_, _, [r], ⟨by simp, fun q hq => by rw [List.mem_singleton.1 hq]; exact hvr⟩, rfl, rfl, ?_⟩)
          refine Rt.trans (Rt.fz (id := 5) (l := (rolC r)) rfl) ?_
          refine Rt.trans (Rt.slot 10 (fzV_os (takeD_all (by first | rfl | simp)))) ?_
          refine Rt.trans (Rt.gc (keep := [0,2]) (by decide) (by simp [fzH])) ?_
          refine Rt.end (less_cons (less_cons (less_cons (less_cons (less_nil _) rfl) rfl) rfl) rfl) ?_
          first | rfl | (simp only [intsD, boolsD, bytesD, intssD, bytessD, gcH, gcO, gcVs_avs, gcVs, gcV, gcV_d, fzH, fzO, fzVs_avs, fzVs, fzV, posN, avs_nil, avs_cons, List.map_cons, List.map_nil, List.getD_cons_zero, List.getD_cons_succ, ↓reduceIte, Nat.reduceEqDiff, Option.map_some, List.set_cons_zero, List.set_cons_succ, takeD_avs, takeD_all, Nat.mul_one, List.length_map, List.cons_append, List.nil_append, gotC, rwD, bytesD, spsD, spD, spC, rol_row, planD, rolD, rolC, repD, repC, gotD, List.cons_append, List.nil_append, bne_self_eq_false, beq_self_eq_true, Bool.bne_true, Bool.bne_false, Bool.true_bne, Bool.false_bne, Bool.not_true, Bool.not_false]; first | done | rfl)
end Go.Proofs.Ytinefghmmbggeaa
