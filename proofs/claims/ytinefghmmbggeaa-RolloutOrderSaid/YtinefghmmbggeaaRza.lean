/- The law RolloutOrder. -/
import Derived.Test.YtinefghmmbggeaaQ
import Derived.Test.YtinefghmmbggeaaRt
set_option linter.unusedVariables false
set_option linter.unusedSimpArgs false
namespace Go.Proofs.Ytinefghmmbggeaa
open Go Go.RowKit
/-- The chips done have sent a good report, unless the rollout is turned back. -/
def OrdP (r : Rol) (pv : List Int) : Prop := r.st = 2 ∨ r.st = 4 ∨ ∀ c ∈ r.dn, c ∈ pv
theorem OrdP.mono {r : Rol} {pv pv' : List Int} (h : OrdP r pv) (hs : ∀ c ∈ pv, c ∈ pv') : OrdP r pv' := by
  rcases h with h | h | h
  · exact .inl h
  · exact .inr (.inl h)
  · exact .inr (.inr fun c hc => hs c (h c hc))
theorem OrdP.pick {r : Rol} {pv : List Int} {g : Rol × Int} (h : OrdP r pv) (hg : g.2 = 0 → OrdP g.1 pv) : OrdP (pickR r g) pv := by
  unfold pickR
  split
  · rename_i e; exact hg e
  · exact h
theorem OrdP.resume {r : Rol} {pv : List Int} (h : OrdP r pv) : OrdP (pickR r (resumeG r)) pv := h.pick fun e => by
  unfold resumeG at *
  split at e
  · rename_i h1
    rw [if_pos h1]
    rcases h with h | h | h
    · omega
    · omega
    · exact .inr (.inr h)
  · cases e
theorem OrdP.back {r : Rol} {pv : List Int} (h : OrdP r pv) : OrdP (pickR r (backG r)) pv := h.pick fun e => by
  unfold backG at *
  split at e
  · cases e
  · rename_i h1
    rw [if_neg h1]; exact .inl rfl
def goodP (r : Rol) (p : Rep) : Prop := p.no = r.to ∧ p.runs = true ∧ p.same = true ∧ r.slk ≤ p.slk
theorem OrdP.see {r : Rol} (hv : VR r) {pv : List Int} (h : OrdP r pv) {p : Rep} {pv' : List Int} (hs : ∀ c ∈ pv, c ∈ pv') (hg : goodP r p → p.chip ∈ pv') : OrdP (pickR r (seeG r p)) pv' := (h.mono hs).pick fun e => by
  have hk := see_err.1 e
  rw [see_comp hv.inc] at *
  unfold seeC at *
  rw [if_neg hk]
  split
  · rename_i h0
    have h' : ∀ c ∈ r.dn, c ∈ pv' := by
      rcases h with h | h | h
      · omega
      · omega
      · exact fun c hc => hs c (h c hc)
    refine .inr (.inr ?_)
    show ∀ c ∈ (activeC r p).dn, c ∈ pv'
    unfold activeC
    split
    · split <;> exact h'
    · rename_i hn
      split
      · exact h'
      · rename_i hb
        simp only [not_or] at hb
        have hin : ∀ c ∈ insL p.chip r.dn, c ∈ pv' := fun c hc => by
          rcases mem_ins.1 hc with rfl | hc
          · refine hg ⟨by omega, by simpa using hb.1, by simpa using hb.2.1, by omega⟩
          · exact h' c hc
        split
        · split <;> exact hin
        · exact hin
  · split
    · rename_i h2
      show OrdP (turnedC r p) pv'
      unfold turnedC
      split
      · exact .inl h2
      · split
        · exact .inr (.inl rfl)
        · exact .inl h2
    · exact h.mono hs
theorem wave_pos {r : Rol} (h : VR r) (h0 : r.st = 0) {c : Int} (hc : c ∈ readyG r) : waveI c r.wv = r.pos := by
  obtain ⟨a, b, _⟩ := h.act (.inl h0)
  have hn := (ready_nth h h0 hc).1
  have h1 := wave_lt h.w.nd rfl (mem_ready.1 hc).2.1
  obtain ⟨k, k1, k2, k3⟩ := wave_spec h1.1
  have := wave_one h.w.nd k2 (by omega) k3 hn
  omega
theorem OrdP.ahead {r : Rol} (hv : VR r) (h0 : r.st = 0) {pv : List Int} (h : OrdP r pv) : ∀ c ∈ srtL (uptoL r r.pos), c ∈ pv := fun c hc => by
  obtain ⟨_, _, _, _, e⟩ := hv.act (.inl h0)
  rcases h with h | h | h
  · omega
  · omega
  · exact h c (e c (mem_srt.1 hc))
theorem upto_l64 {r : Rol} (h : VR r) (n : Int) : (srtL (uptoL r n)).length ≤ 64 :=
  pigeon ((inc_srt _).imp fun h e => by omega) fun x hx => h.w.chip x (flat_sub (mem_srt.1 hx))
set_option maxRecDepth 100000 in
set_option linter.unusedVariables false in
set_option maxHeartbeats 4000000 in
theorem order_law (x : Rw) (hx : RwOk x) : PCalls Try.prog 4 [rwD x] (.d (.val (.bool true))) := by
  refine pcalls_of0 (fn := Try.f4) (by kernel_rfl) Try.func4 rfl (Nat.le_of_ble_eq_true rfl) fun c hc hp => ?_
  refine awp_less (τ' := frL [(0, .d (rwD x))]) (less_cons (less_nil _) rfl) ?_
  have hs0 := startR_ok hx
  refine awp_seq_s KT_ok hc rfl fun K1 hK1 => ?_
  simp -dsimp -implicitDefEqProofs (disch := first | assumption | omega | (simp [maxLen, avs_len, sps_len] <;> omega) | decide) only [sT_assign, sT_box, deadH, sT_nil, oK_some, q_o, layF, ↓reduceIte, q_b, q_f, q_s, q_l, as_dagg, D.one, Value.oneCell', bD, bytesD, deadH, rwD, bytesD, spsD]
  refine hK1 _ _ ?_
  refine awp_seq_s KT_ok hc rfl fun K2 hK2 => ?_
  simp -dsimp -implicitDefEqProofs (disch := first | assumption | omega | (simp [maxLen, avs_len, sps_len] <;> omega) | decide) only [sT_call0, q_f, q_s, q_l, q_n]
  refine kc_by (examples_c) rfl ?_
  simp -dsimp -implicitDefEqProofs (disch := first | assumption | omega | (simp [maxLen, avs_len, sps_len] <;> omega) | decide) only [sT_assign, sT_nil, ↓reduceIte, q_b, q_f]
  refine hK2 _ _ ?_
  refine awp_seq_k fun K3 hK3 => ?_
  refine awp_seq_s KT_ok hc rfl fun K4 hK4 => ?_
  simp -dsimp -implicitDefEqProofs (disch := first | assumption | omega | (simp [maxLen, avs_len, sps_len] <;> omega) | decide) only [sT_move, sT_un, sT_nil, oK_some, u_not, ↓reduceIte, q_b, q_f]
  refine hK4 _ _ ?_
  refine awp_cond rfl (fun ht => ?_) (fun ht => ?_)
  · cases ht
  · refine awp_skip (hK3 _ _ ?_)
    refine awp_seq_s KT_ok hc rfl fun K5 hK5 => ?_
    simp -dsimp -implicitDefEqProofs (disch := first | assumption | omega | (simp [maxLen, avs_len, sps_len] <;> omega) | decide) only [sT_load, sT_call0, oK_some, q_o, loadF, ↓reduceIte, q_b, ifp, q_f, q_s, q_l, q_n, Nat.reduceEqDiff, takeD_all, sz_25, ag_25]
    refine kc_by (start_c x hx) rfl ?_
    simp -dsimp -implicitDefEqProofs (disch := first | assumption | omega | (simp [maxLen, avs_len, sps_len] <;> omega) | decide) only [sT_alloc, sT_store, deadH, sT_nil, oK_some, q_o, layF, storeF, ↓reduceIte, q_b, ifp, q_f, q_s, q_l, as_dagg, q_a, D.one, Value.oneCell', q_n, Nat.reduceEqDiff, map_d, avs_nil, avs_cons, iD, intsD, intssD, Nat.reduceAdd, deadH, rolD, rolC, sz_29, za_29]
    refine hK5 _ _ ?_
    refine awp_seq_s KT_ok hc rfl fun K6 hK6 => ?_
    simp -dsimp -implicitDefEqProofs (disch := first | assumption | omega | (simp [maxLen, avs_len, sps_len] <;> omega) | decide) only [sT_assign, sT_bs, deadH, sT_nil, oK_some, q_o, layF, ↓reduceIte, q_b, ifp, q_f, q_s, q_l, List.replicate_zero, reps_def, q_a, q_n, Nat.reduceAdd, deadH, mk_27]
    refine hK6 _ _ ?_
    refine awp_seq_k fun K7 hK7 => ?_
    refine awp_seq_s KT_ok hc rfl fun K8 hK8 => ?_
    simp -dsimp -implicitDefEqProofs (disch := first | assumption | omega | (simp [maxLen, avs_len, sps_len] <;> omega) | decide) only [sT_assign, sT_nil, q_f]
    refine hK8 _ _ ?_
    refine awp_block ?_
    refine awp_loop_rt hp (fun τ' H' mm => ∃ (k : Nat) (pv : List Int), (k ≤ x.steps.length ∧ k ≤ 24 ∧ OrdP (madeK x k) pv ∧ pv.length ≤ k) ∧ mm = 100 - k ∧ H' = [.cells [.d (bytesD x.ws), .d (bD x.slk), .d (spsD x.steps)], .cells (avs (rolC (madeK x k))), .cells (avs (pv.map iD))] ∧ τ' = frL [(1, .op 0 0), (3, .d (.val (.bool true))), (4, .op 1 0), (5, .os 1 2 0 pv.length), (6, .d (iD k))]) (100) ?_ ⟨0, [], ⟨Nat.zero_le _, Nat.zero_le _, .inr (.inr fun c hc => (by cases hc)), Nat.le_refl _⟩, rfl, rfl, rfl⟩ ?_
    · refine Rt.end (less_cons (less_cons (less_cons (less_cons (less_cons (less_nil _) rfl) rfl) rfl) rfl) rfl) ?_
      rfl
    rintro τ' H' mm ⟨k, pv, ⟨hk, hk2, hpo, hpl⟩, rfl, rfl, rfl⟩
    refine awp_seq_k fun K9 hK9 => ?_
    obtain ⟨r, hr⟩ : ∃ r, madeK x k = r := ⟨_, rfl⟩
    have hv : VR r := hr ▸ madeK_ok hx k
    rw [hr] at hpo ⊢
    have hrl := ready_len hv
    refine awp_seq_s KT_ok hc rfl fun K10 hK10 => ?_
    simp -dsimp -implicitDefEqProofs (disch := first | assumption | omega | (simp [maxLen, avs_len, sps_len] <;> omega) | decide) only [sT_move, sT_pick, sT_load, sT_fa, sT_bin, sT_len, sT_nil, sT_g, oK_some, q_o, loadF, fieldAddrF, binF_v, lenF, builtinF, v_leq, ↓reduceIte, q_b, ifp, guardA_some, guardV_t, q_f, q_s, q_l, q_n, Nat.reduceEqDiff, avs_nil, avs_cons, iD, bD, intsD, bytesD, intssD, Nat.reduceAdd, bytesD, spsD, rolC, dec_t, gK_tt, fo_25_2, sz_23, ag_23, eo_23]
    refine hK10 _ _ ?_
    refine awp_cond rfl (fun ht => ?_) (fun ht => ?_)
    · refine awp_skip (hK9 _ _ ?_)
      refine awp_seq_k fun K11 hK11 => ?_
      refine awp_block ?_
      refine awp_seq_k fun K12 hK12 => ?_
      refine awp_seq_s KT_ok hc rfl fun K13 hK13 => ?_
      simp -dsimp -implicitDefEqProofs (disch := first | assumption | omega | (simp [maxLen, avs_len, sps_len] <;> omega) | decide) only [sT_load, sT_call0, oK_some, q_o, loadF, ↓reduceIte, q_b, ifp, q_f, q_s, q_l, q_n, Nat.reduceEqDiff, takeD_all, Nat.reduceAdd, sz_29, ag_29]
      refine kc_by (valid_v hv) rfl ?_
      simp -dsimp -implicitDefEqProofs (disch := first | assumption | omega | (simp [maxLen, avs_len, sps_len] <;> omega) | decide) only [sT_move, sT_load, sT_un, sT_call0, sT_g, oK_some, q_o, loadF, u_not, ↓reduceIte, q_b, ifp, guardA_some, guardV_f, q_f, q_s, q_l, q_n, Nat.reduceEqDiff, takeD_all, Nat.reduceAdd, nb_t, nb_f, gK_tt, sz_29, ag_29]
      refine kc_by (validp_v hv) rfl ?_
      simp -dsimp -implicitDefEqProofs (disch := first | assumption | omega | (simp [maxLen, avs_len, sps_len] <;> omega) | decide) only [sT_pick, sT_un, sT_nil, sT_g, oK_some, q_o, u_not, ↓reduceIte, q_b, guardA_some, guardV_f, q_f, q_l, Nat.reduceEqDiff, nb_t, nb_f, gK_tt]
      refine hK13 _ _ ?_
      refine awp_cond rfl (fun ht => ?_) (fun ht => ?_)
      · cases ht
      · refine awp_skip (hK12 _ _ ?_)
        refine awp_seq_s KT_ok hc rfl fun K14 hK14 => ?_
        simp -dsimp -implicitDefEqProofs (disch := first | assumption | omega | (simp [maxLen, avs_len, sps_len] <;> omega) | decide) only [sT_load, sT_call0, oK_some, q_o, loadF, ↓reduceIte, q_b, ifp, q_f, q_s, q_l, q_n, Nat.reduceEqDiff, takeD_all, Nat.reduceAdd, sz_29, ag_29]
        refine kc_by (ready_v hv) rfl ?_
        simp -dsimp -implicitDefEqProofs (disch := first | assumption | omega | (simp [maxLen, avs_len, sps_len] <;> omega) | decide) only [sT_assign, sT_nil, ↓reduceIte, q_b, q_f, intsD]
        refine hK14 _ _ ?_
        refine awp_seq_k fun K15 hK15 => ?_
        have hJ15 : ∀ τ' H', (∃ τ1 H1, H1 = [.cells [.d (bytesD x.ws), .d (bD x.slk), .d (spsD x.steps)], .cells (avs (rolC r)), .cells (avs (pv.map iD))] ∧ τ1 = frL [(1, .op 0 0), (3, .d (.val (.bool true))), (4, .op 1 0), (5, .os 1 2 0 pv.length), (6, .d (iD k))] ∧ Rt τ' H' τ1 H1) → K15 τ' H' := by
          rintro τ' H' ⟨_, _, rfl, rfl, hrt⟩
          refine hK15 _ _ (awp_rt hp hrt ?_)
          clear hrt
          refine awp_seq_k fun K16 hK16 => ?_
          refine awp_seq_s KT_ok hc rfl fun K17 hK17 => ?_
          rcases (show k = x.steps.length ∨ (k < x.steps.length ∧ k = 24) ∨ (k < x.steps.length ∧ k < 24) from by omega) with k1 | ⟨k1, k2⟩ | ⟨k1, k2⟩
          · simp -dsimp -implicitDefEqProofs (disch := first | assumption | omega | (simp [maxLen, avs_len, sps_len] <;> omega) | decide) only [sT_move, sT_pick, sT_load, sT_fa, sT_bin, sT_len, sT_nil, sT_g, oK_some, q_o, loadF, fieldAddrF, binF_v, lenF, builtinF, v_eql, ↓reduceIte, q_b, ifp, guardA_some, guardV_f, q_f, q_s, q_l, q_n, Nat.reduceEqDiff, avs_nil, avs_cons, iD, bD, intsD, bytesD, intssD, Nat.reduceAdd, bytesD, spsD, rolC, beq_t, nb_f, gK_ff, fo_25_2, sz_23, ag_23, eo_23]
            refine hK17 _ _ ?_
            refine awp_cond rfl (fun ht => ?_) (fun ht => ?_)
            · refine awp_seq_s KT_ok hc rfl fun K18 hK18 => ?_
              simp -dsimp -implicitDefEqProofs (disch := first | assumption | omega | (simp [maxLen, avs_len, sps_len] <;> omega) | decide) only [sT_move, sT_assign, sT_nil, ↓reduceIte, q_b, q_f, Nat.reduceEqDiff]
              refine hK18 _ _ ?_
              refine awp_ret ?_
              show closeA _ _ = _
              simp (disch := first | assumption | omega | (simp [maxLen, avs_len, sps_len] <;> omega) | decide) only [closeA, retV, deep_d, Nat.reduceAdd, Nat.zero_add, D.fix, frL_get, ↓reduceIte, Option.map_some, List.length_cons, List.length_nil]
            · cases ht
          · simp -dsimp -implicitDefEqProofs (disch := first | assumption | omega | (simp [maxLen, avs_len, sps_len] <;> omega) | decide) only [sT_move, sT_pick, sT_load, sT_fa, sT_bin, sT_len, sT_nil, sT_g, oK_some, q_o, loadF, fieldAddrF, binF_v, lenF, builtinF, v_eql, ↓reduceIte, q_b, ifp, guardA_some, guardV_f, q_f, q_s, q_l, q_n, Nat.reduceEqDiff, avs_nil, avs_cons, iD, bD, intsD, bytesD, intssD, Nat.reduceAdd, bytesD, spsD, rolC, beq_t, beq_f, nb_t, gK_tt, fo_25_2, sz_23, ag_23, eo_23]
            refine hK17 _ _ ?_
            refine awp_cond rfl (fun ht => ?_) (fun ht => ?_)
            · refine awp_seq_s KT_ok hc rfl fun K19 hK19 => ?_
              simp -dsimp -implicitDefEqProofs (disch := first | assumption | omega | (simp [maxLen, avs_len, sps_len] <;> omega) | decide) only [sT_move, sT_assign, sT_nil, ↓reduceIte, q_b, q_f, Nat.reduceEqDiff]
              refine hK19 _ _ ?_
              refine awp_ret ?_
              show closeA _ _ = _
              simp (disch := first | assumption | omega | (simp [maxLen, avs_len, sps_len] <;> omega) | decide) only [closeA, retV, deep_d, Nat.reduceAdd, Nat.zero_add, D.fix, frL_get, ↓reduceIte, Option.map_some, List.length_cons, List.length_nil]
            · cases ht
          · have hstp := madeK_step k1
            rw [hr] at hstp
            obtain ⟨s, hs⟩ : ∃ s, nth x.steps k = s := ⟨_, rfl⟩
            have hsp : SpOk s := hs ▸ hx.st _ (nth_mem k1)
            rw [hs] at hstp
            have s0 := hsp.k.1
            have s1 := hsp.k.2
            obtain ⟨p, hpr⟩ : ∃ p, reportR r s = p := ⟨_, rfl⟩
            have hpi : I64 p.chip := hpr ▸ rep_i64 hv hsp
            simp -dsimp -implicitDefEqProofs (disch := first | assumption | omega | (simp [maxLen, avs_len, sps_len] <;> omega) | decide) only [sT_move, sT_pick, sT_load, sT_fa, sT_bin, sT_len, sT_nil, sT_g, oK_some, q_o, loadF, fieldAddrF, binF_v, lenF, builtinF, v_eql, ↓reduceIte, q_b, ifp, guardA_some, guardV_f, q_f, q_s, q_l, q_n, Nat.reduceEqDiff, avs_nil, avs_cons, iD, bD, intsD, bytesD, intssD, Nat.reduceAdd, bytesD, spsD, rolC, beq_f, nb_t, gK_tt, fo_25_2, sz_23, ag_23, eo_23]
            refine hK17 _ _ ?_
            refine awp_cond rfl (fun ht => ?_) (fun ht => ?_)
            · cases ht
            · refine awp_skip (hK16 _ _ ?_)
              refine awp_seq_s KT_ok hc rfl fun K20 hK20 => ?_
              simp -dsimp -implicitDefEqProofs (disch := first | assumption | omega | (simp [maxLen, avs_len, sps_len] <;> omega) | decide) only [sT_move, sT_load, sT_fa, sT_ia, sT_alloc, sT_store, deadH, sT_nil, oK_some, q_o, loadF, fieldAddrF, ixO, indexAddrF, layF, storeF, ↓reduceIte, q_b, ifp, q_f, q_s, q_l, as_dagg, q_a, D.one, Value.oneCell', Int.toNat_natCast, q_n, Nat.reduceEqDiff, map_d, avs_nil, avs_cons, bD, oD, Nat.reduceAdd, deadH, spC, sp_row, hs, fo_25_2, sz_23, ag_23, eo_23, sz_45, ag_45, za_45]
              refine hK20 _ _ ?_
              refine awp_seq_s KT_ok hc rfl fun K21 hK21 => ?_
              simp -dsimp -implicitDefEqProofs (disch := first | assumption | omega | (simp [maxLen, avs_len, sps_len] <;> omega) | decide) only [sT_load, sT_build, sT_alloc, sT_store, deadH, sT_nil, oK_some, q_o, loadF, buildF, layF, storeF, ↓reduceIte, q_b, ifp, ifn, q_f, q_s, q_l, q_a, fill_cons, AV.one, D.one, Value.oneCell', q_n, Nat.reduceEqDiff, map_d, avs_nil, avs_cons, takeD_all, Nat.reduceAdd, deadH, sz_29, ag_29, pa_40, pl_40_0, sz_40, za_40, zc_40]
              refine hK21 _ _ ?_
              refine awp_seq_k fun K22 hK22 => ?_
              have hJ22 : ∀ τ' H', (∃ τ1 H1, ∃ (g : Rol × Int) (pv' : List Int), (pickR r g = madeK x (k + 1) ∧ OrdP (madeK x (k + 1)) pv' ∧ pv'.length ≤ k + 1) ∧ H1 = [.cells [.d (bytesD x.ws), .d (bD x.slk), .d (spsD x.steps)], .cells (avs (rolC r)), .cells (avs (pv'.map iD)), .cells (avs (gotC g))] ∧ τ1 = frL [(1, .op 0 0), (3, .d (.val (.bool true))), (4, .op 1 0), (5, .os 1 2 0 pv'.length), (6, .d (iD k)), (13, .op 3 0)] ∧ Rt τ' H' τ1 H1) → K22 τ' H' := by
                rintro τ' H' ⟨_, _, g, pv', ⟨hgk, hpo', hpl'⟩, rfl, rfl, hrt⟩
                refine hK22 _ _ (awp_rt hp hrt ?_)
                clear hrt
                refine awp_seq_s KT_ok hc rfl fun K23 hK23 => ?_
                simp -dsimp -implicitDefEqProofs (disch := first | assumption | omega | (simp [maxLen, avs_len, sps_len] <;> omega) | decide) only [sT_load, sT_fa, sT_bin, sT_nil, oK_some, q_o, loadF, fieldAddrF, binF_v, v_eql, ↓reduceIte, q_b, ifp, q_f, q_l, q_n, Nat.reduceEqDiff, avs_nil, avs_cons, iD, bD, intsD, bytesD, intssD, Nat.reduceAdd, gotC, bytesD, spsD, rolC, fo_40_1, sz_38, ag_38]
                refine hK23 _ _ ?_
                refine awp_cond rfl (fun ht => ?_) (fun ht => ?_)
                · have hx2 : madeK x (k + 1) = g.1 := by rw [← hgk]; unfold pickR; rw [if_pos (by simpa using ht)]
                  refine awp_s KT_ok hc rfl fun K24 hK24 => ?_
                  simp -dsimp -implicitDefEqProofs (disch := first | assumption | omega | (simp [maxLen, avs_len, sps_len] <;> omega) | decide) only [sT_load, sT_fa, sT_store, sT_nil, oK_some, q_o, loadF, fieldAddrF, storeF, ↓reduceIte, q_b, ifp, q_f, q_l, q_s, q_a, AV.one, D.one, Value.oneCell', q_n, Nat.reduceEqDiff, takeD_zero, takeD_cs, Nat.reduceAdd, fo_40_0, sz_29, ag_29]
                  refine hK24 _ _ (hK11 _ _ ?_)
                  refine awp_s KT_ok hc rfl fun K25 hK25 => ?_
                  simp -dsimp -implicitDefEqProofs (disch := first | assumption | omega | (simp [maxLen, avs_len, sps_len] <;> omega) | decide) only [sT_move, sT_assign, sT_bin, sT_nil, oK_some, q_o, binF_v, v_add, ↓reduceIte, q_b, q_f, Nat.reduceEqDiff]
                  refine hK25 _ _ ⟨_, _, _, ?_, ⟨k + 1, pv', ⟨by omega, by omega, hpo', hpl'⟩, rfl, rfl, rfl⟩, ?_⟩
                  · first | omega | (simp only [List.length_cons]; omega) | (dsimp only; omega)
                  · refine Rt.trans (Rt.gc (keep := [0,1,2]) (by decide) (by simp [])) ?_
                    refine Rt.end (less_cons (less_cons (less_cons (less_cons (less_cons (less_nil _) rfl) rfl) rfl) rfl) rfl) ?_
                    rw [hx2]; simp only [bytesD, gcH, gcO, gcVs_avs, gcVs, gcV, List.map_cons, List.map_nil, List.getD_cons_zero, List.getD_cons_succ]; rfl
                · have hx2 : madeK x (k + 1) = r := by rw [← hgk]; unfold pickR; rw [if_neg (by simpa using ht)]
                  refine awp_skip (hK11 _ _ ?_)
                  refine awp_s KT_ok hc rfl fun K26 hK26 => ?_
                  simp -dsimp -implicitDefEqProofs (disch := first | assumption | omega | (simp [maxLen, avs_len, sps_len] <;> omega) | decide) only [sT_move, sT_assign, sT_bin, sT_nil, oK_some, q_o, binF_v, v_add, ↓reduceIte, q_b, q_f, Nat.reduceEqDiff]
                  refine hK26 _ _ ⟨_, _, _, ?_, ⟨k + 1, pv', ⟨by omega, by omega, hpo', hpl'⟩, rfl, rfl, rfl⟩, ?_⟩
                  · first | omega | (simp only [List.length_cons]; omega) | (dsimp only; omega)
                  · refine Rt.trans (Rt.gc (keep := [0,1,2]) (by decide) (by simp [])) ?_
                    refine Rt.end (less_cons (less_cons (less_cons (less_cons (less_cons (less_nil _) rfl) rfl) rfl) rfl) rfl) ?_
                    rw [hx2]; simp only [bytesD, gcH, gcO, gcVs_avs, gcVs, gcV, List.map_cons, List.map_nil, List.getD_cons_zero, List.getD_cons_succ]; rfl
              refine awp_seq_s KT_ok hc rfl fun K27 hK27 => ?_
              simp -dsimp -implicitDefEqProofs (disch := first | assumption | omega | (simp [maxLen, avs_len, sps_len] <;> omega) | decide) only [sT_load, sT_fa, sT_bin, sT_nil, oK_some, q_o, loadF, fieldAddrF, binF_v, v_rem, ↓reduceIte, q_b, ifp, q_f, q_l, q_n, Nat.reduceEqDiff, Nat.reduceAdd, fo_45_0, sz_5, ag_5]
              refine hK27 _ _ ?_
              refine awp_block ?_
              refine awp_seq_s KT_ok hc rfl fun K28 hK28 => ?_
              rcases (show s.kind % 8 = 0 ∨ (s.kind % 8 = 1 ∧ s.kind % 3 = 0) ∨ (s.kind % 8 = 1 ∧ s.kind % 3 ≠ 0) ∨ (s.kind % 8 ≠ 0 ∧ s.kind % 8 ≠ 1) from by omega) with g1 | ⟨g1, g2⟩ | ⟨g1, g2⟩ | ⟨g1, g2⟩
              · have hnx : pickR r (resumeG r) = madeK x (k + 1) := by rw [hstp]; simp [nextR, g1]
                have hox : OrdP (madeK x (k + 1)) pv := hnx ▸ hpo.resume
                simp -dsimp -implicitDefEqProofs (disch := first | assumption | omega | (simp [maxLen, avs_len, sps_len] <;> omega) | decide) only [sT_assign, sT_bin, sT_nil, oK_some, q_o, binF_v, v_eql, ↓reduceIte, q_b, q_f, beq_t]
                refine hK28 _ _ ?_
                refine awp_cond rfl (fun ht => ?_) (fun ht => ?_)
                · refine awp_s KT_ok hc rfl fun K29 hK29 => ?_
                  simp -dsimp -implicitDefEqProofs (disch := first | assumption | omega | (simp [maxLen, avs_len, sps_len] <;> omega) | decide) only [sT_load, sT_call0, oK_some, q_o, loadF, ↓reduceIte, q_b, ifp, q_f, q_s, q_l, q_n, Nat.reduceEqDiff, takeD_all, Nat.reduceAdd, sz_29, ag_29]
                  refine kc_by (resume1_c r) rfl ?_
                  simp -dsimp -implicitDefEqProofs (disch := first | assumption | omega | (simp [maxLen, avs_len, sps_len] <;> omega) | decide) only [sT_store, sT_nil, oK_some, storeF, ↓reduceIte, q_b, ifp, q_f, q_s, q_l, as_dagg, q_a, D.one, Value.oneCell', q_n, Nat.reduceEqDiff, iD, intsD, intssD, Nat.reduceAdd, gotD, sz_40]
                  refine hK29 _ _ (hJ22 _ _ ⟨_, _, resumeG r, pv, ⟨hnx, hox, by omega⟩, rfl, rfl, ?_⟩)
                  refine Rt.trans (Rt.gc (keep := [0,1,2,4]) (by decide) (by simp [])) ?_
                  refine Rt.end (less_cons (less_cons (less_cons (less_cons (less_cons (less_cons (less_nil _) rfl) rfl) rfl) rfl) rfl) rfl) ?_
                  first | rfl | (simp only [intsD, bytesD, intssD, gcH, gcO, gcVs_avs, gcVs, gcV, avs_nil, avs_cons, List.map_cons, List.map_nil, List.getD_cons_zero, List.getD_cons_succ, gotC, bytesD, spsD, rolC]; first | done | rfl)
                · cases ht
              · have hnx : pickR r (backG r) = madeK x (k + 1) := by rw [hstp]; simp [nextR, g1, g2]
                have hox : OrdP (madeK x (k + 1)) pv := hnx ▸ hpo.back
                simp -dsimp -implicitDefEqProofs (disch := first | assumption | omega | (simp [maxLen, avs_len, sps_len] <;> omega) | decide) only [sT_assign, sT_bin, sT_nil, oK_some, q_o, binF_v, v_eql, ↓reduceIte, q_b, q_f, beq_f]
                refine hK28 _ _ ?_
                refine awp_cond rfl (fun ht => ?_) (fun ht => ?_)
                · cases ht
                · refine awp_seq_s KT_ok hc rfl fun K30 hK30 => ?_
                  simp -dsimp -implicitDefEqProofs (disch := first | assumption | omega | (simp [maxLen, avs_len, sps_len] <;> omega) | decide) only [sT_assign, sT_bin, sT_nil, oK_some, q_o, binF_v, v_eql, ↓reduceIte, q_b, q_f, Nat.reduceEqDiff, beq_t]
                  refine hK30 _ _ ?_
                  refine awp_cond rfl (fun ht => ?_) (fun ht => ?_)
                  · refine awp_seq_s KT_ok hc rfl fun K31 hK31 => ?_
                    simp -dsimp -implicitDefEqProofs (disch := first | assumption | omega | (simp [maxLen, avs_len, sps_len] <;> omega) | decide) only [sT_load, sT_fa, sT_bin, sT_nil, oK_some, q_o, loadF, fieldAddrF, binF_v, v_rem, v_eql, ↓reduceIte, q_b, ifp, q_f, q_l, q_n, Nat.reduceEqDiff, Nat.reduceAdd, beq_t, fo_45_0, sz_5, ag_5]
                    refine hK31 _ _ ?_
                    refine awp_cond rfl (fun ht => ?_) (fun ht => ?_)
                    · refine awp_s KT_ok hc rfl fun K32 hK32 => ?_
                      simp -dsimp -implicitDefEqProofs (disch := first | assumption | omega | (simp [maxLen, avs_len, sps_len] <;> omega) | decide) only [sT_load, sT_call0, oK_some, q_o, loadF, ↓reduceIte, q_b, ifp, q_f, q_s, q_l, q_n, Nat.reduceEqDiff, takeD_all, Nat.reduceAdd, sz_29, ag_29]
                      refine kc_by (back1_c r hv.short hv.ok) rfl ?_
                      simp -dsimp -implicitDefEqProofs (disch := first | assumption | omega | (simp [maxLen, avs_len, sps_len] <;> omega) | decide) only [sT_store, sT_nil, oK_some, storeF, ↓reduceIte, q_b, ifp, q_f, q_s, q_l, as_dagg, q_a, D.one, Value.oneCell', q_n, Nat.reduceEqDiff, iD, intsD, intssD, Nat.reduceAdd, gotD, sz_40]
                      refine hK32 _ _ (hJ22 _ _ ⟨_, _, backG r, pv, ⟨hnx, hox, by omega⟩, rfl, rfl, ?_⟩)
                      refine Rt.trans (Rt.gc (keep := [0,1,2,4]) (by decide) (by simp [])) ?_
                      refine Rt.end (less_cons (less_cons (less_cons (less_cons (less_cons (less_cons (less_nil _) rfl) rfl) rfl) rfl) rfl) rfl) ?_
                      first | rfl | (simp only [intsD, bytesD, intssD, gcH, gcO, gcVs_avs, gcVs, gcV, avs_nil, avs_cons, List.map_cons, List.map_nil, List.getD_cons_zero, List.getD_cons_succ, gotC, bytesD, spsD, rolC]; first | done | rfl)
                    · cases ht
                  · cases ht
              · have hnx : pickR r (r, 0) = madeK x (k + 1) := by rw [hstp]; simp [nextR, pickR, g1, show 0 < s.kind % 3 by omega]
                have hox : OrdP (madeK x (k + 1)) pv := hnx ▸ hpo.pick fun _ => hpo
                simp -dsimp -implicitDefEqProofs (disch := first | assumption | omega | (simp [maxLen, avs_len, sps_len] <;> omega) | decide) only [sT_assign, sT_bin, sT_nil, oK_some, q_o, binF_v, v_eql, ↓reduceIte, q_b, q_f, beq_f]
                refine hK28 _ _ ?_
                refine awp_cond rfl (fun ht => ?_) (fun ht => ?_)
                · cases ht
                · refine awp_seq_s KT_ok hc rfl fun K33 hK33 => ?_
                  simp -dsimp -implicitDefEqProofs (disch := first | assumption | omega | (simp [maxLen, avs_len, sps_len] <;> omega) | decide) only [sT_assign, sT_bin, sT_nil, oK_some, q_o, binF_v, v_eql, ↓reduceIte, q_b, q_f, Nat.reduceEqDiff, beq_t]
                  refine hK33 _ _ ?_
                  refine awp_cond rfl (fun ht => ?_) (fun ht => ?_)
                  · refine awp_seq_s KT_ok hc rfl fun K34 hK34 => ?_
                    simp -dsimp -implicitDefEqProofs (disch := first | assumption | omega | (simp [maxLen, avs_len, sps_len] <;> omega) | decide) only [sT_load, sT_fa, sT_bin, sT_nil, oK_some, q_o, loadF, fieldAddrF, binF_v, v_rem, v_eql, ↓reduceIte, q_b, ifp, q_f, q_l, q_n, Nat.reduceEqDiff, Nat.reduceAdd, beq_f, fo_45_0, sz_5, ag_5]
                    refine hK34 _ _ ?_
                    refine awp_cond rfl (fun ht => ?_) (fun ht => ?_)
                    · cases ht
                    · refine awp_skip (hJ22 _ _ ⟨_, _, (r, 0), pv, ⟨hnx, hox, by omega⟩, rfl, rfl, ?_⟩)
                      refine Rt.trans (Rt.gc (keep := [0,1,2,4]) (by decide) (by simp [])) ?_
                      refine Rt.end (less_cons (less_cons (less_cons (less_cons (less_cons (less_cons (less_nil _) rfl) rfl) rfl) rfl) rfl) rfl) ?_
                      first | rfl | (simp only [intsD, bytesD, intssD, gcH, gcO, gcVs_avs, gcVs, gcV, avs_nil, avs_cons, List.map_cons, List.map_nil, List.getD_cons_zero, List.getD_cons_succ, gotC, bytesD, spsD, rolC]; first | done | rfl)
                  · cases ht
              · have hnx : pickR r (seeG r p) = madeK x (k + 1) := by rw [hstp]; simp [nextR, g1, g2, hpr]
                obtain ⟨g, hg⟩ : ∃ g, seeG r p = g := ⟨_, rfl⟩
                rw [hg] at hnx
                simp -dsimp -implicitDefEqProofs (disch := first | assumption | omega | (simp [maxLen, avs_len, sps_len] <;> omega) | decide) only [sT_assign, sT_bin, sT_nil, oK_some, q_o, binF_v, v_eql, ↓reduceIte, q_b, q_f, beq_f]
                refine hK28 _ _ ?_
                refine awp_cond rfl (fun ht => ?_) (fun ht => ?_)
                · cases ht
                · refine awp_seq_s KT_ok hc rfl fun K35 hK35 => ?_
                  simp -dsimp -implicitDefEqProofs (disch := first | assumption | omega | (simp [maxLen, avs_len, sps_len] <;> omega) | decide) only [sT_assign, sT_bin, sT_nil, oK_some, q_o, binF_v, v_eql, ↓reduceIte, q_b, q_f, Nat.reduceEqDiff, beq_f]
                  refine hK35 _ _ ?_
                  refine awp_cond rfl (fun ht => ?_) (fun ht => ?_)
                  · cases ht
                  · refine awp_seq_s KT_ok hc rfl fun K36 hK36 => ?_
                    simp -dsimp -implicitDefEqProofs (disch := first | assumption | omega | (simp [maxLen, avs_len, sps_len] <;> omega) | decide) only [sT_load, sT_call0, oK_some, q_o, loadF, ↓reduceIte, q_b, ifp, q_f, q_s, q_l, q_n, Nat.reduceEqDiff, takeD_all, Nat.reduceAdd, sz_29, ag_29, sz_45, ag_45]
                    refine kc_by (show PCalls Try.prog 17 [rolD r, spD s] (.d (repD p)) from hpr ▸ report_c r s hv hsp) rfl ?_
                    simp -dsimp -implicitDefEqProofs (disch := first | assumption | omega | (simp [maxLen, avs_len, sps_len] <;> omega) | decide) only [sT_alloc, sT_store, deadH, sT_nil, oK_some, q_o, layF, storeF, ↓reduceIte, q_b, ifp, q_f, q_s, q_l, as_dagg, q_a, D.one, Value.oneCell', q_n, Nat.reduceEqDiff, map_d, avs_nil, avs_cons, iD, oD, Nat.reduceAdd, deadH, repD, repC, sz_31, za_31]
                    refine hK36 _ _ ?_
                    refine awp_seq_s KT_ok hc rfl fun K37 hK37 => ?_
                    simp -dsimp -implicitDefEqProofs (disch := first | assumption | omega | (simp [maxLen, avs_len, sps_len] <;> omega) | decide) only [sT_load, sT_call0, oK_some, q_o, loadF, ↓reduceIte, q_b, ifp, q_f, q_s, q_l, q_n, Nat.reduceEqDiff, takeD_all, Nat.reduceAdd, sz_29, ag_29, sz_31, ag_31]
                    refine kc_by (see_v hv (p := p) hpi hg) rfl ?_
                    simp -dsimp -implicitDefEqProofs (disch := first | assumption | omega | (simp [maxLen, avs_len, sps_len] <;> omega) | decide) only [sT_store, sT_nil, oK_some, storeF, ↓reduceIte, q_b, ifp, q_f, q_s, q_l, as_dagg, q_a, D.one, Value.oneCell', q_n, Nat.reduceEqDiff, iD, intsD, intssD, Nat.reduceAdd, gotD, sz_40]
                    refine hK37 _ _ ?_
                    refine awp_seq_s KT_ok hc rfl fun K38 hK38 => ?_
                    rcases (show p.no ≠ r.to ∨ (p.no = r.to ∧ p.runs = false) ∨ ((p.no = r.to ∧ p.runs = true) ∧ p.same = false) ∨ ((p.no = r.to ∧ p.runs = true) ∧ p.same = true ∧ ¬ r.slk ≤ p.slk) ∨ ((p.no = r.to ∧ p.runs = true) ∧ p.same = true ∧ r.slk ≤ p.slk) from by cases p.runs <;> cases p.same <;> simp <;> omega) with w1 | ⟨w1, w2⟩ | ⟨⟨w1, w2⟩, w3⟩ | ⟨⟨w1, w2⟩, w3, w4⟩ | ⟨⟨w1, w2⟩, w3, w4⟩
                    · have hox : OrdP (madeK x (k + 1)) pv := by rw [← hnx, ← hg]; exact hpo.see hv (fun c hc => hc) (fun h => absurd h.1 w1)
                      simp -dsimp -implicitDefEqProofs (disch := first | assumption | omega | (simp [maxLen, avs_len, sps_len] <;> omega) | decide) only [sT_move, sT_pick, sT_load, sT_fa, sT_bin, sT_nil, sT_g, oK_some, q_o, loadF, fieldAddrF, binF_v, v_eql, ↓reduceIte, q_b, ifp, guardA_some, guardV_t, q_f, q_l, q_n, Nat.reduceEqDiff, Nat.reduceAdd, beq_f, gK_ff, fo_31_1, sz_3, ag_3, fo_29_1]
                      refine hK38 _ _ ?_
                      refine awp_cond rfl (fun ht => ?_) (fun ht => ?_)
                      · cases ht
                      · refine awp_skip (hJ22 _ _ ⟨_, _, g, pv, ⟨hnx, hox, by omega⟩, rfl, rfl, ?_⟩)
                        refine Rt.trans (Rt.gc (keep := [0,1,2,4]) (by decide) (by simp [])) ?_
                        refine Rt.end (less_cons (less_cons (less_cons (less_cons (less_cons (less_cons (less_nil _) rfl) rfl) rfl) rfl) rfl) rfl) ?_
                        first | rfl | (simp only [intsD, bytesD, intssD, gcH, gcO, gcVs_avs, gcVs, gcV, avs_nil, avs_cons, List.map_cons, List.map_nil, List.getD_cons_zero, List.getD_cons_succ, gotC, bytesD, spsD, rolC]; first | done | rfl)
                    · have hox : OrdP (madeK x (k + 1)) pv := by rw [← hnx, ← hg]; exact hpo.see hv (fun c hc => hc) (fun h => by have h2 := h.2.1; rw [w2] at h2; cases h2)
                      simp -dsimp -implicitDefEqProofs (disch := first | assumption | omega | (simp [maxLen, avs_len, sps_len] <;> omega) | decide) only [sT_move, sT_pick, sT_load, sT_fa, sT_bin, sT_nil, sT_g, oK_some, q_o, loadF, fieldAddrF, binF_v, v_eql, ↓reduceIte, q_b, ifp, guardA_some, guardV_t, q_f, q_l, q_n, Nat.reduceEqDiff, Nat.reduceAdd, beq_t, gK_tt, gK_ff, ifb_f, fo_31_1, sz_3, ag_3, fo_29_1, fo_31_4, sz_4, ag_4]
                      refine hK38 _ _ ?_
                      refine awp_cond rfl (fun ht => ?_) (fun ht => ?_)
                      · cases ht
                      · refine awp_skip (hJ22 _ _ ⟨_, _, g, pv, ⟨hnx, hox, by omega⟩, rfl, rfl, ?_⟩)
                        refine Rt.trans (Rt.gc (keep := [0,1,2,4]) (by decide) (by simp [])) ?_
                        refine Rt.end (less_cons (less_cons (less_cons (less_cons (less_cons (less_cons (less_nil _) rfl) rfl) rfl) rfl) rfl) rfl) ?_
                        first | rfl | (simp only [intsD, bytesD, intssD, gcH, gcO, gcVs_avs, gcVs, gcV, avs_nil, avs_cons, List.map_cons, List.map_nil, List.getD_cons_zero, List.getD_cons_succ, gotC, bytesD, spsD, rolC]; first | done | rfl)
                    · have hox : OrdP (madeK x (k + 1)) pv := by rw [← hnx, ← hg]; exact hpo.see hv (fun c hc => hc) (fun h => by have h2 := h.2.2.1; rw [w3] at h2; cases h2)
                      simp -dsimp -implicitDefEqProofs (disch := first | assumption | omega | (simp [maxLen, avs_len, sps_len] <;> omega) | decide) only [sT_move, sT_pick, sT_load, sT_fa, sT_bin, sT_nil, sT_g, oK_some, q_o, loadF, fieldAddrF, binF_v, v_eql, ↓reduceIte, q_b, ifp, guardA_some, guardV_t, q_f, q_l, q_n, Nat.reduceEqDiff, Nat.reduceAdd, beq_t, gK_tt, gK_ff, ifb_f, fo_31_1, sz_3, ag_3, fo_29_1, fo_31_4, sz_4, ag_4, fo_31_3]
                      refine hK38 _ _ ?_
                      refine awp_cond rfl (fun ht => ?_) (fun ht => ?_)
                      · cases ht
                      · refine awp_skip (hJ22 _ _ ⟨_, _, g, pv, ⟨hnx, hox, by omega⟩, rfl, rfl, ?_⟩)
                        refine Rt.trans (Rt.gc (keep := [0,1,2,4]) (by decide) (by simp [])) ?_
                        refine Rt.end (less_cons (less_cons (less_cons (less_cons (less_cons (less_cons (less_nil _) rfl) rfl) rfl) rfl) rfl) rfl) ?_
                        first | rfl | (simp only [intsD, bytesD, intssD, gcH, gcO, gcVs_avs, gcVs, gcV, avs_nil, avs_cons, List.map_cons, List.map_nil, List.getD_cons_zero, List.getD_cons_succ, gotC, bytesD, spsD, rolC]; first | done | rfl)
                    · have hox : OrdP (madeK x (k + 1)) pv := by rw [← hnx, ← hg]; exact hpo.see hv (fun c hc => hc) (fun h => absurd h.2.2.2 w4)
                      simp -dsimp -implicitDefEqProofs (disch := first | assumption | omega | (simp [maxLen, avs_len, sps_len] <;> omega) | decide) only [sT_move, sT_pick, sT_load, sT_fa, sT_bin, sT_nil, sT_g, oK_some, q_o, loadF, fieldAddrF, binF_v, v_eql, v_geq, ↓reduceIte, q_b, ifp, guardA_some, guardV_t, q_f, q_l, q_n, Nat.reduceEqDiff, Nat.reduceAdd, dec_f, beq_t, gK_tt, fo_31_1, sz_3, ag_3, fo_29_1, fo_31_4, sz_4, ag_4, fo_31_3, fo_31_2, fo_29_3]
                      refine hK38 _ _ ?_
                      refine awp_cond rfl (fun ht => ?_) (fun ht => ?_)
                      · cases ht
                      · refine awp_skip (hJ22 _ _ ⟨_, _, g, pv, ⟨hnx, hox, by omega⟩, rfl, rfl, ?_⟩)
                        refine Rt.trans (Rt.gc (keep := [0,1,2,4]) (by decide) (by simp [])) ?_
                        refine Rt.end (less_cons (less_cons (less_cons (less_cons (less_cons (less_cons (less_nil _) rfl) rfl) rfl) rfl) rfl) rfl) ?_
                        first | rfl | (simp only [intsD, bytesD, intssD, gcH, gcO, gcVs_avs, gcVs, gcV, avs_nil, avs_cons, List.map_cons, List.map_nil, List.getD_cons_zero, List.getD_cons_succ, gotC, bytesD, spsD, rolC]; first | done | rfl)
                    · have hox : OrdP (madeK x (k + 1)) (pv ++ [p.chip]) := by rw [← hnx, ← hg]; exact hpo.see hv (fun c hc => List.mem_append_left _ hc) (fun h => List.mem_append_right _ (List.mem_singleton.2 rfl))
                      simp -dsimp -implicitDefEqProofs (disch := first | assumption | omega | (simp [maxLen, avs_len, sps_len] <;> omega) | decide) only [sT_move, sT_pick, sT_load, sT_fa, sT_bin, sT_nil, sT_g, oK_some, q_o, loadF, fieldAddrF, binF_v, v_eql, v_geq, ↓reduceIte, q_b, ifp, guardA_some, guardV_t, q_f, q_l, q_n, Nat.reduceEqDiff, Nat.reduceAdd, dec_t, beq_t, gK_tt, fo_31_1, sz_3, ag_3, fo_29_1, fo_31_4, sz_4, ag_4, fo_31_3, fo_31_2, fo_29_3]
                      refine hK38 _ _ ?_
                      refine awp_cond rfl (fun ht => ?_) (fun ht => ?_)
                      · refine awp_s KT_ok hc rfl fun K39 hK39 => ?_
                        simp -dsimp -implicitDefEqProofs (disch := first | assumption | omega | (simp [maxLen, avs_len, sps_len] <;> omega) | decide) only [sT_move, sT_assign, sT_load, sT_fa, sT_bs, sT_app, deadH, sT_nil, oK_some, q_o, loadF, fieldAddrF, layF, srcF, ↓reduceIte, q_b, ifp, ifn, q_f, q_s, q_l, List.append_nil, List.replicate_zero, List.replicate_succ, reps_def, q_a, fill_cons, q_n, Nat.reduceEqDiff, avs_len, avs_app1, takeD_all, List.drop_zero, Nat.reduceAdd, deadH, List.length_map, fo_31_0, sz_3, ag_3, mk_27]
                        refine hK39 _ _ (hJ22 _ _ ⟨_, _, g, pv ++ [p.chip], ⟨hnx, hox, by simp; omega⟩, rfl, rfl, ?_⟩)
                        refine Rt.trans (Rt.gc (keep := [0,1,7,4]) (by decide) (by simp [])) ?_
                        refine Rt.end (less_cons (less_cons (less_cons (less_cons (less_cons (less_cons (less_nil _) rfl) rfl) (by first | rfl | (simp [frL, gcV, posN]; done) | simp [Fr.put, frL, gcV, fzV, posN, iD, bD, uD, oD, intsD, boolsD, bytesD, intssD, bytessD, sps_len, *])) rfl) rfl) rfl) ?_
                        simp only [bytesD, gcH, gcO, gcVs_avs, gcVs, gcV, List.map_cons, List.map_nil, List.getD_cons_zero, List.getD_cons_succ, List.map_append]; rfl
                      · cases ht
        refine awp_seq_s KT_ok hc rfl fun K40 hK40 => ?_
        simp -dsimp -implicitDefEqProofs (disch := first | assumption | omega | (simp [maxLen, avs_len, sps_len] <;> omega) | decide) only [sT_assign, sT_nil, q_f]
        refine hK40 _ _ ?_
        refine awp_block ?_
        refine awp_loop_rt hp (fun τ' H' mm => ∃ j, (j ≤ (readyG r).length) ∧ mm = 100 - j ∧ H' = [.cells [.d (bytesD x.ws), .d (bD x.slk), .d (spsD x.steps)], .cells (avs (rolC r)), .cells (avs (pv.map iD))] ∧ τ' = frL [(1, .op 0 0), (3, .d (.val (.bool true))), (4, .op 1 0), (5, .os 1 2 0 pv.length), (6, .d (iD k)), (7, .d (intsD (readyG r))), (8, .d (iD j))]) (100) ?_ ⟨0, Nat.zero_le _, rfl, rfl, rfl⟩ ?_
        · refine Rt.end (less_cons (less_cons (less_cons (less_cons (less_cons (less_cons (less_cons (less_nil _) rfl) rfl) rfl) rfl) rfl) rfl) rfl) ?_
          first | rfl | (simp only [intsD, boolsD, bytesD, intssD, bytessD, gcH, gcO, gcVs_avs, gcVs, gcV, gcV_d, fzH, fzO, fzVs_avs, fzVs, fzV, posN, avs_nil, avs_cons, List.map_cons, List.map_nil, List.getD_cons_zero, List.getD_cons_succ, ↓reduceIte, Nat.reduceEqDiff, Option.map_some, List.set_cons_zero, List.set_cons_succ, takeD_avs, takeD_all, Nat.mul_one, List.length_map, List.cons_append, List.nil_append, gotC, rwD, bytesD, spsD, spD, spC, sp_row, rolD, rolC, repD, repC, gotD, List.cons_append, List.nil_append, bne_self_eq_false, beq_self_eq_true, Bool.bne_true, Bool.bne_false, Bool.true_bne, Bool.false_bne, Bool.not_true, Bool.not_false]; first | done | rfl)
        rintro τ' H' mm ⟨j, hj, rfl, rfl, rfl⟩
        refine awp_seq_k fun K41 hK41 => ?_
        refine awp_seq_s KT_ok hc rfl fun K42 hK42 => ?_
        rcases (show (j < (readyG r).length ∧ r.st = 0) ∨ (j < (readyG r).length ∧ r.st ≠ 0) ∨ ¬ j < (readyG r).length from by omega) with ⟨j1, h0⟩ | ⟨j1, h0⟩ | j1
        · obtain ⟨n, hn⟩ : ∃ n, nth (readyG r) j = n := ⟨_, rfl⟩
          have hnm : n ∈ readyG r := hn ▸ nth_mem j1
          have hwp := wave_pos hv h0 hnm
          have hnd : inB n r.dn = false := by rw [← Bool.not_eq_true, inB_iff]; exact (mem_ready.1 hnm).2.2
          have hdl := hv.dlen
          obtain ⟨A, hA⟩ : ∃ A, srtL (uptoL r r.pos) = A := ⟨_, rfl⟩
          have hAl : A.length ≤ 64 := hA ▸ upto_l64 hv r.pos
          have hAp : ∀ c ∈ A, c ∈ pv := hA ▸ hpo.ahead hv h0
          simp -dsimp -implicitDefEqProofs (disch := first | assumption | omega | (simp [maxLen, avs_len, sps_len] <;> omega) | decide) only [sT_move, sT_pick, sT_load, sT_fa, sT_bin, sT_len, sT_nil, sT_g, oK_some, q_o, loadF, fieldAddrF, binF_v, lenF, builtinF, v_eql, v_lss, ↓reduceIte, q_b, ifp, guardA_some, guardV_t, q_f, q_s, q_l, q_n, Nat.reduceEqDiff, avs_nil, avs_cons, iD, bD, intsD, bytesD, intssD, Nat.reduceAdd, bytesD, spsD, rolC, dec_t, beq_t, gK_tt, eo_27, sz_3, ag_3, fo_29_6]
          refine hK42 _ _ ?_
          refine awp_cond rfl (fun ht => ?_) (fun ht => ?_)
          · refine awp_skip (hK41 _ _ ?_)
            refine awp_seq_k fun K43 hK43 => ?_
            refine awp_block ?_
            refine awp_seq_se KT_ok hc mixed rfl (q := 0) (by kernel_rfl) (by kernel_rfl) fun K44 hK44 => ?_
            simp -dsimp -implicitDefEqProofs (disch := first | assumption | omega | (simp [maxLen, avs_len, sps_len] <;> omega) | decide) only [sE_move, sE_load, sE_ia, sE_call0, oK_some, q_o, loadF, ixO, indexAddrF, ↓reduceIte, q_b, ifp, q_f, q_s, q_l, List.append_nil, List.replicate_zero, Int.toNat_natCast, q_n, Nat.reduceEqDiff, takeD_all, get_map, iD, Nat.reduceAdd, hn, sz_29, ag_29, eo_27, sz_3, ag_3]
            refine kc_by (show PCalls Try.prog 28 [rolD r, iD n] (.d (iD r.pos)) from hwp ▸ wavep_c r n hv.short) rfl ?_
            simp -dsimp -implicitDefEqProofs (disch := first | assumption | omega | (simp [maxLen, avs_len, sps_len] <;> omega) | decide) only [sE_assign, sE_nil, ↓reduceIte, q_b, q_f, killAll, iD, Nat.reduceAdd]
            refine hK44 _ _ ?_
            refine awp_seq_k fun K45 hK45 => ?_
            refine awp_seq_se KT_ok hc mixed rfl (q := 0) (by kernel_rfl) (by kernel_rfl) fun K46 hK46 => ?_
            have hJ46 : ∀ τ' H', (∃ τ1 H1, H1 = [.cells [.d (bytesD x.ws), .d (bD x.slk), .d (spsD x.steps)], .cells (avs (rolC r)), .cells (avs (pv.map iD))] ∧ τ1 = frL [(1, .op 0 0), (3, .d (.val (.bool true))), (4, .op 1 0), (5, .os 1 2 0 pv.length), (6, .d (iD k)), (7, .d (intsD (readyG r))), (8, .d (iD j)), (9, .d (iD r.pos)), (79, .d (.val (.bool false)))] ∧ Rt τ' H' τ1 H1) → K46 τ' H' := by
              rintro τ' H' ⟨_, _, rfl, rfl, hrt⟩
              refine hK46 _ _ (awp_rt hp hrt ?_)
              clear hrt
              refine awp_cond rfl (fun ht => ?_) (fun ht => ?_)
              · cases ht
              · refine awp_skip (hK45 _ _ ?_)
                refine awp_seq_s KT_ok hc rfl fun K47 hK47 => ?_
                simp -dsimp -implicitDefEqProofs (disch := first | assumption | omega | (simp [maxLen, avs_len, sps_len] <;> omega) | decide) only [sT_move, sT_load, sT_call0, oK_some, q_o, loadF, ↓reduceIte, q_b, ifp, q_f, q_s, q_l, q_n, Nat.reduceEqDiff, avs_nil, avs_cons, takeD_all, iD, bD, intsD, bytesD, intssD, Nat.reduceAdd, bytesD, spsD, rolC, sz_29, ag_29]
                refine kc_by (show PCalls Try.prog 30 [rolD r, iD r.pos] (.d (intsD A)) from hA ▸ uptop_c r r.pos hv.short) rfl ?_
                simp -dsimp -implicitDefEqProofs (disch := first | assumption | omega | (simp [maxLen, avs_len, sps_len] <;> omega) | decide) only [sT_assign, sT_nil, ↓reduceIte, q_b, q_f, intsD]
                refine hK47 _ _ ?_
                refine awp_seq_s KT_ok hc rfl fun K48 hK48 => ?_
                simp -dsimp -implicitDefEqProofs (disch := first | assumption | omega | (simp [maxLen, avs_len, sps_len] <;> omega) | decide) only [sT_assign, sT_nil, q_f]
                refine hK48 _ _ ?_
                refine awp_block ?_
                refine awp_loop_rt hp (fun τ' H' mm => ∃ i, (i ≤ A.length) ∧ mm = 100 - i ∧ H' = [.cells [.d (bytesD x.ws), .d (bD x.slk), .d (spsD x.steps)], .cells (avs (rolC r)), .cells (avs (pv.map iD))] ∧ τ' = frL [(1, .op 0 0), (3, .d (.val (.bool true))), (4, .op 1 0), (5, .os 1 2 0 pv.length), (6, .d (iD k)), (7, .d (intsD (readyG r))), (8, .d (iD j)), (10, .d (intsD A)), (11, .d (iD i))]) (100) ?_ ⟨0, Nat.zero_le _, rfl, rfl, rfl⟩ ?_
                · refine Rt.end (less_cons (less_cons (less_cons (less_cons (less_cons (less_cons (less_cons (less_cons (less_cons (less_nil _) rfl) rfl) rfl) rfl) rfl) rfl) rfl) rfl) rfl) ?_
                  first | rfl | (simp only [intsD, boolsD, bytesD, intssD, bytessD, gcH, gcO, gcVs_avs, gcVs, gcV, gcV_d, fzH, fzO, fzVs_avs, fzVs, fzV, posN, avs_nil, avs_cons, List.map_cons, List.map_nil, List.getD_cons_zero, List.getD_cons_succ, ↓reduceIte, Nat.reduceEqDiff, Option.map_some, List.set_cons_zero, List.set_cons_succ, takeD_avs, takeD_all, Nat.mul_one, List.length_map, List.cons_append, List.nil_append, gotC, rwD, bytesD, spsD, spD, spC, sp_row, rolD, rolC, repD, repC, gotD, List.cons_append, List.nil_append, bne_self_eq_false, beq_self_eq_true, Bool.bne_true, Bool.bne_false, Bool.true_bne, Bool.false_bne, Bool.not_true, Bool.not_false]; first | done | rfl)
                rintro τ' H' mm ⟨i, hi, rfl, rfl, rfl⟩
                refine awp_seq_k fun K49 hK49 => ?_
                refine awp_seq_s KT_ok hc rfl fun K50 hK50 => ?_
                simp -dsimp -implicitDefEqProofs (disch := first | assumption | omega | (simp [maxLen, avs_len, sps_len] <;> omega) | decide) only [sT_move, sT_bin, sT_len, sT_nil, oK_some, q_o, binF_v, lenF, builtinF, v_lss, ↓reduceIte, q_b, q_f, q_s, Nat.reduceEqDiff, avs_nil, avs_cons, iD, bD, intsD, bytesD, intssD, bytesD, spsD, rolC, eo_27]
                refine hK50 _ _ ?_
                refine awp_cond rfl (fun ht => ?_) (fun ht => ?_)
                · have hil : i < A.length := by simpa using ht
                  have hin : inB (nth A i) pv = true := inB_iff.2 (hAp _ (nth_mem hil))
                  refine awp_skip (hK49 _ _ ?_)
                  refine awp_seq_k fun K51 hK51 => ?_
                  refine awp_block ?_
                  refine awp_seq_s KT_ok hc rfl fun K52 hK52 => ?_
                  simp -dsimp -implicitDefEqProofs (disch := first | assumption | omega | (simp [maxLen, avs_len, sps_len] <;> omega) | decide) only [sT_move, sT_load, sT_ia, sT_call0, oK_some, q_o, loadF, ixO, indexAddrF, ↓reduceIte, q_b, ifp, q_f, q_s, q_l, Int.toNat_natCast, q_n, Nat.reduceEqDiff, get_map, iD, Nat.reduceAdd, eo_27, sz_3, ag_3]
                  refine kc_own (in_c pv (nth A i) (by omega)) ?_ ?_
                  · simp (disch := first | assumption | omega | (simp [maxLen, avs_len, sps_len] <;> omega) | decide) only [deep_d, deepL_avs, deepL_nil, deepL_cons, lookH_eq, cellsOf_c, deep_os, Nat.reduceAdd, takeD_all, fixm_i, D.fix, Option.map_some, Option.bind_some, Nat.mul_one, List.getElem?_cons_zero, List.getElem?_cons_succ, iD, intsD]
                  simp -dsimp -implicitDefEqProofs (disch := first | assumption | omega | (simp [maxLen, avs_len, sps_len] <;> omega) | decide) only [sT_un, sT_nil, oK_some, u_not, ↓reduceIte, q_b, q_f, hin]
                  refine hK52 _ _ ?_
                  refine awp_cond rfl (fun ht => ?_) (fun ht => ?_)
                  · cases ht
                  · refine awp_skip (hK51 _ _ ?_)
                    refine awp_s KT_ok hc rfl fun K53 hK53 => ?_
                    simp -dsimp -implicitDefEqProofs (disch := first | assumption | omega | (simp [maxLen, avs_len, sps_len] <;> omega) | decide) only [sT_move, sT_assign, sT_bin, sT_nil, oK_some, q_o, binF_v, v_add, ↓reduceIte, q_b, q_f, Nat.reduceEqDiff]
                    refine hK53 _ _ ⟨_, _, _, ?_, ⟨i + 1, hil, rfl, rfl, rfl⟩, ?_⟩
                    · first | omega | (simp only [List.length_cons]; omega) | (dsimp only; omega)
                    · refine Rt.end (less_cons (less_cons (less_cons (less_cons (less_cons (less_cons (less_cons (less_cons (less_cons (less_nil _) rfl) rfl) rfl) rfl) rfl) rfl) rfl) rfl) rfl) ?_
                      first | rfl | (simp only [intsD, boolsD, bytesD, intssD, bytessD, gcH, gcO, gcVs_avs, gcVs, gcV, gcV_d, fzH, fzO, fzVs_avs, fzVs, fzV, posN, avs_nil, avs_cons, List.map_cons, List.map_nil, List.getD_cons_zero, List.getD_cons_succ, ↓reduceIte, Nat.reduceEqDiff, Option.map_some, List.set_cons_zero, List.set_cons_succ, takeD_avs, takeD_all, Nat.mul_one, List.length_map, List.cons_append, List.nil_append, gotC, rwD, bytesD, spsD, spD, spC, sp_row, rolD, rolC, repD, repC, gotD, List.cons_append, List.nil_append, bne_self_eq_false, beq_self_eq_true, Bool.bne_true, Bool.bne_false, Bool.true_bne, Bool.false_bne, Bool.not_true, Bool.not_false]; first | done | rfl)
                · refine awp_exit (hK43 _ _ ?_)
                  refine awp_s KT_ok hc rfl fun K54 hK54 => ?_
                  simp -dsimp -implicitDefEqProofs (disch := first | assumption | omega | (simp [maxLen, avs_len, sps_len] <;> omega) | decide) only [sT_move, sT_assign, sT_bin, sT_nil, oK_some, q_o, binF_v, v_add, ↓reduceIte, q_b, q_f, Nat.reduceEqDiff]
                  refine hK54 _ _ ⟨_, _, _, ?_, ⟨j + 1, j1, rfl, rfl, rfl⟩, ?_⟩
                  · first | omega | (simp only [List.length_cons]; omega) | (dsimp only; omega)
                  · refine Rt.end (less_cons (less_cons (less_cons (less_cons (less_cons (less_cons (less_cons (less_nil _) rfl) rfl) rfl) rfl) rfl) rfl) rfl) ?_
                    first | rfl | (simp only [intsD, boolsD, bytesD, intssD, bytessD, gcH, gcO, gcVs_avs, gcVs, gcV, gcV_d, fzH, fzO, fzVs_avs, fzVs, fzV, posN, avs_nil, avs_cons, List.map_cons, List.map_nil, List.getD_cons_zero, List.getD_cons_succ, ↓reduceIte, Nat.reduceEqDiff, Option.map_some, List.set_cons_zero, List.set_cons_succ, takeD_avs, takeD_all, Nat.mul_one, List.length_map, List.cons_append, List.nil_append, gotC, rwD, bytesD, spsD, spD, spC, sp_row, rolD, rolC, repD, repC, gotD, List.cons_append, List.nil_append, bne_self_eq_false, beq_self_eq_true, Bool.bne_true, Bool.bne_false, Bool.true_bne, Bool.false_bne, Bool.not_true, Bool.not_false]; first | done | rfl)
            cases hbp : inB n pv
            · simp -dsimp -implicitDefEqProofs (disch := first | assumption | omega | (simp [maxLen, avs_len, sps_len] <;> omega) | decide) only [sE_move, sE_load, sE_fa, sE_ia, sE_bin, sE_call0, oK_some, q_o, loadF, fieldAddrF, ixO, indexAddrF, binF_v, v_neq, ↓reduceIte, q_b, ifp, guardA_some, guardV_f, q_f, q_s, q_l, List.append_nil, List.replicate_zero, Int.toNat_natCast, q_n, Nat.reduceEqDiff, get_map, iD, Nat.reduceAdd, sE_gg, bne_self_eq_false, nb_t, gK_tt, bne_self_eq_false, hn, fo_29_4, sz_3, ag_3, eo_27]
              refine kc_own (in_c pv n (by omega)) ?_ ?_
              · simp (disch := first | assumption | omega | (simp [maxLen, avs_len, sps_len] <;> omega) | decide) only [deep_d, deepL_avs, deepL_nil, deepL_cons, lookH_eq, cellsOf_c, deep_os, Nat.reduceAdd, takeD_all, fixm_i, D.fix, Option.map_some, Option.bind_some, Nat.mul_one, List.getElem?_cons_zero, List.getElem?_cons_succ, iD, intsD]
              simp -dsimp -implicitDefEqProofs (disch := first | assumption | omega | (simp [maxLen, avs_len, sps_len] <;> omega) | decide) only [sE_move, sE_pick, sE_nil, oK_some, q_o, ↓reduceIte, q_b, guardA_some, guardV_t, guardV_f, q_f, q_l, Nat.reduceEqDiff, killAll, Nat.reduceAdd, sE_gg, ly_move, ly_load, ly_fa, ly_ia, ly_call0, nb_t, gK_tt, gK_ff, hbp]
              refine (hJ46 _ _ ⟨_, _, rfl, rfl, ?_⟩)
              refine Rt.end (less_cons (less_cons (less_cons (less_cons (less_cons (less_cons (less_cons (less_cons (less_cons (less_nil _) rfl) rfl) rfl) rfl) rfl) rfl) rfl) rfl) rfl) ?_
              first | rfl | (simp only [intsD, boolsD, bytesD, intssD, bytessD, gcH, gcO, gcVs_avs, gcVs, gcV, gcV_d, fzH, fzO, fzVs_avs, fzVs, fzV, posN, avs_nil, avs_cons, List.map_cons, List.map_nil, List.getD_cons_zero, List.getD_cons_succ, ↓reduceIte, Nat.reduceEqDiff, Option.map_some, List.set_cons_zero, List.set_cons_succ, takeD_avs, takeD_all, Nat.mul_one, List.length_map, List.cons_append, List.nil_append, gotC, rwD, bytesD, spsD, spD, spC, sp_row, rolD, rolC, repD, repC, gotD, List.cons_append, List.nil_append, bne_self_eq_false, beq_self_eq_true, Bool.bne_true, Bool.bne_false, Bool.true_bne, Bool.false_bne, Bool.not_true, Bool.not_false]; first | done | rfl)
            · simp -dsimp -implicitDefEqProofs (disch := first | assumption | omega | (simp [maxLen, avs_len, sps_len] <;> omega) | decide) only [sE_move, sE_load, sE_fa, sE_ia, sE_bin, sE_call0, oK_some, q_o, loadF, fieldAddrF, ixO, indexAddrF, binF_v, v_neq, ↓reduceIte, q_b, ifp, guardA_some, guardV_f, q_f, q_s, q_l, List.append_nil, List.replicate_zero, Int.toNat_natCast, q_n, Nat.reduceEqDiff, get_map, iD, Nat.reduceAdd, sE_gg, bne_self_eq_false, nb_t, gK_tt, bne_self_eq_false, hn, fo_29_4, sz_3, ag_3, eo_27]
              refine kc_own (in_c pv n (by omega)) ?_ ?_
              · simp (disch := first | assumption | omega | (simp [maxLen, avs_len, sps_len] <;> omega) | decide) only [deep_d, deepL_avs, deepL_nil, deepL_cons, lookH_eq, cellsOf_c, deep_os, Nat.reduceAdd, takeD_all, fixm_i, D.fix, Option.map_some, Option.bind_some, Nat.mul_one, List.getElem?_cons_zero, List.getElem?_cons_succ, iD, intsD]
              simp -dsimp -implicitDefEqProofs (disch := first | assumption | omega | (simp [maxLen, avs_len, sps_len] <;> omega) | decide) only [sE_move, sE_load, sE_fa, sE_ia, sE_call0, oK_some, q_o, loadF, fieldAddrF, ixO, indexAddrF, ↓reduceIte, q_b, ifp, guardA_some, guardV_t, guardV_f, q_f, q_s, q_l, Int.toNat_natCast, q_n, Nat.reduceEqDiff, get_map, iD, Nat.reduceAdd, sE_gg, nb_t, gK_tt, hn, hbp, sz_3, ag_3, sz_27, ag_27, eo_27, fo_29_5]
              refine kc_by (in_c r.dn n (by omega)) rfl ?_
              simp -dsimp -implicitDefEqProofs (disch := first | assumption | omega | (simp [maxLen, avs_len, sps_len] <;> omega) | decide) only [sE_pick, sE_nil, oK_some, q_o, ↓reduceIte, q_b, guardA_some, guardV_f, q_f, q_l, Nat.reduceEqDiff, killAll, Nat.reduceAdd, sE_gg, nb_t, gK_tt, hnd]
              refine (hJ46 _ _ ⟨_, _, rfl, rfl, ?_⟩)
              refine Rt.end (less_cons (less_cons (less_cons (less_cons (less_cons (less_cons (less_cons (less_cons (less_cons (less_nil _) rfl) rfl) rfl) rfl) rfl) rfl) rfl) rfl) rfl) ?_
              first | rfl | (simp only [intsD, boolsD, bytesD, intssD, bytessD, gcH, gcO, gcVs_avs, gcVs, gcV, gcV_d, fzH, fzO, fzVs_avs, fzVs, fzV, posN, avs_nil, avs_cons, List.map_cons, List.map_nil, List.getD_cons_zero, List.getD_cons_succ, ↓reduceIte, Nat.reduceEqDiff, Option.map_some, List.set_cons_zero, List.set_cons_succ, takeD_avs, takeD_all, Nat.mul_one, List.length_map, List.cons_append, List.nil_append, gotC, rwD, bytesD, spsD, spD, spC, sp_row, rolD, rolC, repD, repC, gotD, List.cons_append, List.nil_append, bne_self_eq_false, beq_self_eq_true, Bool.bne_true, Bool.bne_false, Bool.true_bne, Bool.false_bne, Bool.not_true, Bool.not_false]; first | done | rfl)
          · cases ht
        · simp -dsimp -implicitDefEqProofs (disch := first | assumption | omega | (simp [maxLen, avs_len, sps_len] <;> omega) | decide) only [sT_move, sT_pick, sT_load, sT_fa, sT_bin, sT_len, sT_nil, sT_g, oK_some, q_o, loadF, fieldAddrF, binF_v, lenF, builtinF, v_eql, v_lss, ↓reduceIte, q_b, ifp, guardA_some, guardV_t, q_f, q_s, q_l, q_n, Nat.reduceEqDiff, avs_nil, avs_cons, iD, bD, intsD, bytesD, intssD, Nat.reduceAdd, bytesD, spsD, rolC, dec_t, beq_f, gK_tt, eo_27, sz_3, ag_3, fo_29_6]
          refine hK42 _ _ ?_
          refine awp_cond rfl (fun ht => ?_) (fun ht => ?_)
          · cases ht
          · refine awp_exit (hJ15 _ _ ⟨_, _, rfl, rfl, ?_⟩)
            refine Rt.end (less_cons (less_cons (less_cons (less_cons (less_cons (less_nil _) rfl) rfl) rfl) rfl) rfl) ?_
            first | rfl | (simp only [intsD, boolsD, bytesD, intssD, bytessD, gcH, gcO, gcVs_avs, gcVs, gcV, gcV_d, fzH, fzO, fzVs_avs, fzVs, fzV, posN, avs_nil, avs_cons, List.map_cons, List.map_nil, List.getD_cons_zero, List.getD_cons_succ, ↓reduceIte, Nat.reduceEqDiff, Option.map_some, List.set_cons_zero, List.set_cons_succ, takeD_avs, takeD_all, Nat.mul_one, List.length_map, List.cons_append, List.nil_append, gotC, rwD, bytesD, spsD, spD, spC, sp_row, rolD, rolC, repD, repC, gotD, List.cons_append, List.nil_append, bne_self_eq_false, beq_self_eq_true, Bool.bne_true, Bool.bne_false, Bool.true_bne, Bool.false_bne, Bool.not_true, Bool.not_false]; first | done | rfl)
        · simp -dsimp -implicitDefEqProofs (disch := first | assumption | omega | (simp [maxLen, avs_len, sps_len] <;> omega) | decide) only [sT_move, sT_pick, sT_bin, sT_len, sT_nil, sT_g, oK_some, q_o, binF_v, lenF, builtinF, v_lss, ↓reduceIte, q_b, guardA_some, guardV_t, q_f, q_s, q_l, Nat.reduceEqDiff, avs_nil, avs_cons, iD, bD, intsD, bytesD, intssD, bytesD, spsD, rolC, dec_f, gK_ff, eo_27]
          refine hK42 _ _ ?_
          refine awp_cond rfl (fun ht => ?_) (fun ht => ?_)
          · cases ht
          · refine awp_exit (hJ15 _ _ ⟨_, _, rfl, rfl, ?_⟩)
            refine Rt.end (less_cons (less_cons (less_cons (less_cons (less_cons (less_nil _) rfl) rfl) rfl) rfl) rfl) ?_
            first | rfl | (simp only [intsD, boolsD, bytesD, intssD, bytessD, gcH, gcO, gcVs_avs, gcVs, gcV, gcV_d, fzH, fzO, fzVs_avs, fzVs, fzV, posN, avs_nil, avs_cons, List.map_cons, List.map_nil, List.getD_cons_zero, List.getD_cons_succ, ↓reduceIte, Nat.reduceEqDiff, Option.map_some, List.set_cons_zero, List.set_cons_succ, takeD_avs, takeD_all, Nat.mul_one, List.length_map, List.cons_append, List.nil_append, gotC, rwD, bytesD, spsD, spD, spC, sp_row, rolD, rolC, repD, repC, gotD, List.cons_append, List.nil_append, bne_self_eq_false, beq_self_eq_true, Bool.bne_true, Bool.bne_false, Bool.true_bne, Bool.false_bne, Bool.not_true, Bool.not_false]; first | done | rfl)
    · cases ht
end Go.Proofs.Ytinefghmmbggeaa
