/- The law RolloutProgress. -/
import Derived.Test.YtinefghmmbggeaaQ
import Derived.Test.YtinefghmmbggeaaRt
set_option linter.unusedVariables false
set_option linter.unusedSimpArgs false
namespace Go.Proofs.Ytinefghmmbggeaa
open Go Go.RowKit
theorem sub_full : ∀ {a b : List Int}, a.Nodup → b.Nodup → (∀ x ∈ a, x ∈ b) → b.length ≤ a.length → ∀ x ∈ b, x ∈ a
  | [], b, _, _, _, hl => fun x hx => by
    have : b = [] := List.length_eq_zero_iff.1 (by simpa using hl)
    rw [this] at hx; cases hx
  | y :: a, b, ha, hb, h, hl => fun x hx => by
    by_cases e : x = y
    · subst e; exact List.mem_cons_self
    · have hy := h y List.mem_cons_self
      have h2 := List.nodup_cons.1 ha
      have := sub_full (a := a) (b := b.erase y) h2.2 (hb.erase y) (fun z hz => (List.mem_erase_of_ne (fun e => h2.1 (by rw [← e]; exact hz))).2 (h z (List.mem_cons_of_mem _ hz))) (by rw [List.length_erase_of_mem hy]; simp at hl; omega) x ((List.mem_erase_of_ne e).2 hx)
      exact List.mem_cons_of_mem _ this
theorem inc_nodup {l : List Int} (h : Inc l) : l.Nodup := h.imp fun h e => by omega
theorem sub_eq {a b : List Int} (ha : Inc a) (hb : Inc b) (h : ∀ x ∈ a, x ∈ b) (hl : b.length ≤ a.length) : a = b :=
  inc_ext ha hb fun x => ⟨h x, sub_full (inc_nodup ha) (inc_nodup hb) h hl x⟩
theorem ins_len {n : Int} {l : List Int} (h : n ∉ l) : (insL n l).length = l.length + 1 := by
  unfold insL
  rw [if_neg (fun k => h (inB_iff.1 k))]
  simp; omega
theorem allC_wv {r : Rol} : allC r = srtL r.wv.flatten := by unfold allC; rw [upto_all]
structure ProgI (w : List (List Int)) (r : Rol) (sent : List Int) (k : Nat) : Prop where
  v : VR r
  w : r.wv = w
  st : r.st = 0 ∨ r.st = 3
  d : r.dn.length = k
  s : sent.length = k
  m : ∀ x, x ∈ sent ↔ x ∈ r.dn
theorem ProgI.act {w : List (List Int)} {r : Rol} {sent : List Int} {k : Nat} (h : ProgI w r sent k) (hk : k < (srtL w.flatten).length) : r.st = 0 := by
  rcases h.st with h0 | h3
  · exact h0
  · rcases h.v.pok with ⟨_, _, h2⟩ | ⟨h1, _⟩
    · have : r.dn = srtL w.flatten := inc_ext h.v.inc (inc_srt _) fun x => by rw [h2, upto_all, mem_srt, h.w]
      rw [← this, h.d] at hk; omega
    · exact (h1 h3).elim
theorem ready_pos {r : Rol} (h : VR r) (h0 : r.st = 0) : 0 < (readyG r).length := by
  obtain ⟨_, _, _, d, _⟩ := h.act (.inl h0)
  rcases Nat.eq_zero_or_pos (readyG r).length with e | e
  · exact (d fun x hx => Decidable.byContradiction fun hn => by
      have := mem_ready.2 ⟨.inl h0, hx, hn⟩
      rw [List.length_eq_zero_iff.1 e] at this; cases this).elim
  · exact e
theorem actS_wv {r : Rol} {d : List Int} : (actS r d).wv = r.wv ∧ (actS r d).dn = d ∧ (actS r d).frm = r.frm ∧ (actS r d).to = r.to ∧ (actS r d).slk = r.slk := by
  unfold actS
  split
  · split <;> exact ⟨rfl, rfl, rfl, rfl, rfl⟩
  · exact ⟨rfl, rfl, rfl, rfl, rfl⟩
theorem actS_st {r : Rol} {d : List Int} (h0 : r.st = 0) : (actS r d).st = 0 ∨ (actS r d).st = 3 := by
  unfold actS
  split
  · split
    · exact .inr rfl
    · exact .inl h0
  · exact .inl h0
theorem ProgI.step {w : List (List Int)} {r : Rol} {sent : List Int} {k : Nat} (h : ProgI w r sent k) (h0 : r.st = 0) {c : Int} (hc : c ∈ readyG r) : seeG r (goodR r c) = (actS r (insL c r.dn), 0) ∧ c ∉ sent ∧ ProgI w (actS r (insL c r.dn)) (sent ++ [c]) (k + 1) := by
  have hm := mem_ready.1 hc
  have e := see_good h.v h0 (p := goodR r c) hm.2.1 rfl rfl rfl (Int.le_refl _)
  refine ⟨e, fun hs => hm.2.2 ((h.m c).1 hs), ?_, ?_, actS_st h0, ?_, ?_, ?_⟩
  · have := h.v.seeG (p := goodR r c) (by rw [e])
    rwa [e] at this
  · rw [actS_wv.1, h.w]
  · rw [actS_wv.2.1, ins_len hm.2.2, h.d]
  · simp [h.s]
  · intro x
    rw [actS_wv.2.1, mem_ins, List.mem_append, List.mem_singleton, h.m]
    exact Or.comm
theorem ProgI.fin {w : List (List Int)} {r : Rol} {sent : List Int} {k : Nat} (h : ProgI w r sent k) (hk : (srtL w.flatten).length ≤ k) : r.st = 3 ∧ r.dn = srtL w.flatten := by
  have e : r.dn = srtL w.flatten := sub_eq h.v.inc (inc_srt _) (fun x hx => mem_srt.2 (h.w ▸ h.v.dsub x hx)) (by rw [h.d]; exact hk)
  refine ⟨?_, e⟩
  rcases h.st with h0 | h3
  · obtain ⟨_, _, _, d, _⟩ := h.v.act (.inl h0)
    exact (d fun x hx => by rw [e, mem_srt, ← h.w]; exact flat_sub hx).elim
  · exact h3
theorem ProgI.start {x : Rw} (hx : RwOk x) : ProgI (startR x).wv (startR x) [] 0 := ⟨startR_ok hx, rfl, .inl rfl, rfl, rfl, fun x => Iff.rfl⟩
theorem ready_done {r : Rol} (h : r.st = 3) : readyG r = [] := by unfold readyG; rw [if_neg (by omega)]
set_option maxRecDepth 100000 in
set_option linter.unusedVariables false in
set_option maxHeartbeats 4000000 in
theorem progress_law (x : Rw) (hx : RwOk x) (b : List Int) (hb : b.length ≤ maxLen ∧ ∀ n ∈ b, B8 n) : PCalls Try.prog 7 [rwD x, bytesD b] (.d (.val (.bool true))) := by
  refine pcalls_of0 (fn := Try.f7) (by kernel_rfl) Try.func7 rfl (Nat.le_of_ble_eq_true rfl) fun c hc hp => ?_
  refine awp_less (τ' := frL [(0, .d (rwD x)), (1, .d (bytesD b))]) (less_cons (less_cons (less_nil _) rfl) rfl) ?_
  have hb1 := hb.1
  obtain ⟨w, hw⟩ : ∃ w, (startR x).wv = w := ⟨_, rfl⟩
  have hs0 := startR_ok hx
  have hal := allC_len hs0
  have hst : ProgI w (startR x) [] 0 := hw ▸ ProgI.start hx
  obtain ⟨l, hl⟩ : ∃ l, srtL w.flatten = l := ⟨_, rfl⟩
  have hla : allC (startR x) = l := by rw [allC_wv, hw, hl]
  rw [hla] at hal
  refine awp_seq_s KT_ok hc rfl fun K1 hK1 => ?_
  simp -dsimp -implicitDefEqProofs (disch := first | assumption | omega | (simp [maxLen, avs_len] <;> omega) | decide) only [sT_assign, sT_box, deadH, sT_nil, oK_some, q_o, layF, ↓reduceIte, q_b, q_f, q_s, q_l, as_dagg, D.one, Value.oneCell', bD, bytesD, deadH, rwD, bytesD, spsD]
  refine hK1 _ _ ?_
  refine awp_seq_s KT_ok hc rfl fun K2 hK2 => ?_
  simp -dsimp -implicitDefEqProofs (disch := first | assumption | omega | (simp [maxLen, avs_len] <;> omega) | decide) only [sT_call0, q_f, q_s, q_l, q_n]
  refine kc_by (examples_c) rfl ?_
  simp -dsimp -implicitDefEqProofs (disch := first | assumption | omega | (simp [maxLen, avs_len] <;> omega) | decide) only [sT_assign, sT_nil, ↓reduceIte, q_b, q_f]
  refine hK2 _ _ ?_
  refine awp_seq_k fun K3 hK3 => ?_
  refine awp_seq_s KT_ok hc rfl fun K4 hK4 => ?_
  simp -dsimp -implicitDefEqProofs (disch := first | assumption | omega | (simp [maxLen, avs_len] <;> omega) | decide) only [sT_move, sT_un, sT_nil, oK_some, u_not, ↓reduceIte, q_b, q_f]
  refine hK4 _ _ ?_
  refine awp_cond rfl (fun ht => ?_) (fun ht => ?_)
  · cases ht
  · refine awp_skip (hK3 _ _ ?_)
    refine awp_seq_s KT_ok hc rfl fun K5 hK5 => ?_
    simp -dsimp -implicitDefEqProofs (disch := first | assumption | omega | (simp [maxLen, avs_len] <;> omega) | decide) only [sT_load, sT_call0, oK_some, q_o, loadF, ↓reduceIte, q_b, ifp, q_f, q_s, q_l, q_n, Nat.reduceEqDiff, takeD_all, sz_25, ag_25]
    refine kc_by (start_c x hx) rfl ?_
    simp -dsimp -implicitDefEqProofs (disch := first | assumption | omega | (simp [maxLen, avs_len] <;> omega) | decide) only [sT_alloc, sT_store, deadH, sT_nil, oK_some, q_o, layF, storeF, ↓reduceIte, q_b, ifp, q_f, q_s, q_l, as_dagg, q_a, D.one, Value.oneCell', q_n, Nat.reduceEqDiff, map_d, avs_nil, avs_cons, iD, intsD, intssD, Nat.reduceAdd, deadH, rolD, rolC, sz_29, za_29]
    refine hK5 _ _ ?_
    refine awp_seq_s KT_ok hc rfl fun K6 hK6 => ?_
    simp -dsimp -implicitDefEqProofs (disch := first | assumption | omega | (simp [maxLen, avs_len] <;> omega) | decide) only [sT_load, sT_fa, sT_len, sT_call0, oK_some, q_o, loadF, fieldAddrF, lenF, builtinF, ↓reduceIte, q_b, ifp, q_f, q_s, q_l, q_n, Nat.reduceEqDiff, takeD_all, Nat.reduceAdd, sz_29, ag_29, fo_29_2, sz_26, ag_26, eo_26]
    refine kc_by (show PCalls Try.prog 30 [rolD (startR x), iD (startR x).wv.length] (.d (intsD l)) from hla ▸ uptop_c (startR x) (startR x).wv.length hs0.short) rfl ?_
    simp -dsimp -implicitDefEqProofs (disch := first | assumption | omega | (simp [maxLen, avs_len] <;> omega) | decide) only [sT_assign, sT_nil, ↓reduceIte, q_b, q_f, intsD]
    refine hK6 _ _ ?_
    refine awp_seq_s KT_ok hc rfl fun K7 hK7 => ?_
    simp -dsimp -implicitDefEqProofs (disch := first | assumption | omega | (simp [maxLen, avs_len] <;> omega) | decide) only [sT_assign, sT_bs, deadH, sT_nil, oK_some, q_o, layF, ↓reduceIte, q_b, ifp, q_f, q_s, q_l, List.replicate_zero, reps_def, q_a, q_n, Nat.reduceAdd, deadH, mk_27]
    refine hK7 _ _ ?_
    refine awp_seq_k fun K8 hK8 => ?_
    refine awp_seq_s KT_ok hc rfl fun K9 hK9 => ?_
    simp -dsimp -implicitDefEqProofs (disch := first | assumption | omega | (simp [maxLen, avs_len] <;> omega) | decide) only [sT_assign, sT_nil, q_f]
    refine hK9 _ _ ?_
    refine awp_block ?_
    refine awp_loop_rt hp (fun τ' H' mm => ∃ (k : Nat) (r : Rol) (sent : List Int), (ProgI w r sent k ∧ k ≤ l.length) ∧ mm = 1000 - k ∧ H' = [.cells [.d (bytesD x.ws), .d (bD x.slk), .d (spsD x.steps)], .cells (avs (rolC r)), .cells (avs (sent.map iD))] ∧ τ' = frL [(1, .d (bytesD b)), (2, .op 0 0), (5, .d (.val (.bool true))), (6, .op 1 0), (7, .d (intsD l)), (8, .os 1 2 0 sent.length), (9, .d (iD k))]) (1000) ?_ ⟨0, startR x, [], ⟨hst, Nat.zero_le _⟩, rfl, rfl, rfl⟩ ?_
    · refine Rt.end (less_cons (less_cons (less_cons (less_cons (less_cons (less_cons (less_cons (less_nil _) rfl) rfl) rfl) rfl) rfl) rfl) rfl) ?_
      rfl
    rintro τ' H' mm ⟨k, r, sent, ⟨hi, hk⟩, rfl, rfl, rfl⟩
    refine awp_seq_k fun K10 hK10 => ?_
    refine awp_seq_s KT_ok hc rfl fun K11 hK11 => ?_
    simp -dsimp -implicitDefEqProofs (disch := first | assumption | omega | (simp [maxLen, avs_len] <;> omega) | decide) only [sT_move, sT_bin, sT_len, sT_nil, oK_some, q_o, binF_v, lenF, builtinF, v_lss, ↓reduceIte, q_b, q_f, q_s, Nat.reduceEqDiff, avs_nil, avs_cons, iD, bD, intsD, bytesD, intssD, bytesD, spsD, rolC, eo_27]
    refine hK11 _ _ ?_
    refine awp_cond rfl (fun ht => ?_) (fun ht => ?_)
    · have hkl : k < l.length := by simpa using ht
      have h0 : r.st = 0 := hi.act (by rw [hl]; exact hkl)
      have hrp := ready_pos hi.v h0
      have hrl := ready_len hi.v
      refine awp_skip (hK10 _ _ ?_)
      refine awp_seq_k fun K12 hK12 => ?_
      refine awp_block ?_
      refine awp_seq_s KT_ok hc rfl fun K13 hK13 => ?_
      simp -dsimp -implicitDefEqProofs (disch := first | assumption | omega | (simp [maxLen, avs_len] <;> omega) | decide) only [sT_load, sT_call0, oK_some, q_o, loadF, ↓reduceIte, q_b, ifp, q_f, q_s, q_l, q_n, Nat.reduceEqDiff, takeD_all, Nat.reduceAdd, sz_29, ag_29]
      refine kc_by (ready_v hi.v) rfl ?_
      simp -dsimp -implicitDefEqProofs (disch := first | assumption | omega | (simp [maxLen, avs_len] <;> omega) | decide) only [sT_assign, sT_nil, ↓reduceIte, q_b, q_f, intsD]
      refine hK13 _ _ ?_
      refine awp_seq_k fun K14 hK14 => ?_
      refine awp_seq_s KT_ok hc rfl fun K15 hK15 => ?_
      simp -dsimp -implicitDefEqProofs (disch := first | assumption | omega | (simp [maxLen, avs_len] <;> omega) | decide) only [sT_move, sT_pick, sT_load, sT_fa, sT_bin, sT_len, sT_nil, sT_g, oK_some, q_o, loadF, fieldAddrF, binF_v, lenF, builtinF, v_eql, v_neq, ↓reduceIte, q_b, ifp, guardA_some, guardV_f, q_f, q_s, q_l, q_n, Nat.reduceEqDiff, Nat.reduceAdd, dec_t, beq_f, bne_f, nb_t, gK_tt, eo_27, sz_3, ag_3, fo_29_6]
      refine hK15 _ _ ?_
      refine awp_cond rfl (fun ht => ?_) (fun ht => ?_)
      · cases ht
      · refine awp_skip (hK14 _ _ ?_)
        refine awp_seq_s KT_ok hc rfl fun K16 hK16 => ?_
        simp -dsimp -implicitDefEqProofs (disch := first | assumption | omega | (simp [maxLen, avs_len] <;> omega) | decide) only [sT_assign, sT_nil, q_f]
        refine hK16 _ _ ?_
        refine awp_seq_k fun K17 hK17 => ?_
        have hJ17 : ∀ τ' H', (∃ τ1 H1, ∃ (a : Int), (0 ≤ a ∧ a < (readyG r).length) ∧ H1 = [.cells [.d (bytesD x.ws), .d (bD x.slk), .d (spsD x.steps)], .cells (avs (rolC r)), .cells (avs (sent.map iD))] ∧ τ1 = frL [(1, .d (bytesD b)), (2, .op 0 0), (5, .d (.val (.bool true))), (6, .op 1 0), (7, .d (intsD l)), (8, .os 1 2 0 sent.length), (9, .d (iD k)), (10, .d (intsD (readyG r))), (11, .d (iD a))] ∧ Rt τ' H' τ1 H1) → K17 τ' H' := by
          rintro τ' H' ⟨_, _, a, ⟨ha0, ha1⟩, rfl, rfl, hrt⟩
          refine hK17 _ _ (awp_rt hp hrt ?_)
          clear hrt
          refine awp_seq_k fun K18 hK18 => ?_
          obtain ⟨n, hn⟩ : ∃ n, nth (readyG r) a.toNat = n := ⟨_, rfl⟩
          have hnm : n ∈ readyG r := hn ▸ nth_mem (by omega)
          have hs := hi.step h0 hnm
          obtain ⟨q, hq⟩ : ∃ q, actS r (insL n r.dn) = q := ⟨_, rfl⟩
          rw [hq] at hs
          obtain ⟨hs1, hs2, hs3⟩ := hs
          have hsl := hi.s
          refine awp_seq_s KT_ok hc rfl fun K19 hK19 => ?_
          simp -dsimp -implicitDefEqProofs (disch := first | assumption | omega | (simp [maxLen, avs_len] <;> omega) | decide) only [sT_move, sT_load, sT_ia, sT_call0, oK_some, q_o, loadF, ixO, indexAddrF, ↓reduceIte, q_b, ifp, q_f, q_s, q_l, q_n, Nat.reduceEqDiff, avs_nil, avs_cons, get_map, iD, bD, intsD, bytesD, intssD, Nat.reduceAdd, bytesD, spsD, rolC, hn, eo_27, sz_3, ag_3]
          refine kc_own (in_c sent n (by omega)) ?_ ?_
          · simp (disch := first | assumption | omega | (simp [maxLen, avs_len] <;> omega) | decide) only [deep_d, deepL_avs, deepL_nil, deepL_cons, lookH_eq, cellsOf_c, deep_os, Nat.reduceAdd, takeD_all, fixm_i, D.fix, Option.map_some, Option.bind_some, Nat.mul_one, List.getElem?_cons_zero, List.getElem?_cons_succ, iD, intsD]
          simp -dsimp -implicitDefEqProofs (disch := first | assumption | omega | (simp [maxLen, avs_len] <;> omega) | decide) only [sT_nil, q_f]
          refine hK19 _ _ ?_
          refine awp_cond rfl (fun ht => ?_) (fun ht => ?_)
          · exact absurd (inB_iff.1 ht) hs2
          · refine awp_skip (hK18 _ _ ?_)
            refine awp_seq_s KT_ok hc rfl fun K20 hK20 => ?_
            simp -dsimp -implicitDefEqProofs (disch := first | assumption | omega | (simp [maxLen, avs_len] <;> omega) | decide) only [sT_move, sT_assign, sT_load, sT_ia, sT_bs, sT_app, deadH, sT_nil, oK_some, q_o, loadF, ixO, indexAddrF, layF, srcF, ↓reduceIte, q_b, ifp, ifn, q_f, q_s, q_l, List.append_nil, List.replicate_zero, List.replicate_succ, reps_def, q_a, fill_cons, q_n, Nat.reduceEqDiff, avs_len, avs_app1, takeD_all, List.drop_zero, get_map, iD, Nat.reduceAdd, deadH, List.length_map, hn, eo_27, sz_3, ag_3, mk_27]
            refine hK20 _ _ ?_
            refine awp_seq_se KT_ok hc mixed rfl (q := 1) (by kernel_rfl) (by kernel_rfl) fun K21 hK21 => ?_
            simp -dsimp -implicitDefEqProofs (disch := first | assumption | omega | (simp [maxLen, avs_len] <;> omega) | decide) only [sE_move, sE_load, sE_ia, sE_call0, oK_some, q_o, loadF, ixO, indexAddrF, ↓reduceIte, q_b, ifp, q_f, q_s, q_l, List.replicate_zero, List.replicate_succ, q_n, Nat.reduceEqDiff, takeD_all, get_map, iD, Nat.reduceAdd, hn, sz_29, ag_29, eo_27, sz_3, ag_3]
            refine kc_by (show PCalls Try.prog 33 [rolD r, iD n] (.d (repD (goodR r n))) from goodr_c r n) rfl ?_
            simp -dsimp -implicitDefEqProofs (disch := first | assumption | omega | (simp [maxLen, avs_len] <;> omega) | decide) only [sE_call0, ↓reduceIte, q_b, q_f, q_s, Nat.reduceEqDiff, iD, oD, Nat.reduceAdd, goodR, repD, repC]
            refine kc_by (see_v hi.v (p := goodR r n) (good_i64 hi.v hnm) hs1) rfl ?_
            simp -dsimp -implicitDefEqProofs (disch := first | assumption | omega | (simp [maxLen, avs_len] <;> omega) | decide) only [sE_alloc, sE_store, sE_nil, oK_some, q_o, layF, layEF, storeF, ↓reduceIte, q_b, ifp, q_f, q_s, q_l, as_dagg, q_a, D.one, Value.oneCell', q_n, Nat.reduceEqDiff, shB, appB, killAll, map_d, avs_nil, avs_cons, iD, intsD, intssD, Nat.reduceAdd, layEF, frzF, gotD, sz_40, za_40]
            refine hK21 _ _ ?_
            refine awp_seq_k fun K22 hK22 => ?_
            refine awp_seq_s KT_ok hc rfl fun K23 hK23 => ?_
            simp -dsimp -implicitDefEqProofs (disch := first | assumption | omega | (simp [maxLen, avs_len] <;> omega) | decide) only [sT_move, sT_load, sT_fa, sT_bin, sT_call0, sT_g, oK_some, q_o, loadF, fieldAddrF, binF_v, v_neq, ↓reduceIte, q_b, ifp, guardA_some, guardV_f, q_f, q_s, q_l, q_n, Nat.reduceEqDiff, takeD_zero, takeD_cs, Nat.reduceAdd, bne_self_eq_false, nb_t, gK_tt, bne_self_eq_false, fo_40_1, sz_38, ag_38, fo_40_0, sz_29, ag_29]
            refine kc_by (validp_v hs3.v) rfl ?_
            simp -dsimp -implicitDefEqProofs (disch := first | assumption | omega | (simp [maxLen, avs_len] <;> omega) | decide) only [sT_pick, sT_un, sT_nil, sT_g, oK_some, q_o, u_not, ↓reduceIte, q_b, guardA_some, guardV_f, q_f, q_l, Nat.reduceEqDiff, nb_t, nb_f, gK_tt]
            refine hK23 _ _ ?_
            refine awp_cond rfl (fun ht => ?_) (fun ht => ?_)
            · cases ht
            · refine awp_skip (hK22 _ _ ?_)
              refine awp_s KT_ok hc rfl fun K24 hK24 => ?_
              simp -dsimp -implicitDefEqProofs (disch := first | assumption | omega | (simp [maxLen, avs_len] <;> omega) | decide) only [sT_load, sT_fa, sT_store, sT_nil, oK_some, q_o, loadF, fieldAddrF, storeF, ↓reduceIte, q_b, ifp, q_f, q_l, q_s, q_a, AV.one, D.one, Value.oneCell', q_n, Nat.reduceEqDiff, takeD_zero, takeD_cs, Nat.reduceAdd, fo_40_0, sz_29, ag_29]
              refine hK24 _ _ (hK12 _ _ ?_)
              refine awp_s KT_ok hc rfl fun K25 hK25 => ?_
              simp -dsimp -implicitDefEqProofs (disch := first | assumption | omega | (simp [maxLen, avs_len] <;> omega) | decide) only [sT_move, sT_assign, sT_bin, sT_nil, oK_some, q_o, binF_v, v_add, ↓reduceIte, q_b, q_f, Nat.reduceEqDiff]
              refine hK25 _ _ ⟨_, _, _, ?_, ⟨k + 1, q, sent ++ [n], ⟨hs3, by omega⟩, rfl, rfl, rfl⟩, ?_⟩
              · first | omega | (simp only [List.length_cons]; omega) | (dsimp only; omega)
              · refine Rt.trans (Rt.gc (keep := [0,1,4]) (by decide) (by simp [])) ?_
                refine Rt.end (less_cons (less_cons (less_cons (less_cons (less_cons (less_cons (less_cons (less_nil _) rfl) (by first | rfl | (simp [frL, gcV, posN]; done) | simp [Fr.put, frL, gcV, fzV, posN, iD, bD, uD, oD, intsD, boolsD, bytesD, intssD, bytessD, *])) rfl) rfl) rfl) rfl) rfl) ?_
                simp only [bytesD, gcH, gcO, gcVs_avs, gcVs, gcV, List.map_cons, List.map_nil, List.getD_cons_zero, List.getD_cons_succ, List.map_append]; rfl
        refine awp_seq_s KT_ok hc rfl fun K26 hK26 => ?_
        simp -dsimp -implicitDefEqProofs (disch := first | assumption | omega | (simp [maxLen, avs_len] <;> omega) | decide) only [sT_move, sT_bin, sT_len, sT_nil, oK_some, q_o, binF_v, lenF, builtinF, v_lss, ↓reduceIte, q_b, q_f, q_s, Nat.reduceEqDiff, eo_22]
        refine hK26 _ _ ?_
        refine awp_cond rfl (fun ht => ?_) (fun ht => ?_)
        · have hkb : k < b.length := by simpa using ht
          have hb2 := hb.2 _ (nth_mem hkb)
          have hb3 := hb2.1
          have hb4 := hb2.2
          have hn0 : 0 ≤ nth b k % ((readyG r).length : Int) := Int.emod_nonneg _ (by omega)
          have hn1 : nth b k % ((readyG r).length : Int) < (readyG r).length := Int.emod_lt_of_pos _ (by omega)
          refine awp_s KT_ok hc rfl fun K27 hK27 => ?_
          simp -dsimp -implicitDefEqProofs (disch := first | assumption | omega | (simp [maxLen, avs_len] <;> omega) | decide) only [sT_move, sT_assign, sT_load, sT_ia, sT_bin, sT_conv, sT_len, sT_nil, oK_some, q_o, loadF, ixO, indexAddrF, binF_v, convF, lenF, builtinF, v_rem, ↓reduceIte, q_b, ifp, q_f, q_s, Int.toNat_natCast, q_n, Nat.reduceEqDiff, get_map, w_i64, bD, eo_22, sz_5, ag_5, ik_5, ik_3, eo_27]
          refine hK27 _ _ (hJ17 _ _ ⟨_, _, nth b k % ((readyG r).length : Int), ⟨hn0, hn1⟩, rfl, rfl, ?_⟩)
          refine Rt.end (less_cons (less_cons (less_cons (less_cons (less_cons (less_cons (less_cons (less_cons (less_cons (less_nil _) rfl) rfl) rfl) rfl) rfl) rfl) rfl) rfl) rfl) ?_
          first | rfl | (simp only [intsD, boolsD, bytesD, intssD, bytessD, gcH, gcO, gcVs_avs, gcVs, gcV, gcV_d, fzH, fzO, fzVs_avs, fzVs, fzV, posN, avs_nil, avs_cons, List.map_cons, List.map_nil, List.getD_cons_zero, List.getD_cons_succ, ↓reduceIte, Nat.reduceEqDiff, Option.map_some, List.set_cons_zero, List.set_cons_succ, takeD_avs, takeD_all, Nat.mul_one, List.length_map, List.cons_append, List.nil_append, goodR, gotC, rwD, bytesD, spsD, spD, spC, rolD, rolC, repD, repC, gotD, List.cons_append, List.nil_append, bne_self_eq_false, beq_self_eq_true, Bool.bne_true, Bool.bne_false, Bool.true_bne, Bool.false_bne, Bool.not_true, Bool.not_false]; first | done | rfl)
        · refine awp_skip (hJ17 _ _ ⟨_, _, 0, by omega, rfl, rfl, ?_⟩)
          refine Rt.end (less_cons (less_cons (less_cons (less_cons (less_cons (less_cons (less_cons (less_cons (less_cons (less_nil _) rfl) rfl) rfl) rfl) rfl) rfl) rfl) rfl) rfl) ?_
          first | rfl | (simp only [intsD, boolsD, bytesD, intssD, bytessD, gcH, gcO, gcVs_avs, gcVs, gcV, gcV_d, fzH, fzO, fzVs_avs, fzVs, fzV, posN, avs_nil, avs_cons, List.map_cons, List.map_nil, List.getD_cons_zero, List.getD_cons_succ, ↓reduceIte, Nat.reduceEqDiff, Option.map_some, List.set_cons_zero, List.set_cons_succ, takeD_avs, takeD_all, Nat.mul_one, List.length_map, List.cons_append, List.nil_append, goodR, gotC, rwD, bytesD, spsD, spD, spC, rolD, rolC, repD, repC, gotD, List.cons_append, List.nil_append, bne_self_eq_false, beq_self_eq_true, Bool.bne_true, Bool.bne_false, Bool.true_bne, Bool.false_bne, Bool.not_true, Bool.not_false]; first | done | rfl)
    · have hkl : l.length ≤ k := by simpa using ht
      obtain ⟨e3, ed⟩ := hi.fin (by rw [hl]; exact hkl)
      rw [hl] at ed
      refine awp_exit (hK8 _ _ ?_)
      refine awp_seq_s KT_ok hc rfl fun K28 hK28 => ?_
      simp -dsimp -implicitDefEqProofs (disch := first | assumption | omega | (simp [maxLen, avs_len] <;> omega) | decide) only [sT_move, sT_load, sT_fa, sT_bin, sT_call0, sT_g, oK_some, q_o, loadF, fieldAddrF, binF_v, v_eql, ↓reduceIte, q_b, ifp, guardA_some, guardV_t, q_f, q_s, q_l, q_n, Nat.reduceEqDiff, takeD_all, Nat.reduceAdd, beq_self_eq_true, dec_f, gK_tt, beq_self_eq_true, e3, ed, fo_29_6, sz_29, ag_29, sz_3, ag_3]
      refine kc_by (show PCalls Try.prog 19 [.agg [iD r.frm, iD r.to, intssD r.wv, iD r.slk, iD r.pos, intsD l, iD 3]] (.d (intsD [])) from by have h := ready_v hi.v; rw [ready_done e3] at h; unfold rolD rolC at h; rwa [e3, ed] at h) rfl ?_
      simp -dsimp -implicitDefEqProofs (disch := first | assumption | omega | (simp [maxLen, avs_len] <;> omega) | decide) only [sT_move, sT_pick, sT_load, sT_fa, sT_bin, sT_len, sT_call0, sT_g, oK_some, q_o, loadF, fieldAddrF, binF_v, lenF, builtinF, v_eql, ↓reduceIte, q_b, ifp, guardA_some, guardV_t, q_f, q_s, q_l, q_n, Nat.reduceEqDiff, intsD, Nat.reduceAdd, beq_t, gK_tt, sz_27, ag_27, eo_27, fo_29_5]
      refine kc_by (ex_ints l (by omega)) rfl ?_
      simp -dsimp -implicitDefEqProofs (disch := first | assumption | omega | (simp [maxLen, avs_len] <;> omega) | decide) only [sT_move, sT_assign, sT_pick, sT_nil, sT_g, oK_some, q_o, ↓reduceIte, q_b, guardA_some, guardV_t, q_f, q_l, Nat.reduceEqDiff, gK_tt]
      refine hK28 _ _ ?_
      refine awp_ret ?_
      show closeA _ _ = _
      simp (disch := first | assumption | omega | (simp [maxLen, avs_len] <;> omega) | decide) only [closeA, retV, deep_d, Nat.reduceAdd, Nat.zero_add, D.fix, frL_get, ↓reduceIte, Option.map_some, List.length_cons, List.length_nil]
end Go.Proofs.Ytinefghmmbggeaa
