/- rollout.Valid. -/
import Derived.Test.YtinefghmmbggeaaQ
import Derived.Test.YtinefghmmbggeaaRe
set_option linter.unusedVariables false
set_option linter.unusedSimpArgs false
namespace Go.Proofs.Ytinefghmmbggeaa
open Go Go.RowKit
def subB (a b : List Int) : Bool := a.all fun x => decide (x ∈ b)
theorem subB_iff {a b : List Int} : subB a b = true ↔ ∀ x ∈ a, x ∈ b := by simp [subB]
theorem allIn_of {a b : List Int} : allIn (ofS b) a = subB a b := by
  unfold allIn subB
  congr 1
  funext x
  rw [decide_eq_decide]
  exact mem_of
def incB : List Int → Bool
  | a :: b :: l => decide (a < b) && incB (b :: l)
  | _ => true
theorem incB_iff : ∀ {l : List Int}, incB l = true ↔ ∀ j, j + 1 < l.length → nth l j < nth l (j + 1)
  | [] => by simp [incB]
  | [a] => by simp [incB]
  | a :: b :: l => by
    rw [incB, Bool.and_eq_true, decide_eq_true_eq, incB_iff]
    constructor
    · rintro ⟨h1, h2⟩ j hj
      cases j with
      | zero => simpa [nth] using h1
      | succ j => simpa [nth] using h2 j (by simp at hj ⊢; omega)
    · intro h
      exact ⟨by simpa [nth] using h 0 (by simp), fun j hj => by simpa [nth] using h (j + 1) (by simp at hj ⊢; omega)⟩
/-- The chips of the first n waves. -/
def uptoL (r : Rol) (n : Int) : List Int := (r.wv.take n.toNat).flatten
def headB (r : Rol) : Bool := decide (1 ≤ r.frm) && decide (1 ≤ r.to) && (r.frm != r.to) && decide (0 ≤ r.slk) && validW r.wv && decide (0 ≤ r.pos) && decide (r.pos ≤ r.wv.length)
def stateB (r : Rol) : Bool :=
  if r.st = 3 then r.pos == r.wv.length && subB (uptoL r r.wv.length) r.dn && subB r.dn (uptoL r r.wv.length)
  else (r.pos != r.wv.length) && subB r.dn (uptoL r (r.pos + 1)) &&
    (if r.st = 0 ∨ r.st = 1 then !subB (uptoL r (r.pos + 1)) r.dn && subB (uptoL r r.pos) r.dn
    else if r.st = 2 then !subB (uptoL r (r.pos + 1)) r.dn else if r.st = 4 then subB (uptoL r (r.pos + 1)) r.dn else false)
def validR (r : Rol) : Bool := headB r && incB r.dn && stateB r
theorem upto_z (r : Rol) (n : Int) (hr : ShortR r) (h0 : 0 ≤ n) (hn : n ≤ r.wv.length) : PCalls Try.prog 38 [rolD r, iD n] (.d (intsD (uptoL r n))) := by
  obtain ⟨m, rfl⟩ := Int.eq_ofNat_of_zero_le h0
  simpa [uptoL] using upto_c r m hr (by omega)
/-- Its numbers are in range. -/
structure OkI (r : Rol) : Prop where
  w : ∀ l ∈ r.wv, I64s l
  d : I64s r.dn
  p : I64 r.pos
theorem OkI.upto {r : Rol} (h : OkI r) (n : Int) : I64s (uptoL r n) := fun x hx => by
  obtain ⟨l, hl, hx⟩ := List.mem_flatten.1 hx
  exact h.w l (List.mem_of_mem_take hl) x hx
theorem ShortR.upto {r : Rol} (h : ShortR r) (n : Int) : (uptoL r n).length ≤ 1000000 := by
  have := sum_take r.wv n.toNat
  have := h.ws
  unfold sumL at *
  unfold uptoL
  omega
set_option maxRecDepth 100000 in
set_option linter.unusedVariables false in
set_option maxHeartbeats 4000000 in
theorem valid_c (r : Rol) (hr : ShortR r) (hi : OkI r) : PCalls Try.prog 12 [rolD r] (.d (.val (.bool (validR r)))) := by
  refine pcalls_of0 (fn := Try.f12) (by kernel_rfl) Try.func12 rfl (Nat.le_of_ble_eq_true rfl) fun c hc hp => ?_
  refine awp_less (τ' := frL [(0, .d (rolD r))]) (less_cons (less_nil _) rfl) ?_
  have hw1 := hr.wl
  have hw2 := hr.ws
  have hd1 := hr.dl
  refine awp_seq_s KT_ok hc rfl fun K1 hK1 => ?_
  simp -dsimp -implicitDefEqProofs (disch := first | assumption | omega | (simp [maxLen, avs_len] <;> omega) | decide) only [sT_assign, sT_box, deadH, sT_nil, oK_some, q_o, layF, ↓reduceIte, q_b, q_f, q_s, q_l, as_dagg, D.one, Value.oneCell', iD, intsD, intssD, deadH, rolD, rolC]
  refine hK1 _ _ ?_
  refine awp_seq_s KT_ok hc rfl fun K2 hK2 => ?_
  simp -dsimp -implicitDefEqProofs (disch := first | assumption | omega | (simp [maxLen, avs_len] <;> omega) | decide) only [sT_assign, sT_load, sT_fa, sT_len, sT_nil, oK_some, q_o, loadF, fieldAddrF, lenF, builtinF, ↓reduceIte, q_b, ifp, q_f, q_s, q_l, q_n, Nat.reduceEqDiff, fo_29_2, sz_26, ag_26, eo_26]
  refine hK2 _ _ ?_
  refine awp_seq_k fun K3 hK3 => ?_
  obtain ⟨bv, gv⟩ : ∃ b, validW r.wv = b := ⟨_, rfl⟩
  refine awp_seq_s KT_ok hc rfl fun K4 hK4 => ?_
  rcases (show r.frm < 1 ∨ (1 ≤ r.frm ∧ r.to < 1) ∨ ((1 ≤ r.frm ∧ 1 ≤ r.to) ∧ r.frm = r.to) ∨ ((1 ≤ r.frm ∧ 1 ≤ r.to) ∧ r.frm ≠ r.to ∧ r.slk < 0) ∨ ((1 ≤ r.frm ∧ 1 ≤ r.to) ∧ (r.frm ≠ r.to ∧ 0 ≤ r.slk) ∧ bv = false) ∨ ((1 ≤ r.frm ∧ 1 ≤ r.to) ∧ (r.frm ≠ r.to ∧ 0 ≤ r.slk) ∧ bv = true ∧ r.pos < 0) ∨ ((1 ≤ r.frm ∧ 1 ≤ r.to) ∧ (r.frm ≠ r.to ∧ 0 ≤ r.slk) ∧ bv = true ∧ 0 ≤ r.pos ∧ r.wv.length < r.pos) ∨ ((1 ≤ r.frm ∧ 1 ≤ r.to) ∧ (r.frm ≠ r.to ∧ 0 ≤ r.slk) ∧ bv = true ∧ 0 ≤ r.pos ∧ r.pos ≤ r.wv.length) from by cases bv <;> simp <;> omega) with g | ⟨g1, g⟩ | ⟨⟨g1, g2⟩, g⟩ | ⟨⟨g1, g2⟩, g3, g⟩ | ⟨⟨g1, g2⟩, ⟨g3, g4⟩, rfl⟩ | ⟨⟨g1, g2⟩, ⟨g3, g4⟩, rfl, g⟩ | ⟨⟨g1, g2⟩, ⟨g3, g4⟩, rfl, g5, g⟩ | ⟨⟨g1, g2⟩, ⟨g3, g4⟩, rfl, g5, g⟩
  · have hx : validR r = false := by simp [validR, headB, show ¬ 1 ≤ r.frm by omega]
    simp -dsimp -implicitDefEqProofs (disch := first | assumption | omega | (simp [maxLen, avs_len] <;> omega) | decide) only [sT_move, sT_pick, sT_load, sT_fa, sT_bin, sT_nil, sT_g, oK_some, gK_f, q_o, loadF, fieldAddrF, binF_v, v_lss, ↓reduceIte, q_b, ifp, guardA_some, guardV_f, q_f, q_l, q_n, Nat.reduceEqDiff, dec_t, nb_f, fo_29_0, sz_3, ag_3]
    refine hK4 _ _ ?_
    refine awp_cond rfl (fun ht => ?_) (fun ht => ?_)
    · refine awp_seq_s KT_ok hc rfl fun K5 hK5 => ?_
      simp -dsimp -implicitDefEqProofs (disch := first | assumption | omega | (simp [maxLen, avs_len] <;> omega) | decide) only [sT_assign, sT_nil, q_f]
      refine hK5 _ _ ?_
      refine awp_ret ?_
      show closeA _ _ = _
      simp (disch := first | assumption | omega | (simp [maxLen, avs_len] <;> omega) | decide) only [closeA, retV, deep_d, Nat.zero_add, D.fix, frL_get, ↓reduceIte, Option.map_some, List.length_cons, List.length_nil, hx]
    · cases ht
  · have hx : validR r = false := by simp [validR, headB, show ¬ 1 ≤ r.to by omega]
    simp -dsimp -implicitDefEqProofs (disch := first | assumption | omega | (simp [maxLen, avs_len] <;> omega) | decide) only [sT_move, sT_pick, sT_load, sT_fa, sT_bin, sT_nil, sT_g, oK_some, gK_t, gK_f, q_o, loadF, fieldAddrF, binF_v, v_lss, ↓reduceIte, q_b, ifp, guardA_some, guardV_f, q_f, q_l, q_n, Nat.reduceEqDiff, dec_t, dec_f, nb_t, nb_f, fo_29_0, sz_3, ag_3, fo_29_1]
    refine hK4 _ _ ?_
    refine awp_cond rfl (fun ht => ?_) (fun ht => ?_)
    · refine awp_seq_s KT_ok hc rfl fun K6 hK6 => ?_
      simp -dsimp -implicitDefEqProofs (disch := first | assumption | omega | (simp [maxLen, avs_len] <;> omega) | decide) only [sT_assign, sT_nil, q_f]
      refine hK6 _ _ ?_
      refine awp_ret ?_
      show closeA _ _ = _
      simp (disch := first | assumption | omega | (simp [maxLen, avs_len] <;> omega) | decide) only [closeA, retV, deep_d, Nat.zero_add, D.fix, frL_get, ↓reduceIte, Option.map_some, List.length_cons, List.length_nil, hx]
    · cases ht
  · have hx : validR r = false := by simp [validR, headB, g]
    simp -dsimp -implicitDefEqProofs (disch := first | assumption | omega | (simp [maxLen, avs_len] <;> omega) | decide) only [sT_move, sT_pick, sT_load, sT_fa, sT_bin, sT_nil, sT_g, oK_some, gK_t, gK_f, q_o, loadF, fieldAddrF, binF_v, v_eql, v_lss, ↓reduceIte, q_b, ifp, guardA_some, guardV_f, q_f, q_l, q_n, Nat.reduceEqDiff, dec_f, beq_t, nb_t, nb_f, fo_29_0, sz_3, ag_3, fo_29_1]
    refine hK4 _ _ ?_
    refine awp_cond rfl (fun ht => ?_) (fun ht => ?_)
    · refine awp_seq_s KT_ok hc rfl fun K7 hK7 => ?_
      simp -dsimp -implicitDefEqProofs (disch := first | assumption | omega | (simp [maxLen, avs_len] <;> omega) | decide) only [sT_assign, sT_nil, q_f]
      refine hK7 _ _ ?_
      refine awp_ret ?_
      show closeA _ _ = _
      simp (disch := first | assumption | omega | (simp [maxLen, avs_len] <;> omega) | decide) only [closeA, retV, deep_d, Nat.zero_add, D.fix, frL_get, ↓reduceIte, Option.map_some, List.length_cons, List.length_nil, hx]
    · cases ht
  · have hx : validR r = false := by simp [validR, headB, show ¬ 0 ≤ r.slk by omega]
    simp -dsimp -implicitDefEqProofs (disch := first | assumption | omega | (simp [maxLen, avs_len] <;> omega) | decide) only [sT_move, sT_pick, sT_load, sT_fa, sT_bin, sT_nil, sT_g, oK_some, gK_t, gK_f, q_o, loadF, fieldAddrF, binF_v, v_eql, v_lss, ↓reduceIte, q_b, ifp, guardA_some, guardV_f, q_f, q_l, q_n, Nat.reduceEqDiff, dec_t, dec_f, beq_f, nb_t, nb_f, fo_29_0, sz_3, ag_3, fo_29_1, fo_29_3]
    refine hK4 _ _ ?_
    refine awp_cond rfl (fun ht => ?_) (fun ht => ?_)
    · refine awp_seq_s KT_ok hc rfl fun K8 hK8 => ?_
      simp -dsimp -implicitDefEqProofs (disch := first | assumption | omega | (simp [maxLen, avs_len] <;> omega) | decide) only [sT_assign, sT_nil, q_f]
      refine hK8 _ _ ?_
      refine awp_ret ?_
      show closeA _ _ = _
      simp (disch := first | assumption | omega | (simp [maxLen, avs_len] <;> omega) | decide) only [closeA, retV, deep_d, Nat.zero_add, D.fix, frL_get, ↓reduceIte, Option.map_some, List.length_cons, List.length_nil, hx]
    · cases ht
  · have hx : validR r = false := by simp [validR, headB, gv]
    simp -dsimp -implicitDefEqProofs (disch := first | assumption | omega | (simp [maxLen, avs_len] <;> omega) | decide) only [sT_move, sT_pick, sT_load, sT_fa, sT_bin, sT_call0, sT_g, oK_some, gK_t, q_o, loadF, fieldAddrF, binF_v, v_eql, v_lss, ↓reduceIte, q_b, ifp, guardA_some, guardV_f, q_f, q_s, q_l, q_n, Nat.reduceEqDiff, dec_f, beq_f, nb_t, fo_29_0, sz_3, ag_3, fo_29_1, fo_29_3, fo_29_2, sz_26, ag_26]
    refine kc_by (valw_c r.wv hw1 (by omega) hi.w) rfl ?_
    simp -dsimp -implicitDefEqProofs (disch := first | assumption | omega | (simp [maxLen, avs_len] <;> omega) | decide) only [sT_move, sT_pick, sT_un, sT_nil, sT_g, oK_some, gK_t, gK_f, q_o, u_not, ↓reduceIte, q_b, guardA_some, guardV_f, q_f, q_l, Nat.reduceEqDiff, nb_t, nb_f, gv]
    refine hK4 _ _ ?_
    refine awp_cond rfl (fun ht => ?_) (fun ht => ?_)
    · refine awp_seq_s KT_ok hc rfl fun K9 hK9 => ?_
      simp -dsimp -implicitDefEqProofs (disch := first | assumption | omega | (simp [maxLen, avs_len] <;> omega) | decide) only [sT_assign, sT_nil, q_f]
      refine hK9 _ _ ?_
      refine awp_ret ?_
      show closeA _ _ = _
      simp (disch := first | assumption | omega | (simp [maxLen, avs_len] <;> omega) | decide) only [closeA, retV, deep_d, Nat.zero_add, D.fix, frL_get, ↓reduceIte, Option.map_some, List.length_cons, List.length_nil, hx]
    · cases ht
  · have hx : validR r = false := by simp [validR, headB, show ¬ 0 ≤ r.pos by omega]
    simp -dsimp -implicitDefEqProofs (disch := first | assumption | omega | (simp [maxLen, avs_len] <;> omega) | decide) only [sT_move, sT_pick, sT_load, sT_fa, sT_bin, sT_call0, sT_g, oK_some, gK_t, q_o, loadF, fieldAddrF, binF_v, v_eql, v_lss, ↓reduceIte, q_b, ifp, guardA_some, guardV_f, q_f, q_s, q_l, q_n, Nat.reduceEqDiff, dec_f, beq_f, nb_t, fo_29_0, sz_3, ag_3, fo_29_1, fo_29_3, fo_29_2, sz_26, ag_26]
    refine kc_by (valw_c r.wv hw1 (by omega) hi.w) rfl ?_
    simp -dsimp -implicitDefEqProofs (disch := first | assumption | omega | (simp [maxLen, avs_len] <;> omega) | decide) only [sT_move, sT_pick, sT_load, sT_fa, sT_bin, sT_un, sT_nil, sT_g, oK_some, gK_t, gK_f, q_o, loadF, fieldAddrF, binF_v, u_not, v_lss, ↓reduceIte, q_b, ifp, guardA_some, guardV_f, q_f, q_l, q_n, Nat.reduceEqDiff, dec_t, nb_t, nb_f, gv, sz_3, ag_3, fo_29_4]
    refine hK4 _ _ ?_
    refine awp_cond rfl (fun ht => ?_) (fun ht => ?_)
    · refine awp_seq_s KT_ok hc rfl fun K10 hK10 => ?_
      simp -dsimp -implicitDefEqProofs (disch := first | assumption | omega | (simp [maxLen, avs_len] <;> omega) | decide) only [sT_assign, sT_nil, q_f]
      refine hK10 _ _ ?_
      refine awp_ret ?_
      show closeA _ _ = _
      simp (disch := first | assumption | omega | (simp [maxLen, avs_len] <;> omega) | decide) only [closeA, retV, deep_d, Nat.zero_add, D.fix, frL_get, ↓reduceIte, Option.map_some, List.length_cons, List.length_nil, hx]
    · cases ht
  · have hx : validR r = false := by simp [validR, headB, show ¬ r.pos ≤ r.wv.length by omega]
    simp -dsimp -implicitDefEqProofs (disch := first | assumption | omega | (simp [maxLen, avs_len] <;> omega) | decide) only [sT_move, sT_pick, sT_load, sT_fa, sT_bin, sT_call0, sT_g, oK_some, gK_t, q_o, loadF, fieldAddrF, binF_v, v_eql, v_lss, ↓reduceIte, q_b, ifp, guardA_some, guardV_f, q_f, q_s, q_l, q_n, Nat.reduceEqDiff, dec_f, beq_f, nb_t, fo_29_0, sz_3, ag_3, fo_29_1, fo_29_3, fo_29_2, sz_26, ag_26]
    refine kc_by (valw_c r.wv hw1 (by omega) hi.w) rfl ?_
    simp -dsimp -implicitDefEqProofs (disch := first | assumption | omega | (simp [maxLen, avs_len] <;> omega) | decide) only [sT_move, sT_pick, sT_load, sT_fa, sT_bin, sT_un, sT_nil, sT_g, oK_some, gK_t, q_o, loadF, fieldAddrF, binF_v, u_not, v_lss, v_gtr, ↓reduceIte, q_b, ifp, guardA_some, guardV_f, q_f, q_l, q_n, Nat.reduceEqDiff, dec_t, dec_f, nb_t, nb_f, gv, sz_3, ag_3, fo_29_4]
    refine hK4 _ _ ?_
    refine awp_cond rfl (fun ht => ?_) (fun ht => ?_)
    · refine awp_seq_s KT_ok hc rfl fun K11 hK11 => ?_
      simp -dsimp -implicitDefEqProofs (disch := first | assumption | omega | (simp [maxLen, avs_len] <;> omega) | decide) only [sT_assign, sT_nil, q_f]
      refine hK11 _ _ ?_
      refine awp_ret ?_
      show closeA _ _ = _
      simp (disch := first | assumption | omega | (simp [maxLen, avs_len] <;> omega) | decide) only [closeA, retV, deep_d, Nat.zero_add, D.fix, frL_get, ↓reduceIte, Option.map_some, List.length_cons, List.length_nil, hx]
    · cases ht
  · have hh : headB r = true := by simp [headB, g1, g2, g3, g4, gv, g5, g]
    simp -dsimp -implicitDefEqProofs (disch := first | assumption | omega | (simp [maxLen, avs_len] <;> omega) | decide) only [sT_move, sT_pick, sT_load, sT_fa, sT_bin, sT_call0, sT_g, oK_some, gK_t, q_o, loadF, fieldAddrF, binF_v, v_eql, v_lss, ↓reduceIte, q_b, ifp, guardA_some, guardV_f, q_f, q_s, q_l, q_n, Nat.reduceEqDiff, dec_f, beq_f, nb_t, fo_29_0, sz_3, ag_3, fo_29_1, fo_29_3, fo_29_2, sz_26, ag_26]
    refine kc_by (valw_c r.wv hw1 (by omega) hi.w) rfl ?_
    simp -dsimp -implicitDefEqProofs (disch := first | assumption | omega | (simp [maxLen, avs_len] <;> omega) | decide) only [sT_move, sT_pick, sT_load, sT_fa, sT_bin, sT_un, sT_nil, sT_g, oK_some, gK_t, q_o, loadF, fieldAddrF, binF_v, u_not, v_lss, v_gtr, ↓reduceIte, q_b, ifp, guardA_some, guardV_f, q_f, q_l, q_n, Nat.reduceEqDiff, dec_f, nb_t, nb_f, gv, sz_3, ag_3, fo_29_4]
    refine hK4 _ _ ?_
    refine awp_cond rfl (fun ht => ?_) (fun ht => ?_)
    · cases ht
    · refine awp_skip (hK3 _ _ ?_)
      refine awp_seq_k fun K12 hK12 => ?_
      refine awp_seq_s KT_ok hc rfl fun K13 hK13 => ?_
      simp -dsimp -implicitDefEqProofs (disch := first | assumption | omega | (simp [maxLen, avs_len] <;> omega) | decide) only [sT_assign, sT_nil, q_f]
      refine hK13 _ _ ?_
      refine awp_block ?_
      refine awp_loop_rt hp (fun τ' H' mm => ∃ i, (1 ≤ i ∧ i ≤ r.dn.length + 1 ∧ ∀ j, j + 1 < i → j + 1 < r.dn.length → nth r.dn j < nth r.dn (j + 1)) ∧ mm = r.dn.length + 1 - i ∧ H' = [.cells (avs (rolC r))] ∧ τ' = frL [(1, .op 0 0), (3, .d (iD r.wv.length)), (4, .d (iD i))]) (r.dn.length) ?_ ⟨1, ⟨Nat.le_refl _, by omega, fun j hj => absurd hj (by omega)⟩, rfl, rfl, rfl⟩ ?_
      · refine Rt.end (less_cons (less_cons (less_cons (less_nil _) rfl) rfl) rfl) ?_
        first | rfl | (simp only [intsD, boolsD, bytesD, intssD, bytessD, gcH, gcO, gcVs_avs, gcVs, gcV, gcV_d, fzH, fzO, fzVs_avs, fzVs, fzV, posN, avs_nil, avs_cons, List.map_cons, List.map_nil, List.getD_cons_zero, List.getD_cons_succ, ↓reduceIte, Nat.reduceEqDiff, Option.map_some, List.set_cons_zero, List.set_cons_succ, takeD_avs, takeD_all, Nat.mul_one, List.length_map, List.cons_append, List.nil_append, rolD, rolC, allIn_of]; first | done | rfl)
      rintro τ' H' mm ⟨i, ⟨hi1, hi2, hf⟩, rfl, rfl, rfl⟩
      refine awp_seq_k fun K14 hK14 => ?_
      refine awp_seq_s KT_ok hc rfl fun K15 hK15 => ?_
      simp -dsimp -implicitDefEqProofs (disch := first | assumption | omega | (simp [maxLen, avs_len] <;> omega) | decide) only [sT_move, sT_load, sT_fa, sT_bin, sT_len, sT_nil, oK_some, q_o, loadF, fieldAddrF, binF_v, lenF, builtinF, v_lss, ↓reduceIte, q_b, ifp, q_f, q_s, q_l, q_n, Nat.reduceEqDiff, avs_nil, avs_cons, iD, intsD, intssD, rolC, fo_29_5, sz_27, ag_27, eo_27]
      refine hK15 _ _ ?_
      refine awp_cond rfl (fun ht => ?_) (fun ht => ?_)
      · have hlt : i < r.dn.length := by simp at ht; omega
        have e1 : ((i : Int) - 1).toNat = i - 1 := by omega
        refine awp_skip (hK14 _ _ ?_)
        refine awp_seq_k fun K16 hK16 => ?_
        refine awp_block ?_
        refine awp_seq_se KT_ok hc mixed rfl (q := 0) (by kernel_rfl) (by kernel_rfl) fun K17 hK17 => ?_
        simp -dsimp -implicitDefEqProofs (disch := first | assumption | omega | (simp [maxLen, avs_len] <;> omega) | decide) only [sE_move, sE_load, sE_fa, sE_ia, sE_bin, sE_nil, oK_some, q_o, loadF, fieldAddrF, ixO, indexAddrF, binF_v, v_sub, v_geq, ↓reduceIte, q_b, ifp, q_f, q_l, List.append_nil, List.replicate_zero, Int.toNat_natCast, q_n, Nat.reduceEqDiff, killAll, get_map, iD, Nat.reduceAdd, e1, fo_29_5, sz_27, ag_27, eo_27, sz_3, ag_3]
        refine hK17 _ _ ?_
        refine awp_cond rfl (fun ht => ?_) (fun ht => ?_)
        · have hb : incB r.dn = false := by
            cases h : incB r.dn with
            | false => rfl
            | true =>
              have := incB_iff.1 h (i - 1) (by omega)
              rw [show i - 1 + 1 = i by omega] at this
              simp at ht
              omega
          have hx : validR r = false := by simp [validR, hb]
          refine awp_seq_s KT_ok hc rfl fun K18 hK18 => ?_
          simp -dsimp -implicitDefEqProofs (disch := first | assumption | omega | (simp [maxLen, avs_len] <;> omega) | decide) only [sT_assign, sT_nil, q_f]
          refine hK18 _ _ ?_
          refine awp_ret ?_
          show closeA _ _ = _
          simp (disch := first | assumption | omega | (simp [maxLen, avs_len] <;> omega) | decide) only [closeA, retV, deep_d, Nat.zero_add, D.fix, frL_get, ↓reduceIte, Option.map_some, List.length_cons, List.length_nil, hx]
        · have hf' : ∀ j, j + 1 < i + 1 → j + 1 < r.dn.length → nth r.dn j < nth r.dn (j + 1) := fun j h1 h2 => by
            rcases Nat.lt_or_ge (j + 1) i with h | h
            · exact hf j h h2
            · obtain rfl : i = j + 1 := by omega
              rw [Nat.add_sub_cancel] at ht
              simp at ht
              exact ht
          refine awp_skip (hK16 _ _ ?_)
          refine awp_s KT_ok hc rfl fun K19 hK19 => ?_
          simp -dsimp -implicitDefEqProofs (disch := first | assumption | omega | (simp [maxLen, avs_len] <;> omega) | decide) only [sT_move, sT_assign, sT_bin, sT_nil, oK_some, q_o, binF_v, v_add, ↓reduceIte, q_b, q_f, Nat.reduceEqDiff]
          refine hK19 _ _ ⟨_, _, _, ?_, ⟨i + 1, ⟨by omega, by omega, hf'⟩, rfl, rfl, rfl⟩, ?_⟩
          · first | omega | (simp only [List.length_cons]; omega) | (dsimp only; omega)
          · refine Rt.end (less_cons (less_cons (less_cons (less_nil _) rfl) rfl) rfl) ?_
            first | rfl | (simp only [intsD, boolsD, bytesD, intssD, bytessD, gcH, gcO, gcVs_avs, gcVs, gcV, gcV_d, fzH, fzO, fzVs_avs, fzVs, fzV, posN, avs_nil, avs_cons, List.map_cons, List.map_nil, List.getD_cons_zero, List.getD_cons_succ, ↓reduceIte, Nat.reduceEqDiff, Option.map_some, List.set_cons_zero, List.set_cons_succ, takeD_avs, takeD_all, Nat.mul_one, List.length_map, List.cons_append, List.nil_append, rolD, rolC, allIn_of]; first | done | rfl)
      · have hb : incB r.dn = true := incB_iff.2 fun j hj => hf j (by simp at ht; omega) hj
        have hs : validR r = stateB r := by simp [validR, hh, hb]
        refine awp_exit (hK12 _ _ ?_)
        refine awp_seq_s KT_ok hc rfl fun K20 hK20 => ?_
        simp -dsimp -implicitDefEqProofs (disch := first | assumption | omega | (simp [maxLen, avs_len] <;> omega) | decide) only [sT_load, sT_fa, sT_call0, oK_some, loadF, fieldAddrF, ↓reduceIte, q_b, ifp, q_f, q_s, q_l, q_n, Nat.reduceEqDiff, fo_29_5, sz_27, ag_27]
        refine kc_by (of_p r.dn hi.d (by omega)) rfl ?_
        simp -dsimp -implicitDefEqProofs (disch := first | assumption | omega | (simp [maxLen, avs_len] <;> omega) | decide) only [sT_assign, sT_nil, ↓reduceIte, q_b, q_f]
        refine hK20 _ _ ?_
        refine awp_seq_k fun K21 hK21 => ?_
        refine awp_seq_s KT_ok hc rfl fun K22 hK22 => ?_
        by_cases hg : r.st = 3
        · simp -dsimp -implicitDefEqProofs (disch := first | assumption | omega | (simp [maxLen, avs_len] <;> omega) | decide) only [sT_load, sT_fa, sT_bin, sT_nil, oK_some, q_o, loadF, fieldAddrF, binF_v, v_eql, ↓reduceIte, q_b, ifp, q_f, q_l, q_n, Nat.reduceEqDiff, beq_t, fo_29_6, sz_3, ag_3]
          refine hK22 _ _ ?_
          refine awp_cond rfl (fun ht => ?_) (fun ht => ?_)
          · refine awp_seq_se KT_ok hc mixed rfl (q := 0) (by kernel_rfl) (by kernel_rfl) fun K23 hK23 => ?_
            rcases hq : subB (uptoL r r.wv.length) r.dn with _ | _ <;> by_cases hpp : r.pos = r.wv.length
            · have hx : validR r = false := by rw [hs]; simp [stateB, hg, hq]
              simp -dsimp -implicitDefEqProofs (disch := first | assumption | omega | (simp [maxLen, avs_len] <;> omega) | decide) only [sE_move, sE_load, sE_fa, sE_bin, sE_call0, oK_some, gK_t, q_o, loadF, fieldAddrF, binF_v, v_eql, ↓reduceIte, q_b, ifp, guardA_some, guardV_t, q_f, q_s, q_l, List.append_nil, List.replicate_zero, q_n, Nat.reduceEqDiff, takeD_all, Nat.reduceAdd, sE_gg, beq_t, fo_29_4, sz_29, ag_29, sz_3, ag_3]
              refine kc_by (upto_z r r.wv.length hr (by omega) (by omega)) rfl ?_
              simp -dsimp -implicitDefEqProofs (disch := first | assumption | omega | (simp [maxLen, avs_len] <;> omega) | decide) only [sE_call0, gK_t, q_o, ↓reduceIte, q_b, guardA_some, guardV_t, q_f, q_s, q_l, Nat.reduceEqDiff, intsD, Nat.reduceAdd, sE_gg]
              refine kc_by (has_c (ofS r.dn) (OkS.of hi.d) (uptoL r r.wv.length) (hi.upto _) (hr.upto _)) rfl ?_
              simp -dsimp -implicitDefEqProofs (disch := first | assumption | omega | (simp [maxLen, avs_len] <;> omega) | decide) only [sE_move, sE_assign, sE_pick, sE_nil, oK_some, gK_f, q_o, ↓reduceIte, q_b, guardA_some, guardV_t, q_f, q_l, Nat.reduceEqDiff, killAll, Nat.reduceAdd, sE_gg, ly_move, ly_load, ly_fa, ly_call0, allIn_of, hq]
              refine hK23 _ _ ?_
              refine awp_ret ?_
              show closeA _ _ = _
              simp (disch := first | assumption | omega | (simp [maxLen, avs_len] <;> omega) | decide) only [closeA, retV, deep_d, Nat.zero_add, D.fix, frL_get, ↓reduceIte, Option.map_some, List.length_cons, List.length_nil, hx]
            · have hx : validR r = false := by rw [hs]; simp [stateB, hg, hpp]
              simp -dsimp -implicitDefEqProofs (disch := first | assumption | omega | (simp [maxLen, avs_len] <;> omega) | decide) only [sE_move, sE_assign, sE_pick, sE_load, sE_fa, sE_bin, sE_nil, oK_some, gK_f, q_o, loadF, fieldAddrF, binF_v, v_eql, ↓reduceIte, q_b, ifp, guardA_some, guardV_t, q_f, q_l, List.append_nil, List.replicate_zero, q_n, Nat.reduceEqDiff, killAll, Nat.reduceAdd, sE_gg, ly_move, ly_load, ly_fa, ly_call0, beq_f, fo_29_4, sz_3, ag_3]
              refine hK23 _ _ ?_
              refine awp_ret ?_
              show closeA _ _ = _
              simp (disch := first | assumption | omega | (simp [maxLen, avs_len] <;> omega) | decide) only [closeA, retV, deep_d, Nat.zero_add, D.fix, frL_get, ↓reduceIte, Option.map_some, List.length_cons, List.length_nil, hx]
            · have hx : validR r = subB r.dn (uptoL r r.wv.length) := by rw [hs]; simp [stateB, hg, hq, hpp]
              simp -dsimp -implicitDefEqProofs (disch := first | assumption | omega | (simp [maxLen, avs_len] <;> omega) | decide) only [sE_move, sE_load, sE_fa, sE_bin, sE_call0, oK_some, gK_t, q_o, loadF, fieldAddrF, binF_v, v_eql, ↓reduceIte, q_b, ifp, guardA_some, guardV_t, q_f, q_s, q_l, List.append_nil, List.replicate_zero, q_n, Nat.reduceEqDiff, takeD_all, Nat.reduceAdd, sE_gg, beq_t, fo_29_4, sz_29, ag_29, sz_3, ag_3]
              refine kc_by (upto_z r r.wv.length hr (by omega) (by omega)) rfl ?_
              simp -dsimp -implicitDefEqProofs (disch := first | assumption | omega | (simp [maxLen, avs_len] <;> omega) | decide) only [sE_call0, gK_t, q_o, ↓reduceIte, q_b, guardA_some, guardV_t, q_f, q_s, q_l, Nat.reduceEqDiff, intsD, Nat.reduceAdd, sE_gg]
              refine kc_by (has_c (ofS r.dn) (OkS.of hi.d) (uptoL r r.wv.length) (hi.upto _) (hr.upto _)) rfl ?_
              simp -dsimp -implicitDefEqProofs (disch := first | assumption | omega | (simp [maxLen, avs_len] <;> omega) | decide) only [sE_move, sE_pick, sE_load, sE_call0, oK_some, gK_t, q_o, loadF, ↓reduceIte, q_b, ifp, guardA_some, guardV_t, q_f, q_s, q_l, Nat.reduceEqDiff, takeD_all, Nat.reduceAdd, sE_gg, allIn_of, hq, sz_29, ag_29]
              refine kc_by (upto_z r r.wv.length hr (by omega) (by omega)) rfl ?_
              simp -dsimp -implicitDefEqProofs (disch := first | assumption | omega | (simp [maxLen, avs_len] <;> omega) | decide) only [sE_call0, gK_t, q_o, ↓reduceIte, q_b, guardA_some, guardV_t, q_f, q_s, q_l, Nat.reduceEqDiff, intsD, Nat.reduceAdd, sE_gg]
              refine kc_by (of_p (uptoL r r.wv.length) (hi.upto _) (hr.upto _)) rfl ?_
              simp -dsimp -implicitDefEqProofs (disch := first | assumption | omega | (simp [maxLen, avs_len] <;> omega) | decide) only [sE_load, sE_fa, sE_call0, oK_some, gK_t, q_o, loadF, fieldAddrF, ↓reduceIte, q_b, ifp, guardA_some, guardV_t, q_f, q_s, q_l, q_n, Nat.reduceEqDiff, Nat.reduceAdd, sE_gg, sz_27, ag_27, fo_29_5]
              refine kc_by (has_c (ofS (uptoL r r.wv.length)) (OkS.of (hi.upto _)) r.dn hi.d hd1) rfl ?_
              simp -dsimp -implicitDefEqProofs (disch := first | assumption | omega | (simp [maxLen, avs_len] <;> omega) | decide) only [sE_assign, sE_pick, sE_nil, oK_some, ↓reduceIte, q_b, q_f, Nat.reduceEqDiff, killAll, Nat.reduceAdd, allIn_of]
              refine hK23 _ _ ?_
              refine awp_ret ?_
              show closeA _ _ = _
              simp (disch := first | assumption | omega | (simp [maxLen, avs_len] <;> omega) | decide) only [closeA, retV, deep_d, Nat.zero_add, D.fix, frL_get, ↓reduceIte, Option.map_some, List.length_cons, List.length_nil, hx]
            · have hx : validR r = false := by rw [hs]; simp [stateB, hg, hpp]
              simp -dsimp -implicitDefEqProofs (disch := first | assumption | omega | (simp [maxLen, avs_len] <;> omega) | decide) only [sE_move, sE_assign, sE_pick, sE_load, sE_fa, sE_bin, sE_nil, oK_some, gK_f, q_o, loadF, fieldAddrF, binF_v, v_eql, ↓reduceIte, q_b, ifp, guardA_some, guardV_t, q_f, q_l, List.append_nil, List.replicate_zero, q_n, Nat.reduceEqDiff, killAll, Nat.reduceAdd, sE_gg, ly_move, ly_load, ly_fa, ly_call0, beq_f, fo_29_4, sz_3, ag_3]
              refine hK23 _ _ ?_
              refine awp_ret ?_
              show closeA _ _ = _
              simp (disch := first | assumption | omega | (simp [maxLen, avs_len] <;> omega) | decide) only [closeA, retV, deep_d, Nat.zero_add, D.fix, frL_get, ↓reduceIte, Option.map_some, List.length_cons, List.length_nil, hx]
          · cases ht
        · simp -dsimp -implicitDefEqProofs (disch := first | assumption | omega | (simp [maxLen, avs_len] <;> omega) | decide) only [sT_load, sT_fa, sT_bin, sT_nil, oK_some, q_o, loadF, fieldAddrF, binF_v, v_eql, ↓reduceIte, q_b, ifp, q_f, q_l, q_n, Nat.reduceEqDiff, beq_f, fo_29_6, sz_3, ag_3]
          refine hK22 _ _ ?_
          refine awp_cond rfl (fun ht => ?_) (fun ht => ?_)
          · cases ht
          · refine awp_skip (hK21 _ _ ?_)
            refine awp_seq_k fun K24 hK24 => ?_
            refine awp_seq_s KT_ok hc rfl fun K25 hK25 => ?_
            simp -dsimp -implicitDefEqProofs (disch := first | assumption | omega | (simp [maxLen, avs_len] <;> omega) | decide) only [sT_move, sT_load, sT_fa, sT_bin, sT_nil, oK_some, q_o, loadF, fieldAddrF, binF_v, v_eql, ↓reduceIte, q_b, ifp, q_f, q_l, q_n, Nat.reduceEqDiff, fo_29_4, sz_3, ag_3]
            refine hK25 _ _ ?_
            refine awp_cond rfl (fun ht => ?_) (fun ht => ?_)
            · have hpe : r.pos = r.wv.length := by simpa using ht
              have hx : validR r = false := by rw [hs]; simp [stateB, hg, hpe]
              refine awp_seq_s KT_ok hc rfl fun K26 hK26 => ?_
              simp -dsimp -implicitDefEqProofs (disch := first | assumption | omega | (simp [maxLen, avs_len] <;> omega) | decide) only [sT_assign, sT_nil, q_f]
              refine hK26 _ _ ?_
              refine awp_ret ?_
              show closeA _ _ = _
              simp (disch := first | assumption | omega | (simp [maxLen, avs_len] <;> omega) | decide) only [closeA, retV, deep_d, Nat.zero_add, D.fix, frL_get, ↓reduceIte, Option.map_some, List.length_cons, List.length_nil, hx]
            · have hpn : r.pos ≠ r.wv.length := by simpa using ht
              refine awp_skip (hK24 _ _ ?_)
              refine awp_seq_s KT_ok hc rfl fun K27 hK27 => ?_
              simp -dsimp -implicitDefEqProofs (disch := first | assumption | omega | (simp [maxLen, avs_len] <;> omega) | decide) only [sT_load, sT_fa, sT_bin, sT_call0, oK_some, q_o, loadF, fieldAddrF, binF_v, v_add, ↓reduceIte, q_b, ifp, q_f, q_s, q_l, q_n, Nat.reduceEqDiff, takeD_all, sz_29, ag_29, fo_29_4, sz_3, ag_3]
              refine kc_by (upto_z r (r.pos + 1) hr (by omega) (by omega)) rfl ?_
              simp -dsimp -implicitDefEqProofs (disch := first | assumption | omega | (simp [maxLen, avs_len] <;> omega) | decide) only [sT_assign, sT_nil, ↓reduceIte, q_b, q_f, intsD]
              refine hK27 _ _ ?_
              refine awp_seq_s KT_ok hc rfl fun K28 hK28 => ?_
              simp -dsimp -implicitDefEqProofs (disch := first | assumption | omega | (simp [maxLen, avs_len] <;> omega) | decide) only [sT_move, sT_call0, ↓reduceIte, q_b, q_f, q_s, q_l, q_n, Nat.reduceEqDiff]
              refine kc_by (has_c (ofS r.dn) (OkS.of hi.d) (uptoL r (r.pos + 1)) (hi.upto _) (hr.upto _)) rfl ?_
              simp -dsimp -implicitDefEqProofs (disch := first | assumption | omega | (simp [maxLen, avs_len] <;> omega) | decide) only [sT_assign, sT_nil, ↓reduceIte, q_b, q_f, allIn_of]
              refine hK28 _ _ ?_
              refine awp_seq_k fun K29 hK29 => ?_
              refine awp_seq_se KT_ok hc mixed rfl (q := 0) (by kernel_rfl) (by kernel_rfl) fun K30 hK30 => ?_
              simp -dsimp -implicitDefEqProofs (disch := first | assumption | omega | (simp [maxLen, avs_len] <;> omega) | decide) only [sE_move, sE_call0, ↓reduceIte, q_b, q_f, q_s, q_l, List.append_nil, List.replicate_zero, q_n, Nat.reduceEqDiff]
              refine kc_by (of_p (uptoL r (r.pos + 1)) (hi.upto _) (hr.upto _)) rfl ?_
              simp -dsimp -implicitDefEqProofs (disch := first | assumption | omega | (simp [maxLen, avs_len] <;> omega) | decide) only [sE_load, sE_fa, sE_call0, oK_some, loadF, fieldAddrF, ↓reduceIte, q_b, ifp, q_f, q_s, q_l, q_n, Nat.reduceEqDiff, Nat.reduceAdd, sz_27, ag_27, fo_29_5]
              refine kc_by (has_c (ofS (uptoL r (r.pos + 1))) (OkS.of (hi.upto _)) r.dn hi.d hd1) rfl ?_
              simp -dsimp -implicitDefEqProofs (disch := first | assumption | omega | (simp [maxLen, avs_len] <;> omega) | decide) only [sE_un, sE_nil, oK_some, u_not, ↓reduceIte, q_b, q_f, killAll, Nat.reduceAdd, allIn_of]
              refine hK30 _ _ ?_
              refine awp_cond rfl (fun ht => ?_) (fun ht => ?_)
              · have hx : validR r = false := by rw [hs]; simp at ht; simp [stateB, hg, ht]
                refine awp_seq_s KT_ok hc rfl fun K31 hK31 => ?_
                simp -dsimp -implicitDefEqProofs (disch := first | assumption | omega | (simp [maxLen, avs_len] <;> omega) | decide) only [sT_assign, sT_nil, q_f]
                refine hK31 _ _ ?_
                refine awp_ret ?_
                show closeA _ _ = _
                simp (disch := first | assumption | omega | (simp [maxLen, avs_len] <;> omega) | decide) only [closeA, retV, deep_d, Nat.zero_add, D.fix, frL_get, ↓reduceIte, Option.map_some, List.length_cons, List.length_nil, hx]
              · have hsub : subB r.dn (uptoL r (r.pos + 1)) = true := by simpa using ht
                refine awp_skip (hK29 _ _ ?_)
                refine awp_seq_k fun K32 hK32 => ?_
                refine awp_seq_s KT_ok hc rfl fun K33 hK33 => ?_
                simp -dsimp -implicitDefEqProofs (disch := first | assumption | omega | (simp [maxLen, avs_len] <;> omega) | decide) only [sT_load, sT_fa, sT_nil, oK_some, loadF, fieldAddrF, ↓reduceIte, q_b, ifp, q_f, q_l, q_n, Nat.reduceEqDiff, fo_29_6, sz_3, ag_3]
                refine hK33 _ _ ?_
                refine awp_block ?_
                refine awp_seq_k fun K34 hK34 => ?_
                refine awp_seq_s KT_ok hc rfl fun K35 hK35 => ?_
                rcases (show r.st = 0 ∨ r.st = 1 ∨ r.st = 2 ∨ r.st = 4 ∨ ((r.st ≠ 0 ∧ r.st ≠ 1) ∧ r.st ≠ 2 ∧ r.st ≠ 4) from by omega) with h | h | h | h | ⟨⟨h0, h1⟩, h2, h4⟩
                · simp -dsimp -implicitDefEqProofs (disch := first | assumption | omega | (simp [maxLen, avs_len] <;> omega) | decide) only [sT_assign, sT_bin, sT_nil, oK_some, q_o, binF_v, v_eql, ↓reduceIte, q_b, q_f, beq_t, beq_f, nb_f]
                  refine hK35 _ _ ?_
                  refine awp_cond rfl (fun ht => ?_) (fun ht => ?_)
                  · refine awp_skip (hK34 _ _ ?_)
                    refine awp_cond rfl (fun ht => ?_) (fun ht => ?_)
                    · refine awp_seq_s KT_ok hc rfl fun K36 hK36 => ?_
                      rcases hq : subB (uptoL r (r.pos + 1)) r.dn with _ | _
                      · have hx : validR r = subB (uptoL r r.pos) r.dn := by rw [hs]; simp [stateB, hpn, hsub, h, hq]
                        simp -dsimp -implicitDefEqProofs (disch := first | assumption | omega | (simp [maxLen, avs_len] <;> omega) | decide) only [sT_move, sT_load, sT_fa, sT_un, sT_call0, sT_g, oK_some, gK_t, q_o, loadF, fieldAddrF, u_not, ↓reduceIte, q_b, ifp, guardA_some, guardV_t, q_f, q_s, q_l, q_n, Nat.reduceEqDiff, takeD_all, sz_29, ag_29, fo_29_4, sz_3, ag_3]
                        refine kc_by (upto_z r r.pos hr (by omega) (by omega)) rfl ?_
                        simp -dsimp -implicitDefEqProofs (disch := first | assumption | omega | (simp [maxLen, avs_len] <;> omega) | decide) only [sT_call0, sT_g, gK_t, q_o, ↓reduceIte, q_b, guardA_some, guardV_t, q_f, q_s, q_l, q_n, Nat.reduceEqDiff, intsD]
                        refine kc_by (has_c (ofS r.dn) (OkS.of hi.d) (uptoL r r.pos) (hi.upto _) (hr.upto _)) rfl ?_
                        simp -dsimp -implicitDefEqProofs (disch := first | assumption | omega | (simp [maxLen, avs_len] <;> omega) | decide) only [sT_assign, sT_pick, sT_nil, oK_some, ↓reduceIte, q_b, q_f, Nat.reduceEqDiff, allIn_of]
                        refine hK36 _ _ ?_
                        refine awp_ret ?_
                        show closeA _ _ = _
                        simp (disch := first | assumption | omega | (simp [maxLen, avs_len] <;> omega) | decide) only [closeA, retV, deep_d, Nat.zero_add, D.fix, frL_get, ↓reduceIte, Option.map_some, List.length_cons, List.length_nil, hx]
                      · have hx : validR r = false := by rw [hs]; simp [stateB, hsub, h, hq]
                        simp -dsimp -implicitDefEqProofs (disch := first | assumption | omega | (simp [maxLen, avs_len] <;> omega) | decide) only [sT_move, sT_assign, sT_pick, sT_un, sT_nil, sT_g, oK_some, gK_f, q_o, u_not, ↓reduceIte, q_b, guardA_some, guardV_t, q_f, q_l, Nat.reduceEqDiff]
                        refine hK36 _ _ ?_
                        refine awp_ret ?_
                        show closeA _ _ = _
                        simp (disch := first | assumption | omega | (simp [maxLen, avs_len] <;> omega) | decide) only [closeA, retV, deep_d, Nat.zero_add, D.fix, frL_get, ↓reduceIte, Option.map_some, List.length_cons, List.length_nil, hx]
                    · cases ht
                  · cases ht
                · simp -dsimp -implicitDefEqProofs (disch := first | assumption | omega | (simp [maxLen, avs_len] <;> omega) | decide) only [sT_assign, sT_bin, sT_nil, oK_some, q_o, binF_v, v_eql, ↓reduceIte, q_b, q_f, beq_f, nb_f]
                  refine hK35 _ _ ?_
                  refine awp_cond rfl (fun ht => ?_) (fun ht => ?_)
                  · cases ht
                  · refine awp_s KT_ok hc rfl fun K37 hK37 => ?_
                    simp -dsimp -implicitDefEqProofs (disch := first | assumption | omega | (simp [maxLen, avs_len] <;> omega) | decide) only [sT_assign, sT_bin, sT_nil, oK_some, q_o, binF_v, v_eql, ↓reduceIte, q_b, q_f, Nat.reduceEqDiff, beq_t]
                    refine hK37 _ _ (hK34 _ _ ?_)
                    refine awp_cond rfl (fun ht => ?_) (fun ht => ?_)
                    · refine awp_seq_s KT_ok hc rfl fun K38 hK38 => ?_
                      rcases hq : subB (uptoL r (r.pos + 1)) r.dn with _ | _
                      · have hx : validR r = subB (uptoL r r.pos) r.dn := by rw [hs]; simp [stateB, hpn, hsub, h, hq]
                        simp -dsimp -implicitDefEqProofs (disch := first | assumption | omega | (simp [maxLen, avs_len] <;> omega) | decide) only [sT_move, sT_load, sT_fa, sT_un, sT_call0, sT_g, oK_some, gK_t, q_o, loadF, fieldAddrF, u_not, ↓reduceIte, q_b, ifp, guardA_some, guardV_t, q_f, q_s, q_l, q_n, Nat.reduceEqDiff, takeD_all, sz_29, ag_29, fo_29_4, sz_3, ag_3]
                        refine kc_by (upto_z r r.pos hr (by omega) (by omega)) rfl ?_
                        simp -dsimp -implicitDefEqProofs (disch := first | assumption | omega | (simp [maxLen, avs_len] <;> omega) | decide) only [sT_call0, sT_g, gK_t, q_o, ↓reduceIte, q_b, guardA_some, guardV_t, q_f, q_s, q_l, q_n, Nat.reduceEqDiff, intsD]
                        refine kc_by (has_c (ofS r.dn) (OkS.of hi.d) (uptoL r r.pos) (hi.upto _) (hr.upto _)) rfl ?_
                        simp -dsimp -implicitDefEqProofs (disch := first | assumption | omega | (simp [maxLen, avs_len] <;> omega) | decide) only [sT_assign, sT_pick, sT_nil, oK_some, ↓reduceIte, q_b, q_f, Nat.reduceEqDiff, allIn_of]
                        refine hK38 _ _ ?_
                        refine awp_ret ?_
                        show closeA _ _ = _
                        simp (disch := first | assumption | omega | (simp [maxLen, avs_len] <;> omega) | decide) only [closeA, retV, deep_d, Nat.zero_add, D.fix, frL_get, ↓reduceIte, Option.map_some, List.length_cons, List.length_nil, hx]
                      · have hx : validR r = false := by rw [hs]; simp [stateB, hsub, h, hq]
                        simp -dsimp -implicitDefEqProofs (disch := first | assumption | omega | (simp [maxLen, avs_len] <;> omega) | decide) only [sT_move, sT_assign, sT_pick, sT_un, sT_nil, sT_g, oK_some, gK_f, q_o, u_not, ↓reduceIte, q_b, guardA_some, guardV_t, q_f, q_l, Nat.reduceEqDiff]
                        refine hK38 _ _ ?_
                        refine awp_ret ?_
                        show closeA _ _ = _
                        simp (disch := first | assumption | omega | (simp [maxLen, avs_len] <;> omega) | decide) only [closeA, retV, deep_d, Nat.zero_add, D.fix, frL_get, ↓reduceIte, Option.map_some, List.length_cons, List.length_nil, hx]
                    · cases ht
                · simp -dsimp -implicitDefEqProofs (disch := first | assumption | omega | (simp [maxLen, avs_len] <;> omega) | decide) only [sT_assign, sT_bin, sT_nil, oK_some, q_o, binF_v, v_eql, ↓reduceIte, q_b, q_f, beq_f, nb_f]
                  refine hK35 _ _ ?_
                  refine awp_cond rfl (fun ht => ?_) (fun ht => ?_)
                  · cases ht
                  · refine awp_s KT_ok hc rfl fun K39 hK39 => ?_
                    simp -dsimp -implicitDefEqProofs (disch := first | assumption | omega | (simp [maxLen, avs_len] <;> omega) | decide) only [sT_assign, sT_bin, sT_nil, oK_some, q_o, binF_v, v_eql, ↓reduceIte, q_b, q_f, Nat.reduceEqDiff, beq_f]
                    refine hK39 _ _ (hK34 _ _ ?_)
                    refine awp_cond rfl (fun ht => ?_) (fun ht => ?_)
                    · cases ht
                    · refine awp_seq_s KT_ok hc rfl fun K40 hK40 => ?_
                      simp -dsimp -implicitDefEqProofs (disch := first | assumption | omega | (simp [maxLen, avs_len] <;> omega) | decide) only [sT_assign, sT_bin, sT_nil, oK_some, q_o, binF_v, v_eql, ↓reduceIte, q_b, q_f, Nat.reduceEqDiff, beq_t]
                      refine hK40 _ _ ?_
                      refine awp_cond rfl (fun ht => ?_) (fun ht => ?_)
                      · have hx : validR r = !subB (uptoL r (r.pos + 1)) r.dn := by rw [hs]; simp [stateB, hpn, hsub, h]
                        refine awp_seq_s KT_ok hc rfl fun K41 hK41 => ?_
                        simp -dsimp -implicitDefEqProofs (disch := first | assumption | omega | (simp [maxLen, avs_len] <;> omega) | decide) only [sT_move, sT_assign, sT_un, sT_nil, oK_some, u_not, ↓reduceIte, q_b, q_f, Nat.reduceEqDiff]
                        refine hK41 _ _ ?_
                        refine awp_ret ?_
                        show closeA _ _ = _
                        simp (disch := first | assumption | omega | (simp [maxLen, avs_len] <;> omega) | decide) only [closeA, retV, deep_d, Nat.zero_add, D.fix, frL_get, ↓reduceIte, Option.map_some, List.length_cons, List.length_nil, hx]
                      · cases ht
                · simp -dsimp -implicitDefEqProofs (disch := first | assumption | omega | (simp [maxLen, avs_len] <;> omega) | decide) only [sT_assign, sT_bin, sT_nil, oK_some, q_o, binF_v, v_eql, ↓reduceIte, q_b, q_f, beq_f, nb_f]
                  refine hK35 _ _ ?_
                  refine awp_cond rfl (fun ht => ?_) (fun ht => ?_)
                  · cases ht
                  · refine awp_s KT_ok hc rfl fun K42 hK42 => ?_
                    simp -dsimp -implicitDefEqProofs (disch := first | assumption | omega | (simp [maxLen, avs_len] <;> omega) | decide) only [sT_assign, sT_bin, sT_nil, oK_some, q_o, binF_v, v_eql, ↓reduceIte, q_b, q_f, Nat.reduceEqDiff, beq_f]
                    refine hK42 _ _ (hK34 _ _ ?_)
                    refine awp_cond rfl (fun ht => ?_) (fun ht => ?_)
                    · cases ht
                    · refine awp_seq_s KT_ok hc rfl fun K43 hK43 => ?_
                      simp -dsimp -implicitDefEqProofs (disch := first | assumption | omega | (simp [maxLen, avs_len] <;> omega) | decide) only [sT_assign, sT_bin, sT_nil, oK_some, q_o, binF_v, v_eql, ↓reduceIte, q_b, q_f, Nat.reduceEqDiff, beq_f]
                      refine hK43 _ _ ?_
                      refine awp_cond rfl (fun ht => ?_) (fun ht => ?_)
                      · cases ht
                      · refine awp_seq_s KT_ok hc rfl fun K44 hK44 => ?_
                        simp -dsimp -implicitDefEqProofs (disch := first | assumption | omega | (simp [maxLen, avs_len] <;> omega) | decide) only [sT_assign, sT_bin, sT_nil, oK_some, q_o, binF_v, v_eql, ↓reduceIte, q_b, q_f, Nat.reduceEqDiff, beq_t]
                        refine hK44 _ _ ?_
                        refine awp_cond rfl (fun ht => ?_) (fun ht => ?_)
                        · have hx : validR r = subB (uptoL r (r.pos + 1)) r.dn := by rw [hs]; simp [stateB, hpn, hsub, h]
                          refine awp_seq_s KT_ok hc rfl fun K45 hK45 => ?_
                          simp -dsimp -implicitDefEqProofs (disch := first | assumption | omega | (simp [maxLen, avs_len] <;> omega) | decide) only [sT_move, sT_assign, sT_nil, ↓reduceIte, q_b, q_f, Nat.reduceEqDiff]
                          refine hK45 _ _ ?_
                          refine awp_ret ?_
                          show closeA _ _ = _
                          simp (disch := first | assumption | omega | (simp [maxLen, avs_len] <;> omega) | decide) only [closeA, retV, deep_d, Nat.zero_add, D.fix, frL_get, ↓reduceIte, Option.map_some, List.length_cons, List.length_nil, hx]
                        · cases ht
                · simp -dsimp -implicitDefEqProofs (disch := first | assumption | omega | (simp [maxLen, avs_len] <;> omega) | decide) only [sT_assign, sT_bin, sT_nil, oK_some, q_o, binF_v, v_eql, ↓reduceIte, q_b, q_f, beq_f, nb_f]
                  refine hK35 _ _ ?_
                  refine awp_cond rfl (fun ht => ?_) (fun ht => ?_)
                  · cases ht
                  · refine awp_s KT_ok hc rfl fun K46 hK46 => ?_
                    simp -dsimp -implicitDefEqProofs (disch := first | assumption | omega | (simp [maxLen, avs_len] <;> omega) | decide) only [sT_assign, sT_bin, sT_nil, oK_some, q_o, binF_v, v_eql, ↓reduceIte, q_b, q_f, Nat.reduceEqDiff, beq_f]
                    refine hK46 _ _ (hK34 _ _ ?_)
                    refine awp_cond rfl (fun ht => ?_) (fun ht => ?_)
                    · cases ht
                    · refine awp_seq_s KT_ok hc rfl fun K47 hK47 => ?_
                      simp -dsimp -implicitDefEqProofs (disch := first | assumption | omega | (simp [maxLen, avs_len] <;> omega) | decide) only [sT_assign, sT_bin, sT_nil, oK_some, q_o, binF_v, v_eql, ↓reduceIte, q_b, q_f, Nat.reduceEqDiff, beq_f]
                      refine hK47 _ _ ?_
                      refine awp_cond rfl (fun ht => ?_) (fun ht => ?_)
                      · cases ht
                      · refine awp_seq_s KT_ok hc rfl fun K48 hK48 => ?_
                        simp -dsimp -implicitDefEqProofs (disch := first | assumption | omega | (simp [maxLen, avs_len] <;> omega) | decide) only [sT_assign, sT_bin, sT_nil, oK_some, q_o, binF_v, v_eql, ↓reduceIte, q_b, q_f, Nat.reduceEqDiff, beq_f]
                        refine hK48 _ _ ?_
                        refine awp_cond rfl (fun ht => ?_) (fun ht => ?_)
                        · cases ht
                        · refine awp_skip (hK32 _ _ ?_)
                          have hx : validR r = false := by rw [hs]; simp [stateB, hg, hsub, h0, h1, h2, h4]
                          refine awp_seq_s KT_ok hc rfl fun K49 hK49 => ?_
                          simp -dsimp -implicitDefEqProofs (disch := first | assumption | omega | (simp [maxLen, avs_len] <;> omega) | decide) only [sT_assign, sT_nil, q_f]
                          refine hK49 _ _ ?_
                          refine awp_ret ?_
                          show closeA _ _ = _
                          simp (disch := first | assumption | omega | (simp [maxLen, avs_len] <;> omega) | decide) only [closeA, retV, deep_d, Nat.zero_add, D.fix, frL_get, ↓reduceIte, Option.map_some, List.length_cons, List.length_nil, hx]
end Go.Proofs.Ytinefghmmbggeaa

/- rollout: New, Resume, Ready, Back. -/
set_option linter.unusedVariables false
set_option linter.unusedSimpArgs false
namespace Go.Proofs.Ytinefghmmbggeaa
open Go Go.RowKit
def noRol : Rol := ⟨0, 0, [], 0, 0, [], 0⟩
theorem fix_nil : (D.val (.slice none 0 0)).fix = .fs [] 0 := rfl
/-- A rollout with an error. -/
def gotP (p : Rol × Int) : AV := .tup [.d (rolD p.1), .d (iD p.2)]
def newR (a b : Int) (w : List (List Int)) (s : Int) : Rol := ⟨a, b, w, s, 0, [], 0⟩
def newG (a b : Int) (w : List (List Int)) (s : Int) : Rol × Int := if validR (newR a b w s) = true then (newR a b w s, 0) else (noRol, 510)
set_option maxRecDepth 100000 in
set_option linter.unusedVariables false in
set_option maxHeartbeats 4000000 in
theorem new_c (a b : Int) (w : List (List Int)) (s : Int) (hr : ShortR (newR a b w s)) (hi : OkI (newR a b w s)) : PCalls Try.prog 41 [iD a, iD b, intssD w, iD s] (gotP (newG a b w s)) := by
  refine pcalls_of0 (fn := Try.f41) (by kernel_rfl) Try.func41 rfl (Nat.le_of_ble_eq_true rfl) fun c hc hp => ?_
  refine awp_less (τ' := frL [(0, .d (iD a)), (1, .d (iD b)), (2, .d (intssD w)), (3, .d (iD s))]) (less_cons (less_cons (less_cons (less_cons (less_nil _) rfl) rfl) rfl) rfl) ?_
  refine awp_seq_s KT_ok hc rfl fun K1 hK1 => ?_
  simp -dsimp -implicitDefEqProofs (disch := first | assumption | omega | (simp [maxLen, avs_len] <;> omega) | decide) only [sT_assign, sT_alloc, deadH, sT_nil, oK_some, q_o, layF, q_f, q_l, q_s, map_d, avs_nil, avs_cons, iD, intssD, deadH, za_29]
  refine hK1 _ _ ?_
  refine awp_seq_s KT_ok hc rfl fun K2 hK2 => ?_
  simp -dsimp -implicitDefEqProofs (disch := first | assumption | omega | (simp [maxLen, avs_len] <;> omega) | decide) only [sT_move, sT_build, sT_alloc, sT_store, deadH, sT_nil, oK_some, q_o, buildF, layF, storeF, ↓reduceIte, q_b, ifp, ifn, q_f, q_s, q_l, q_a, fill_cons, as_fs, AV.one, D.one, Value.oneCell', q_n, Nat.reduceEqDiff, map_d, avs_nil, avs_cons, Nat.reduceAdd, deadH, pa_29, pl_29_0, pl_29_1, pl_29_2, pl_29_3, sz_29, za_29, zc_29]
  refine hK2 _ _ ?_
  refine awp_seq_k fun K3 hK3 => ?_
  refine awp_seq_s KT_ok hc rfl fun K4 hK4 => ?_
  simp -dsimp -implicitDefEqProofs (disch := first | assumption | omega | (simp [maxLen, avs_len] <;> omega) | decide) only [sT_load, sT_call0, oK_some, q_o, loadF, ↓reduceIte, q_b, ifp, q_f, q_s, q_l, q_n, takeD_all, Nat.reduceAdd, sz_29, ag_29]
  refine kc_by (valid_c (newR a b w s) hr hi) rfl ?_
  simp -dsimp -implicitDefEqProofs (disch := first | assumption | omega | (simp [maxLen, avs_len] <;> omega) | decide) only [sT_un, sT_nil, oK_some, u_not, ↓reduceIte, q_b, q_f]
  refine hK4 _ _ ?_
  refine awp_cond rfl (fun ht => ?_) (fun ht => ?_)
  · have hv : validR (newR a b w s) = false := by simpa using ht
    have hx : newG a b w s = (noRol, 510) := by simp [newG, hv]
    refine awp_seq_s KT_ok hc rfl fun K5 hK5 => ?_
    simp -dsimp -implicitDefEqProofs (disch := first | assumption | omega | (simp [maxLen, avs_len] <;> omega) | decide) only [sT_assign, sT_build, sT_store, sT_nil, oK_some, q_o, buildF, storeF, ↓reduceIte, q_b, ifp, q_f, q_s, q_l, q_a, AV.one, D.one, Value.oneCell', q_n, Nat.reduceEqDiff, Nat.reduceAdd, pa_29, sz_29, zc_29]
    refine hK5 _ _ ?_
    refine awp_ret ?_
    try dsimp only [thenA, inBlockA]
    refine PostA_retct rfl ?_
    simp -dsimp -implicitDefEqProofs (disch := first | assumption | omega | (simp [maxLen, avs_len] <;> omega) | decide) only [oK_some, q_o, loadF, ↓reduceIte, q_b, ifp, q_f, q_l, q_n, Nat.reduceEqDiff, takeD_all, Nat.reduceAdd, sz_29, ag_29]
    show closeA _ _ = _
    simp (disch := first | assumption | omega | (simp [maxLen, avs_len] <;> omega) | decide) only [List.map_cons, List.map_nil, closeA, deep_d, deep_agg, deepL_nil, deepL_cons, Nat.reduceAdd, Nat.zero_add, D.fix, Option.map_some, Option.bind_some, List.length_cons, List.length_nil, iD, intsD, intssD, hx, gotP, noRol, rolD, rolC]
  · have hv : validR (newR a b w s) = true := by simpa using ht
    have hx : newG a b w s = (newR a b w s, 0) := by simp [newG, hv]
    refine awp_skip (hK3 _ _ ?_)
    refine awp_seq_s KT_ok hc rfl fun K6 hK6 => ?_
    simp -dsimp -implicitDefEqProofs (disch := first | assumption | omega | (simp [maxLen, avs_len] <;> omega) | decide) only [sT_assign, sT_load, sT_store, sT_nil, oK_some, q_o, loadF, storeF, ↓reduceIte, q_b, ifp, q_f, q_l, q_s, q_a, AV.one, D.one, Value.oneCell', q_n, Nat.reduceEqDiff, takeD_all, Nat.reduceAdd, sz_29, ag_29]
    refine hK6 _ _ ?_
    refine awp_ret ?_
    try dsimp only [thenA, inBlockA]
    refine PostA_retct rfl ?_
    simp -dsimp -implicitDefEqProofs (disch := first | assumption | omega | (simp [maxLen, avs_len] <;> omega) | decide) only [oK_some, q_o, loadF, ↓reduceIte, q_b, ifp, q_f, q_l, q_n, Nat.reduceEqDiff, takeD_all, Nat.reduceAdd, sz_29, ag_29]
    show closeA _ _ = _
    simp (disch := first | assumption | omega | (simp [maxLen, avs_len] <;> omega) | decide) only [List.map_cons, List.map_nil, closeA, deep_d, deep_agg, deepL_nil, deepL_cons, Nat.reduceAdd, Nat.zero_add, D.fix, Option.map_some, Option.bind_some, List.length_cons, List.length_nil, iD, intsD, intssD, hx, gotP, newR, rolD, rolC]
def resumeG (r : Rol) : Rol × Int := if r.st = 1 then ({ r with st := 0 }, 0) else (noRol, 510)
set_option maxRecDepth 100000 in
set_option linter.unusedVariables false in
set_option maxHeartbeats 4000000 in
theorem resume_c (r : Rol) : PCalls Try.prog 47 [rolD r] (gotP (resumeG r)) := by
  refine pcalls_of0 (fn := Try.f47) (by kernel_rfl) Try.func47 rfl (Nat.le_of_ble_eq_true rfl) fun c hc hp => ?_
  refine awp_less (τ' := frL [(0, .d (rolD r))]) (less_cons (less_nil _) rfl) ?_
  refine awp_seq_s KT_ok hc rfl fun K1 hK1 => ?_
  simp -dsimp -implicitDefEqProofs (disch := first | assumption | omega | (simp [maxLen, avs_len] <;> omega) | decide) only [sT_assign, sT_box, sT_alloc, deadH, sT_nil, oK_some, q_o, layF, ↓reduceIte, q_b, q_f, q_s, q_l, as_dagg, D.one, Value.oneCell', q_n, map_d, avs_nil, avs_cons, iD, intsD, intssD, deadH, rolD, rolC, za_29]
  refine hK1 _ _ ?_
  refine awp_seq_k fun K2 hK2 => ?_
  refine awp_seq_s KT_ok hc rfl fun K3 hK3 => ?_
  simp -dsimp -implicitDefEqProofs (disch := first | assumption | omega | (simp [maxLen, avs_len] <;> omega) | decide) only [sT_load, sT_fa, sT_bin, sT_nil, oK_some, q_o, loadF, fieldAddrF, binF_v, v_neq, ↓reduceIte, q_b, ifp, q_f, q_l, q_n, Nat.reduceEqDiff, Nat.reduceAdd, fo_29_6, sz_3, ag_3]
  refine hK3 _ _ ?_
  refine awp_cond rfl (fun ht => ?_) (fun ht => ?_)
  · have hs : r.st ≠ 1 := by simpa using ht
    have hx : resumeG r = (noRol, 510) := by simp [resumeG, hs]
    refine awp_seq_s KT_ok hc rfl fun K4 hK4 => ?_
    simp -dsimp -implicitDefEqProofs (disch := first | assumption | omega | (simp [maxLen, avs_len] <;> omega) | decide) only [sT_assign, sT_build, sT_store, sT_nil, oK_some, q_o, buildF, storeF, ↓reduceIte, q_b, ifp, q_f, q_s, q_l, q_a, AV.one, D.one, Value.oneCell', q_n, Nat.reduceEqDiff, Nat.reduceAdd, pa_29, sz_29, zc_29]
    refine hK4 _ _ ?_
    refine awp_ret ?_
    try dsimp only [thenA, inBlockA]
    refine PostA_retct rfl ?_
    simp -dsimp -implicitDefEqProofs (disch := first | assumption | omega | (simp [maxLen, avs_len] <;> omega) | decide) only [oK_some, q_o, loadF, ↓reduceIte, q_b, ifp, q_f, q_l, q_n, Nat.reduceEqDiff, takeD_all, Nat.reduceAdd, sz_29, ag_29]
    show closeA _ _ = _
    simp (disch := first | assumption | omega | (simp [maxLen, avs_len] <;> omega) | decide) only [List.map_cons, List.map_nil, closeA, deep_d, deep_agg, deepL_nil, deepL_cons, Nat.reduceAdd, Nat.zero_add, D.fix, Option.map_some, Option.bind_some, List.length_cons, List.length_nil, iD, intsD, intssD, rolD, rolC, hx, gotP, noRol, rolD, rolC]
  · have hs : r.st = 1 := by simpa using ht
    have hx : resumeG r = ({ r with st := 0 }, 0) := by simp [resumeG, hs]
    refine awp_skip (hK2 _ _ ?_)
    refine awp_seq_s KT_ok hc rfl fun K5 hK5 => ?_
    simp -dsimp -implicitDefEqProofs (disch := first | assumption | omega | (simp [maxLen, avs_len] <;> omega) | decide) only [sT_fa, sT_store, sT_nil, oK_some, fieldAddrF, storeF, ↓reduceIte, q_b, ifp, q_f, q_l, q_s, q_a, q_n, Nat.reduceEqDiff, Nat.reduceAdd, fo_29_6, sz_3]
    refine hK5 _ _ ?_
    refine awp_seq_s KT_ok hc rfl fun K6 hK6 => ?_
    simp -dsimp -implicitDefEqProofs (disch := first | assumption | omega | (simp [maxLen, avs_len] <;> omega) | decide) only [sT_assign, sT_load, sT_store, sT_nil, oK_some, q_o, loadF, storeF, ↓reduceIte, q_b, ifp, q_f, q_l, q_s, q_a, AV.one, D.one, Value.oneCell', q_n, Nat.reduceEqDiff, takeD_all, Nat.reduceAdd, sz_29, ag_29]
    refine hK6 _ _ ?_
    refine awp_ret ?_
    try dsimp only [thenA, inBlockA]
    refine PostA_retct rfl ?_
    simp -dsimp -implicitDefEqProofs (disch := first | assumption | omega | (simp [maxLen, avs_len] <;> omega) | decide) only [oK_some, q_o, loadF, ↓reduceIte, q_b, ifp, q_f, q_l, q_n, Nat.reduceEqDiff, takeD_all, Nat.reduceAdd, sz_29, ag_29]
    show closeA _ _ = _
    simp (disch := first | assumption | omega | (simp [maxLen, avs_len] <;> omega) | decide) only [List.map_cons, List.map_nil, closeA, deep_d, deep_agg, deepL_nil, deepL_cons, Nat.reduceAdd, Nat.zero_add, D.fix, Option.map_some, Option.bind_some, List.length_cons, List.length_nil, iD, intsD, intssD, rolD, rolC, hx, gotP, rolD, rolC]
/-- What is left of the first waves. -/
def leftS (r : Rol) (k : Nat) : SetS := (r.dn.take k).foldl (fun σ n => delS n σ) (ofS (uptoL r (r.pos + 1)))
theorem left_step {r : Rol} {k : Nat} (h : k < r.dn.length) : leftS r (k + 1) = delS (nth r.dn k) (leftS r k) := by
  unfold leftS; rw [take_nth h]; simp
theorem OkS.left {r : Rol} (hi : OkI r) (k : Nat) : OkS (leftS r k) := by
  unfold leftS
  have key : ∀ (l : List Int) (σ : SetS), OkS σ → OkS (l.foldl (fun σ n => delS n σ) σ) := fun l => by
    induction l with
    | nil => intro σ h; exact h
    | cons x l ih => intro σ h; exact ih _ (h.del x)
  exact key _ _ (OkS.of (hi.upto _))
theorem len_left {r : Rol} (hr : ShortR r) (k : Nat) : (leftS r k).1.length ≤ 1000000 := by
  unfold leftS
  have key : ∀ (l : List Int) (σ : SetS), (l.foldl (fun σ n => delS n σ) σ).1.length ≤ σ.1.length := fun l => by
    induction l with
    | nil => intro σ; exact Nat.le_refl _
    | cons x l ih => intro σ; exact Nat.le_trans (ih _) (len_del x σ)
  exact Nat.le_trans (key _ _) (Nat.le_trans (len_of _) (hr.upto _))
def readyG (r : Rol) : List Int := if r.st = 0 ∨ r.st = 2 then listS (leftS r r.dn.length) else []
set_option maxRecDepth 100000 in
set_option linter.unusedVariables false in
set_option maxHeartbeats 4000000 in
theorem ready_c (r : Rol) (hr : ShortR r) (hi : OkI r) (hpos : r.st = 0 ∨ r.st = 2 → 0 ≤ r.pos ∧ r.pos < r.wv.length) : PCalls Try.prog 19 [rolD r] (.d (intsD (readyG r))) := by
  refine pcalls_of0 (fn := Try.f19) (by kernel_rfl) Try.func19 rfl (Nat.le_of_ble_eq_true rfl) fun c hc hp => ?_
  refine awp_less (τ' := frL [(0, .d (rolD r))]) (less_cons (less_nil _) rfl) ?_
  have hw1 := hr.wl
  have hd1 := hr.dl
  refine awp_seq_s KT_ok hc rfl fun K1 hK1 => ?_
  simp -dsimp -implicitDefEqProofs (disch := first | assumption | omega | (simp [maxLen, avs_len] <;> omega) | decide) only [sT_assign, sT_box, deadH, sT_nil, oK_some, q_o, layF, ↓reduceIte, q_b, q_f, q_s, q_l, as_dagg, D.one, Value.oneCell', iD, intsD, intssD, deadH, rolD, rolC]
  refine hK1 _ _ ?_
  refine awp_seq_k fun K2 hK2 => ?_
  refine awp_seq_s KT_ok hc rfl fun K3 hK3 => ?_
  rcases (show r.st = 0 ∨ r.st = 2 ∨ (r.st ≠ 0 ∧ r.st ≠ 2) from by omega) with hs | hs | hs
  · have hpo := hpos (.inl hs)
    have hx : readyG r = listS (leftS r r.dn.length) := by simp [readyG, hs]
    simp -dsimp -implicitDefEqProofs (disch := first | assumption | omega | (simp [maxLen, avs_len] <;> omega) | decide) only [sT_move, sT_pick, sT_load, sT_fa, sT_bin, sT_nil, sT_g, oK_some, gK_f, q_o, loadF, fieldAddrF, binF_v, v_neq, ↓reduceIte, q_b, ifp, guardA_some, guardV_t, q_f, q_l, q_n, Nat.reduceEqDiff, bne_f, fo_29_6, sz_3, ag_3]
    refine hK3 _ _ ?_
    refine awp_cond rfl (fun ht => ?_) (fun ht => ?_)
    · cases ht
    · refine awp_skip (hK2 _ _ ?_)
      refine awp_seq_s KT_ok hc rfl fun K4 hK4 => ?_
      simp -dsimp -implicitDefEqProofs (disch := first | assumption | omega | (simp [maxLen, avs_len] <;> omega) | decide) only [sT_load, sT_fa, sT_bin, sT_call0, oK_some, q_o, loadF, fieldAddrF, binF_v, v_add, ↓reduceIte, q_b, ifp, q_f, q_s, q_l, q_n, Nat.reduceEqDiff, takeD_all, sz_29, ag_29, fo_29_4, sz_3, ag_3]
      refine kc_by (upto_z r (r.pos + 1) hr (by omega) (by omega)) rfl ?_
      simp -dsimp -implicitDefEqProofs (disch := first | assumption | omega | (simp [maxLen, avs_len] <;> omega) | decide) only [sT_call0, ↓reduceIte, q_b, q_f, q_s, q_l, q_n, intsD]
      refine kc_lay (of_c (uptoL r (r.pos + 1)) (hi.upto _) (hr.upto _)) rfl ?_
      simp -dsimp -implicitDefEqProofs (disch := first | assumption | omega | (simp [maxLen, avs_len] <;> omega) | decide) only [sT_assign, sT_nil, ↓reduceIte, q_b, q_f, q_l, q_s, q_n]
      refine hK4 _ _ ?_
      refine awp_seq_k fun K5 hK5 => ?_
      refine awp_seq_s KT_ok hc rfl fun K6 hK6 => ?_
      simp -dsimp -implicitDefEqProofs (disch := first | assumption | omega | (simp [maxLen, avs_len] <;> omega) | decide) only [sT_move, sT_load, sT_fa, sT_len, sT_nil, oK_some, q_o, loadF, fieldAddrF, lenF, builtinF, ↓reduceIte, q_b, ifp, q_f, q_s, q_l, q_n, Nat.reduceEqDiff, Nat.reduceAdd, fo_29_5, sz_27, ag_27, eo_27]
      refine hK6 _ _ ?_
      refine awp_block ?_
      refine awp_loop_rt hp (fun τ' H' mm => ∃ k, (k ≤ r.dn.length) ∧ mm = r.dn.length - k ∧ H' = [setO (leftS r k)] ∧ τ' = frL [(3, .om 0), (21, .d (intsD r.dn)), (22, .d (iD r.dn.length)), (23, .d (iD k))]) (r.dn.length) ?_ ⟨0, Nat.zero_le _, rfl, rfl, rfl⟩ ?_
      · refine Rt.trans (Rt.gc (keep := [1]) (by decide) (by simp [])) ?_
        refine Rt.end (less_cons (less_cons (less_cons (less_cons (less_nil _) rfl) rfl) rfl) rfl) ?_
        simp only [gcH, List.map_cons, List.map_nil, List.getD_cons_succ, List.getD_cons_zero, gc_set]; rfl
      rintro τ' H' mm ⟨k, hk, rfl, rfl, rfl⟩
      refine awp_seq_s KT_ok hc rfl fun K7 hK7 => ?_
      simp -dsimp -implicitDefEqProofs (disch := first | assumption | omega | (simp [maxLen, avs_len] <;> omega) | decide) only [sT_bin, sT_nil, oK_some, q_o, binF_v, v_lss, ↓reduceIte, q_b, q_f, Nat.reduceEqDiff, iD, intsD]
      refine hK7 _ _ ?_
      refine awp_seq_k fun K8 hK8 => ?_
      refine awp_cond rfl (fun ht => ?_) (fun ht => ?_)
      · have hlt : k < r.dn.length := by simp at ht; omega
        have hn := hi.d.nth hlt
        have hs : OkS (leftS r k) := OkS.left hi k
        refine awp_skip (hK8 _ _ ?_)
        refine awp_seq_k fun K9 hK9 => ?_
        refine awp_block ?_
        refine awp_seq_s KT_ok hc rfl fun K10 hK10 => ?_
        simp -dsimp -implicitDefEqProofs (disch := first | assumption | omega | (simp [maxLen, avs_len] <;> omega) | decide) only [sT_assign, sT_load, sT_ia, sT_nil, oK_some, q_o, loadF, ixO, indexAddrF, ↓reduceIte, q_b, ifp, q_f, Int.toNat_natCast, q_n, Nat.reduceEqDiff, get_map, iD, eo_27, sz_3, ag_3]
        refine hK10 _ _ ?_
        refine awp_s KT_ok hc rfl fun K11 hK11 => ?_
        simp -dsimp -implicitDefEqProofs (disch := first | assumption | omega | (simp [maxLen, avs_len] <;> omega) | decide) only [sT_move, sT_del, sT_nil, oK_some, ↓reduceIte, q_b, q_f, q_l, q_s, Nat.reduceEqDiff, mapF_de, deF_om, deG_set]
        refine hK11 _ _ (hK9 _ _ ?_)
        refine awp_s KT_ok hc rfl fun K12 hK12 => ?_
        simp -dsimp -implicitDefEqProofs (disch := first | assumption | omega | (simp [maxLen, avs_len] <;> omega) | decide) only [sT_move, sT_bin, sT_nil, oK_some, q_o, binF_v, v_add, ↓reduceIte, q_b, q_f, Nat.reduceEqDiff]
        refine hK12 _ _ ⟨_, _, _, ?_, ⟨k + 1, by omega, rfl, rfl, rfl⟩, ?_⟩
        · first | omega | (simp only [List.length_cons]; omega) | (dsimp only; omega)
        · refine Rt.end (less_cons (less_cons (less_cons (less_cons (less_nil _) rfl) rfl) rfl) rfl) ?_
          rw [left_step hlt]
      · have hkk : k = r.dn.length := by simp at ht; omega
        subst hkk
        refine awp_exit (hK5 _ _ ?_)
        refine awp_seq_s KT_ok hc rfl fun K13 hK13 => ?_
        simp -dsimp -implicitDefEqProofs (disch := first | assumption | omega | (simp [maxLen, avs_len] <;> omega) | decide) only [sT_move, sT_call0, ↓reduceIte, q_b, q_f, q_s, q_l, q_n, Nat.reduceEqDiff]
        refine kc_new (list_c (leftS r r.dn.length) (OkS.left hi _) (len_left hr _)) ?_ ?_
        · simp (disch := first | assumption | omega | (simp [maxLen, avs_len] <;> omega) | decide) only [deepL_nil, deepL_cons, Nat.reduceAdd, Option.map_some, Option.bind_some, List.getElem?_cons_zero, deep_om, lookM_eq, maps_set, setD_eq]
        simp -dsimp -implicitDefEqProofs (disch := first | assumption | omega | (simp [maxLen, avs_len] <;> omega) | decide) only [sT_assign, sT_nil, ↓reduceIte, q_b, q_f, intsD]
        refine hK13 _ _ ?_
        refine awp_ret ?_
        show closeA _ _ = _
        simp (disch := first | assumption | omega | (simp [maxLen, avs_len] <;> omega) | decide) only [closeA, retV, deep_d, Nat.zero_add, D.fix, frL_get, ↓reduceIte, Option.map_some, List.length_cons, List.length_nil, intsD, hx]
  · have hpo := hpos (.inr hs)
    have hx : readyG r = listS (leftS r r.dn.length) := by simp [readyG, hs]
    simp -dsimp -implicitDefEqProofs (disch := first | assumption | omega | (simp [maxLen, avs_len] <;> omega) | decide) only [sT_move, sT_pick, sT_load, sT_fa, sT_bin, sT_nil, sT_g, oK_some, gK_t, q_o, loadF, fieldAddrF, binF_v, v_neq, ↓reduceIte, q_b, ifp, guardA_some, guardV_t, q_f, q_l, q_n, Nat.reduceEqDiff, bne_t, bne_f, fo_29_6, sz_3, ag_3]
    refine hK3 _ _ ?_
    refine awp_cond rfl (fun ht => ?_) (fun ht => ?_)
    · cases ht
    · refine awp_skip (hK2 _ _ ?_)
      refine awp_seq_s KT_ok hc rfl fun K14 hK14 => ?_
      simp -dsimp -implicitDefEqProofs (disch := first | assumption | omega | (simp [maxLen, avs_len] <;> omega) | decide) only [sT_load, sT_fa, sT_bin, sT_call0, oK_some, q_o, loadF, fieldAddrF, binF_v, v_add, ↓reduceIte, q_b, ifp, q_f, q_s, q_l, q_n, Nat.reduceEqDiff, takeD_all, sz_29, ag_29, fo_29_4, sz_3, ag_3]
      refine kc_by (upto_z r (r.pos + 1) hr (by omega) (by omega)) rfl ?_
      simp -dsimp -implicitDefEqProofs (disch := first | assumption | omega | (simp [maxLen, avs_len] <;> omega) | decide) only [sT_call0, ↓reduceIte, q_b, q_f, q_s, q_l, q_n, intsD]
      refine kc_lay (of_c (uptoL r (r.pos + 1)) (hi.upto _) (hr.upto _)) rfl ?_
      simp -dsimp -implicitDefEqProofs (disch := first | assumption | omega | (simp [maxLen, avs_len] <;> omega) | decide) only [sT_assign, sT_nil, ↓reduceIte, q_b, q_f, q_l, q_s, q_n]
      refine hK14 _ _ ?_
      refine awp_seq_k fun K15 hK15 => ?_
      refine awp_seq_s KT_ok hc rfl fun K16 hK16 => ?_
      simp -dsimp -implicitDefEqProofs (disch := first | assumption | omega | (simp [maxLen, avs_len] <;> omega) | decide) only [sT_move, sT_load, sT_fa, sT_len, sT_nil, oK_some, q_o, loadF, fieldAddrF, lenF, builtinF, ↓reduceIte, q_b, ifp, q_f, q_s, q_l, q_n, Nat.reduceEqDiff, Nat.reduceAdd, fo_29_5, sz_27, ag_27, eo_27]
      refine hK16 _ _ ?_
      refine awp_block ?_
      refine awp_loop_rt hp (fun τ' H' mm => ∃ k, (k ≤ r.dn.length) ∧ mm = r.dn.length - k ∧ H' = [setO (leftS r k)] ∧ τ' = frL [(3, .om 0), (21, .d (intsD r.dn)), (22, .d (iD r.dn.length)), (23, .d (iD k))]) (r.dn.length) ?_ ⟨0, Nat.zero_le _, rfl, rfl, rfl⟩ ?_
      · refine Rt.trans (Rt.gc (keep := [1]) (by decide) (by simp [])) ?_
        refine Rt.end (less_cons (less_cons (less_cons (less_cons (less_nil _) rfl) rfl) rfl) rfl) ?_
        simp only [gcH, List.map_cons, List.map_nil, List.getD_cons_succ, List.getD_cons_zero, gc_set]; rfl
      rintro τ' H' mm ⟨k, hk, rfl, rfl, rfl⟩
      refine awp_seq_s KT_ok hc rfl fun K17 hK17 => ?_
      simp -dsimp -implicitDefEqProofs (disch := first | assumption | omega | (simp [maxLen, avs_len] <;> omega) | decide) only [sT_bin, sT_nil, oK_some, q_o, binF_v, v_lss, ↓reduceIte, q_b, q_f, Nat.reduceEqDiff, iD, intsD]
      refine hK17 _ _ ?_
      refine awp_seq_k fun K18 hK18 => ?_
      refine awp_cond rfl (fun ht => ?_) (fun ht => ?_)
      · have hlt : k < r.dn.length := by simp at ht; omega
        have hn := hi.d.nth hlt
        have hs : OkS (leftS r k) := OkS.left hi k
        refine awp_skip (hK18 _ _ ?_)
        refine awp_seq_k fun K19 hK19 => ?_
        refine awp_block ?_
        refine awp_seq_s KT_ok hc rfl fun K20 hK20 => ?_
        simp -dsimp -implicitDefEqProofs (disch := first | assumption | omega | (simp [maxLen, avs_len] <;> omega) | decide) only [sT_assign, sT_load, sT_ia, sT_nil, oK_some, q_o, loadF, ixO, indexAddrF, ↓reduceIte, q_b, ifp, q_f, Int.toNat_natCast, q_n, Nat.reduceEqDiff, get_map, iD, eo_27, sz_3, ag_3]
        refine hK20 _ _ ?_
        refine awp_s KT_ok hc rfl fun K21 hK21 => ?_
        simp -dsimp -implicitDefEqProofs (disch := first | assumption | omega | (simp [maxLen, avs_len] <;> omega) | decide) only [sT_move, sT_del, sT_nil, oK_some, ↓reduceIte, q_b, q_f, q_l, q_s, Nat.reduceEqDiff, mapF_de, deF_om, deG_set]
        refine hK21 _ _ (hK19 _ _ ?_)
        refine awp_s KT_ok hc rfl fun K22 hK22 => ?_
        simp -dsimp -implicitDefEqProofs (disch := first | assumption | omega | (simp [maxLen, avs_len] <;> omega) | decide) only [sT_move, sT_bin, sT_nil, oK_some, q_o, binF_v, v_add, ↓reduceIte, q_b, q_f, Nat.reduceEqDiff]
        refine hK22 _ _ ⟨_, _, _, ?_, ⟨k + 1, by omega, rfl, rfl, rfl⟩, ?_⟩
        · first | omega | (simp only [List.length_cons]; omega) | (dsimp only; omega)
        · refine Rt.end (less_cons (less_cons (less_cons (less_cons (less_nil _) rfl) rfl) rfl) rfl) ?_
          rw [left_step hlt]
      · have hkk : k = r.dn.length := by simp at ht; omega
        subst hkk
        refine awp_exit (hK15 _ _ ?_)
        refine awp_seq_s KT_ok hc rfl fun K23 hK23 => ?_
        simp -dsimp -implicitDefEqProofs (disch := first | assumption | omega | (simp [maxLen, avs_len] <;> omega) | decide) only [sT_move, sT_call0, ↓reduceIte, q_b, q_f, q_s, q_l, q_n, Nat.reduceEqDiff]
        refine kc_new (list_c (leftS r r.dn.length) (OkS.left hi _) (len_left hr _)) ?_ ?_
        · simp (disch := first | assumption | omega | (simp [maxLen, avs_len] <;> omega) | decide) only [deepL_nil, deepL_cons, Nat.reduceAdd, Option.map_some, Option.bind_some, List.getElem?_cons_zero, deep_om, lookM_eq, maps_set, setD_eq]
        simp -dsimp -implicitDefEqProofs (disch := first | assumption | omega | (simp [maxLen, avs_len] <;> omega) | decide) only [sT_assign, sT_nil, ↓reduceIte, q_b, q_f, intsD]
        refine hK23 _ _ ?_
        refine awp_ret ?_
        show closeA _ _ = _
        simp (disch := first | assumption | omega | (simp [maxLen, avs_len] <;> omega) | decide) only [closeA, retV, deep_d, Nat.zero_add, D.fix, frL_get, ↓reduceIte, Option.map_some, List.length_cons, List.length_nil, intsD, hx]
  · have hx : readyG r = [] := by simp [readyG, hs]
    simp -dsimp -implicitDefEqProofs (disch := first | assumption | omega | (simp [maxLen, avs_len] <;> omega) | decide) only [sT_move, sT_pick, sT_load, sT_fa, sT_bin, sT_nil, sT_g, oK_some, gK_t, q_o, loadF, fieldAddrF, binF_v, v_neq, ↓reduceIte, q_b, ifp, guardA_some, guardV_t, q_f, q_l, q_n, Nat.reduceEqDiff, bne_t, fo_29_6, sz_3, ag_3]
    refine hK3 _ _ ?_
    refine awp_cond rfl (fun ht => ?_) (fun ht => ?_)
    · refine awp_seq_s KT_ok hc rfl fun K24 hK24 => ?_
      simp -dsimp -implicitDefEqProofs (disch := first | assumption | omega | (simp [maxLen, avs_len] <;> omega) | decide) only [sT_assign, sT_nil, q_f]
      refine hK24 _ _ ?_
      refine awp_ret ?_
      show closeA _ _ = _
      simp (disch := first | assumption | omega | (simp [maxLen, avs_len] <;> omega) | decide) only [List.map_nil, closeA, retV, deep_d, Nat.zero_add, D.fix, frL_get, ↓reduceIte, Option.map_some, List.length_cons, List.length_nil, intsD, hx]
    · cases ht
end Go.Proofs.Ytinefghmmbggeaa

/- rollout: Back, reports. -/
set_option linter.unusedVariables false
set_option linter.unusedSimpArgs false
namespace Go.Proofs.Ytinefghmmbggeaa
open Go Go.RowKit
theorem list_clr (σ : SetS) : listS (clrS σ) = [] := by simp [listS, clrS, keysS, sortI]
theorem OkS.dn {r : Rol} (hi : OkI r) : OkS (ofS r.dn) := OkS.of hi.d
def backG (r : Rol) : Rol × Int := if r.st = 2 ∨ r.st = 4 then (noRol, 510) else ({ r with st := 2, dn := [], pos := min r.pos (r.wv.length - 1) }, 0)
set_option maxRecDepth 100000 in
set_option linter.unusedVariables false in
set_option maxHeartbeats 4000000 in
theorem back_c (r : Rol) (hr : ShortR r) (hi : OkI r) : PCalls Try.prog 48 [rolD r] (gotP (backG r)) := by
  refine pcalls_of0 (fn := Try.f48) (by kernel_rfl) Try.func48 rfl (Nat.le_of_ble_eq_true rfl) fun c hc hp => ?_
  refine awp_less (τ' := frL [(0, .d (rolD r))]) (less_cons (less_nil _) rfl) ?_
  have hw1 := hr.wl
  have hd1 := hr.dl
  refine awp_seq_s KT_ok hc rfl fun K1 hK1 => ?_
  simp -dsimp -implicitDefEqProofs (disch := first | assumption | omega | (simp [maxLen, avs_len] <;> omega) | decide) only [sT_assign, sT_box, sT_alloc, deadH, sT_nil, oK_some, q_o, layF, ↓reduceIte, q_b, q_f, q_s, q_l, as_dagg, D.one, Value.oneCell', q_n, map_d, avs_nil, avs_cons, iD, intsD, intssD, deadH, rolD, rolC, za_29]
  refine hK1 _ _ ?_
  refine awp_seq_k fun K2 hK2 => ?_
  refine awp_seq_s KT_ok hc rfl fun K3 hK3 => ?_
  rcases (show r.st = 2 ∨ r.st = 4 ∨ (r.st ≠ 2 ∧ r.st ≠ 4) from by omega) with hs | hs | hs
  · have hx : backG r = (noRol, 510) := by simp [backG, hs]
    simp -dsimp -implicitDefEqProofs (disch := first | assumption | omega | (simp [maxLen, avs_len] <;> omega) | decide) only [sT_move, sT_pick, sT_load, sT_fa, sT_bin, sT_nil, sT_g, oK_some, gK_f, q_o, loadF, fieldAddrF, binF_v, v_eql, ↓reduceIte, q_b, ifp, guardA_some, guardV_f, q_f, q_l, q_n, Nat.reduceEqDiff, Nat.reduceAdd, beq_t, nb_f, fo_29_6, sz_3, ag_3]
    refine hK3 _ _ ?_
    refine awp_cond rfl (fun ht => ?_) (fun ht => ?_)
    · refine awp_seq_s KT_ok hc rfl fun K4 hK4 => ?_
      simp -dsimp -implicitDefEqProofs (disch := first | assumption | omega | (simp [maxLen, avs_len] <;> omega) | decide) only [sT_assign, sT_build, sT_store, sT_nil, oK_some, q_o, buildF, storeF, ↓reduceIte, q_b, ifp, q_f, q_s, q_l, q_a, AV.one, D.one, Value.oneCell', q_n, Nat.reduceEqDiff, Nat.reduceAdd, pa_29, sz_29, zc_29]
      refine hK4 _ _ ?_
      refine awp_ret ?_
      try dsimp only [thenA, inBlockA]
      refine PostA_retct rfl ?_
      simp -dsimp -implicitDefEqProofs (disch := first | assumption | omega | (simp [maxLen, avs_len] <;> omega) | decide) only [oK_some, q_o, loadF, ↓reduceIte, q_b, ifp, q_f, q_l, q_n, Nat.reduceEqDiff, takeD_all, Nat.reduceAdd, sz_29, ag_29]
      show closeA _ _ = _
      simp (disch := first | assumption | omega | (simp [maxLen, avs_len] <;> omega) | decide) only [List.map_cons, List.map_nil, closeA, deep_d, deep_agg, deepL_nil, deepL_cons, Nat.reduceAdd, Nat.zero_add, D.fix, Option.map_some, Option.bind_some, List.length_cons, List.length_nil, iD, intsD, intssD, rolD, rolC, hx, gotP, noRol, rolD, rolC, List.map_nil, List.length_nil]
    · cases ht
  · have hx : backG r = (noRol, 510) := by simp [backG, hs]
    simp -dsimp -implicitDefEqProofs (disch := first | assumption | omega | (simp [maxLen, avs_len] <;> omega) | decide) only [sT_move, sT_pick, sT_load, sT_fa, sT_bin, sT_nil, sT_g, oK_some, gK_t, q_o, loadF, fieldAddrF, binF_v, v_eql, ↓reduceIte, q_b, ifp, guardA_some, guardV_f, q_f, q_l, q_n, Nat.reduceEqDiff, Nat.reduceAdd, beq_t, beq_f, nb_t, fo_29_6, sz_3, ag_3]
    refine hK3 _ _ ?_
    refine awp_cond rfl (fun ht => ?_) (fun ht => ?_)
    · refine awp_seq_s KT_ok hc rfl fun K5 hK5 => ?_
      simp -dsimp -implicitDefEqProofs (disch := first | assumption | omega | (simp [maxLen, avs_len] <;> omega) | decide) only [sT_assign, sT_build, sT_store, sT_nil, oK_some, q_o, buildF, storeF, ↓reduceIte, q_b, ifp, q_f, q_s, q_l, q_a, AV.one, D.one, Value.oneCell', q_n, Nat.reduceEqDiff, Nat.reduceAdd, pa_29, sz_29, zc_29]
      refine hK5 _ _ ?_
      refine awp_ret ?_
      try dsimp only [thenA, inBlockA]
      refine PostA_retct rfl ?_
      simp -dsimp -implicitDefEqProofs (disch := first | assumption | omega | (simp [maxLen, avs_len] <;> omega) | decide) only [oK_some, q_o, loadF, ↓reduceIte, q_b, ifp, q_f, q_l, q_n, Nat.reduceEqDiff, takeD_all, Nat.reduceAdd, sz_29, ag_29]
      show closeA _ _ = _
      simp (disch := first | assumption | omega | (simp [maxLen, avs_len] <;> omega) | decide) only [List.map_cons, List.map_nil, closeA, deep_d, deep_agg, deepL_nil, deepL_cons, Nat.reduceAdd, Nat.zero_add, D.fix, Option.map_some, Option.bind_some, List.length_cons, List.length_nil, iD, intsD, intssD, rolD, rolC, hx, gotP, noRol, rolD, rolC, List.map_nil, List.length_nil]
    · cases ht
  · have hx : backG r = ({ r with st := 2, dn := [], pos := min r.pos (r.wv.length - 1) }, 0) := by simp [backG, hs]
    simp -dsimp -implicitDefEqProofs (disch := first | assumption | omega | (simp [maxLen, avs_len] <;> omega) | decide) only [sT_move, sT_pick, sT_load, sT_fa, sT_bin, sT_nil, sT_g, oK_some, gK_t, q_o, loadF, fieldAddrF, binF_v, v_eql, ↓reduceIte, q_b, ifp, guardA_some, guardV_f, q_f, q_l, q_n, Nat.reduceEqDiff, Nat.reduceAdd, beq_f, nb_t, fo_29_6, sz_3, ag_3]
    refine hK3 _ _ ?_
    refine awp_cond rfl (fun ht => ?_) (fun ht => ?_)
    · cases ht
    · refine awp_skip (hK2 _ _ ?_)
      refine awp_seq_s KT_ok hc rfl fun K6 hK6 => ?_
      simp -dsimp -implicitDefEqProofs (disch := first | assumption | omega | (simp [maxLen, avs_len] <;> omega) | decide) only [sT_load, sT_fa, sT_call0, oK_some, loadF, fieldAddrF, ↓reduceIte, q_b, ifp, q_f, q_s, q_l, q_n, Nat.reduceEqDiff, Nat.reduceAdd, fo_29_5, sz_27, ag_27]
      refine kc_lay (of_c r.dn hi.d hd1) rfl ?_
      simp -dsimp -implicitDefEqProofs (disch := first | assumption | omega | (simp [maxLen, avs_len] <;> omega) | decide) only [sT_assign, sT_nil, ↓reduceIte, q_b, q_f, q_l, q_s, q_n, Nat.reduceAdd]
      refine hK6 _ _ ?_
      refine awp_seq_s KT_ok hc rfl fun K7 hK7 => ?_
      simp -dsimp -implicitDefEqProofs (disch := first | assumption | omega | (simp [maxLen, avs_len] <;> omega) | decide) only [sT_move, sT_clr, sT_nil, oK_some, ↓reduceIte, q_b, q_f, q_l, q_s, mapF_cl, clF_om, cl_66]
      refine hK7 _ _ ?_
      refine awp_seq_se KT_ok hc mixed rfl (q := 0) (by kernel_rfl) (by kernel_rfl) fun K8 hK8 => ?_
      simp -dsimp -implicitDefEqProofs (disch := first | assumption | omega | (simp [maxLen, avs_len] <;> omega) | decide) only [sE_move, sE_call0, ↓reduceIte, q_b, q_f, q_s, q_l, List.append_nil, List.replicate_zero, q_n, Nat.reduceEqDiff, Nat.reduceAdd]
      refine kc_new (list_c (clrS (ofS r.dn)) (OkS.clr _) (by simp [clrS])) ?_ ?_
      · simp (disch := first | assumption | omega | (simp [maxLen, avs_len] <;> omega) | decide) only [deepL_nil, deepL_cons, Nat.reduceAdd, Option.map_some, Option.bind_some, List.getElem?_cons_zero, List.getElem?_cons_succ, deep_om, lookM_eq, maps_set, setD_eq]
      simp -dsimp -implicitDefEqProofs (disch := first | assumption | omega | (simp [maxLen, avs_len] <;> omega) | decide) only [sE_load, sE_fa, sE_bin, sE_len, sE_min, sE_store, sE_nil, oK_some, q_o, loadF, fieldAddrF, binF_v, lenF, builtinF, storeF, v_sub, ↓reduceIte, q_b, ifp, ifn, q_f, q_s, q_l, q_a, as_fs, q_n, Nat.reduceEqDiff, killAll, intsD, Nat.reduceAdd, list_clr, fo_29_4, sz_3, ag_3, fo_29_2, sz_26, ag_26, eo_26, fo_29_6, fo_29_5, sz_27]
      refine hK8 _ _ ?_
      refine awp_seq_s KT_ok hc rfl fun K9 hK9 => ?_
      simp -dsimp -implicitDefEqProofs (disch := first | assumption | omega | (simp [maxLen, avs_len] <;> omega) | decide) only [sT_assign, sT_load, sT_store, sT_nil, oK_some, q_o, loadF, storeF, ↓reduceIte, q_b, ifp, q_f, q_l, q_s, q_a, AV.one, D.one, Value.oneCell', q_n, Nat.reduceEqDiff, takeD_all, Nat.reduceAdd, sz_29, ag_29]
      refine hK9 _ _ ?_
      refine awp_ret ?_
      try dsimp only [thenA, inBlockA]
      refine PostA_retct rfl ?_
      simp -dsimp -implicitDefEqProofs (disch := first | assumption | omega | (simp [maxLen, avs_len] <;> omega) | decide) only [oK_some, q_o, loadF, ↓reduceIte, q_b, ifp, q_f, q_l, q_n, Nat.reduceEqDiff, takeD_all, Nat.reduceAdd, sz_29, ag_29]
      show closeA _ _ = _
      simp (disch := first | assumption | omega | (simp [maxLen, avs_len] <;> omega) | decide) only [List.map_cons, List.map_nil, closeA, deep_d, deep_agg, deepL_nil, deepL_cons, Nat.reduceAdd, Nat.zero_add, D.fix, Option.map_some, Option.bind_some, List.length_cons, List.length_nil, iD, intsD, intssD, rolD, rolC, hx, gotP, rolD, rolC, List.map_nil, List.length_nil]
/-- What a report makes of an active rollout. -/
def doneS (r : Rol) (p : Rep) : SetS := putS p.chip (ofS r.dn)
def activeG (r : Rol) (p : Rep) : Rol :=
  if p.no = r.frm then (if p.chip ∈ r.dn then { r with st := 1 } else r)
  else if p.runs = false ∨ p.same = false ∨ p.slk < r.slk ∨ r.pos < waveI p.chip r.wv then { r with st := 1 }
  else if allIn (doneS r p) (nth r.wv r.pos.toNat) = true then
    (if r.pos + 1 = r.wv.length then { r with dn := listS (doneS r p), pos := r.pos + 1, st := 3 } else { r with dn := listS (doneS r p), pos := r.pos + 1 })
  else { r with dn := listS (doneS r p) }
theorem len_done {r : Rol} (hr : ShortR r) (hd : r.dn.length ≤ 999999) (p : Rep) : (doneS r p).1.length ≤ 1000000 := by
  have := len_put p.chip (ofS r.dn)
  have := len_of r.dn
  unfold doneS; omega
theorem OkS.done {r : Rol} (hi : OkI r) {p : Rep} (hp : I64 p.chip) : OkS (doneS r p) := (OkS.dn hi).put hp
theorem lens_at {r : Rol} (hr : ShortR r) {k : Nat} (h : k < r.wv.length) : (nth r.wv k).length ≤ 1000000 := by
  have := row_len h
  have := hr.ws
  omega
set_option maxRecDepth 100000 in
set_option linter.unusedVariables false in
set_option maxHeartbeats 4000000 in
theorem active_c (r : Rol) (p : Rep) (hr : ShortR r) (hi : OkI r) (hpc : I64 p.chip) (hd : r.dn.length ≤ 999999) (h0 : 0 ≤ r.pos) (h1 : r.pos < r.wv.length) : PCalls Try.prog 54 [rolD r, repD p] (.d (rolD (activeG r p))) := by
  refine pcalls_of0 (fn := Try.f54) (by kernel_rfl) Try.func54 rfl (Nat.le_of_ble_eq_true rfl) fun c hc hp => ?_
  refine awp_less (τ' := frL [(0, .d (rolD r)), (1, .d (repD p))]) (less_cons (less_cons (less_nil _) rfl) rfl) ?_
  have hw1 := hr.wl
  have hs := OkS.dn hi
  refine awp_seq_s KT_ok hc rfl fun K1 hK1 => ?_
  simp -dsimp -implicitDefEqProofs (disch := first | assumption | omega | (simp [maxLen, avs_len] <;> omega) | decide) only [sT_box, sT_alloc, deadH, sT_nil, oK_some, q_o, layF, ↓reduceIte, q_b, q_f, q_s, q_l, as_dagg, D.one, Value.oneCell', q_n, Nat.reduceEqDiff, map_d, avs_nil, avs_cons, iD, oD, intsD, intssD, Nat.reduceAdd, deadH, rolD, rolC, repD, repC, za_29]
  refine hK1 _ _ ?_
  refine awp_seq_s KT_ok hc rfl fun K2 hK2 => ?_
  simp -dsimp -implicitDefEqProofs (disch := first | assumption | omega | (simp [maxLen, avs_len] <;> omega) | decide) only [sT_load, sT_fa, sT_call0, oK_some, loadF, fieldAddrF, ↓reduceIte, q_b, ifp, q_f, q_s, q_l, q_n, Nat.reduceEqDiff, Nat.reduceAdd, fo_29_5, sz_27, ag_27]
  refine kc_lay (of_c r.dn hi.d (by omega)) rfl ?_
  simp -dsimp -implicitDefEqProofs (disch := first | assumption | omega | (simp [maxLen, avs_len] <;> omega) | decide) only [sT_assign, sT_nil, ↓reduceIte, q_b, q_f, q_l, q_s, q_n, Nat.reduceAdd]
  refine hK2 _ _ ?_
  refine awp_seq_k fun K3 hK3 => ?_
  refine awp_seq_s KT_ok hc rfl fun K4 hK4 => ?_
  simp -dsimp -implicitDefEqProofs (disch := first | assumption | omega | (simp [maxLen, avs_len] <;> omega) | decide) only [sT_load, sT_fa, sT_bin, sT_nil, oK_some, q_o, loadF, fieldAddrF, binF_v, v_eql, ↓reduceIte, q_b, ifp, q_f, q_l, q_n, Nat.reduceEqDiff, Nat.reduceAdd, fo_31_1, sz_3, ag_3, fo_29_0]
  refine hK4 _ _ ?_
  refine awp_cond rfl (fun ht => ?_) (fun ht => ?_)
  · have hno : p.no = r.frm := by simpa using ht
    refine awp_seq_k fun K5 hK5 => ?_
    refine awp_seq_s KT_ok hc rfl fun K6 hK6 => ?_
    simp -dsimp -implicitDefEqProofs (disch := first | assumption | omega | (simp [maxLen, avs_len] <;> omega) | decide) only [sT_move, sT_load, sT_fa, sT_lookup, sT_nil, oK_some, loadF, fieldAddrF, ↓reduceIte, q_b, ifp, q_f, q_l, q_n, Nat.reduceEqDiff, Nat.reduceAdd, lk_om, esOf_set, lkG_set, fo_31_0, sz_3, ag_3]
    refine hK6 _ _ ?_
    refine awp_cond rfl (fun ht => ?_) (fun ht => ?_)
    · have hm : p.chip ∈ r.dn := by simpa [mem_of] using ht
      have hx : activeG r p = { r with st := 1 } := by simp [activeG, hno, hm]
      refine awp_s KT_ok hc rfl fun K7 hK7 => ?_
      simp -dsimp -implicitDefEqProofs (disch := first | assumption | omega | (simp [maxLen, avs_len] <;> omega) | decide) only [sT_fa, sT_store, sT_nil, oK_some, fieldAddrF, storeF, ↓reduceIte, q_b, ifp, q_f, q_l, q_s, q_a, q_n, Nat.reduceEqDiff, Nat.reduceAdd, fo_29_6, sz_3]
      refine hK7 _ _ (hK5 _ _ ?_)
      refine awp_seq_s KT_ok hc rfl fun K8 hK8 => ?_
      simp -dsimp -implicitDefEqProofs (disch := first | assumption | omega | (simp [maxLen, avs_len] <;> omega) | decide) only [sT_load, sT_store, sT_nil, oK_some, q_o, loadF, storeF, ↓reduceIte, q_b, ifp, q_f, q_l, q_s, q_a, AV.one, D.one, Value.oneCell', q_n, Nat.reduceEqDiff, takeD_all, Nat.reduceAdd, sz_29, ag_29]
      refine hK8 _ _ ?_
      refine awp_ret ?_
      try dsimp only [thenA, inBlockA]
      refine PostA_retc rfl ?_
      simp -dsimp -implicitDefEqProofs (disch := first | assumption | omega | (simp [maxLen, avs_len] <;> omega) | decide) only [oK_some, q_o, loadF, ↓reduceIte, q_b, ifp, q_f, q_l, q_n, Nat.reduceEqDiff, takeD_all, iD, intsD, intssD, Nat.reduceAdd, rolD, rolC, sz_29, ag_29]
      show closeA _ _ = _
      simp (disch := first | assumption | omega | (simp [maxLen, avs_len] <;> omega) | decide) only [closeA, deep_d, deep_agg, deepL_nil, deepL_cons, Nat.reduceAdd, Nat.zero_add, D.fix, Option.map_some, Option.bind_some, List.length_cons, List.length_nil, hx]
    · have hm : p.chip ∉ r.dn := by simpa [mem_of] using ht
      have hx : activeG r p = r := by simp [activeG, hno, hm]
      refine awp_skip (hK5 _ _ ?_)
      refine awp_seq_s KT_ok hc rfl fun K9 hK9 => ?_
      simp -dsimp -implicitDefEqProofs (disch := first | assumption | omega | (simp [maxLen, avs_len] <;> omega) | decide) only [sT_load, sT_store, sT_nil, oK_some, q_o, loadF, storeF, ↓reduceIte, q_b, ifp, q_f, q_l, q_s, q_a, AV.one, D.one, Value.oneCell', q_n, Nat.reduceEqDiff, takeD_all, Nat.reduceAdd, sz_29, ag_29]
      refine hK9 _ _ ?_
      refine awp_ret ?_
      try dsimp only [thenA, inBlockA]
      refine PostA_retc rfl ?_
      simp -dsimp -implicitDefEqProofs (disch := first | assumption | omega | (simp [maxLen, avs_len] <;> omega) | decide) only [oK_some, q_o, loadF, ↓reduceIte, q_b, ifp, q_f, q_l, q_n, Nat.reduceEqDiff, takeD_all, iD, intsD, intssD, Nat.reduceAdd, rolD, rolC, sz_29, ag_29]
      show closeA _ _ = _
      simp (disch := first | assumption | omega | (simp [maxLen, avs_len] <;> omega) | decide) only [closeA, deep_d, deep_agg, deepL_nil, deepL_cons, Nat.reduceAdd, Nat.zero_add, D.fix, Option.map_some, Option.bind_some, List.length_cons, List.length_nil, hx]
  · have hno : p.no ≠ r.frm := by simpa using ht
    refine awp_skip (hK3 _ _ ?_)
    refine awp_seq_k fun K10 hK10 => ?_
    refine awp_seq_se KT_ok hc mixed rfl (q := 0) (by kernel_rfl) (by kernel_rfl) fun K11 hK11 => ?_
    rcases (show p.runs = false ∨ (p.runs = true ∧ p.same = false) ∨ ((p.runs = true ∧ p.same = true) ∧ p.slk < r.slk) ∨ ((p.runs = true ∧ p.same = true) ∧ ¬ p.slk < r.slk ∧ r.pos < waveI p.chip r.wv) ∨ ((p.runs = true ∧ p.same = true) ∧ ¬ p.slk < r.slk ∧ ¬ r.pos < waveI p.chip r.wv) from by cases p.runs <;> cases p.same <;> simp <;> omega) with g1 | ⟨g1, g2⟩ | ⟨⟨g1, g2⟩, g3⟩ | ⟨⟨g1, g2⟩, g3, g4⟩ | ⟨⟨g1, g2⟩, g3, g4⟩
    · have hx : activeG r p = { r with st := 1 } := by simp [activeG, hno, g1]
      simp -dsimp -implicitDefEqProofs (disch := first | assumption | omega | (simp [maxLen, avs_len] <;> omega) | decide) only [sE_move, sE_pick, sE_load, sE_fa, sE_un, sE_nil, oK_some, gK_f, q_o, loadF, fieldAddrF, u_not, ↓reduceIte, q_b, ifp, guardA_some, guardV_f, q_f, q_l, List.append_nil, List.replicate_zero, q_n, Nat.reduceEqDiff, killAll, Nat.reduceAdd, sE_gg, ly_load, ly_fa, ly_bin, ly_un, ly_call0, beq_f, nb_t, nb_f, fo_31_4, sz_4, ag_4]
      refine hK11 _ _ ?_
      refine awp_cond rfl (fun ht => ?_) (fun ht => ?_)
      · refine awp_seq_s KT_ok hc rfl fun K12 hK12 => ?_
        simp -dsimp -implicitDefEqProofs (disch := first | assumption | omega | (simp [maxLen, avs_len] <;> omega) | decide) only [sT_fa, sT_store, sT_nil, oK_some, fieldAddrF, storeF, ↓reduceIte, q_b, ifp, q_f, q_l, q_s, q_a, q_n, Nat.reduceEqDiff, Nat.reduceAdd, fo_29_6, sz_3]
        refine hK12 _ _ ?_
        refine awp_seq_s KT_ok hc rfl fun K13 hK13 => ?_
        simp -dsimp -implicitDefEqProofs (disch := first | assumption | omega | (simp [maxLen, avs_len] <;> omega) | decide) only [sT_load, sT_store, sT_nil, oK_some, q_o, loadF, storeF, ↓reduceIte, q_b, ifp, q_f, q_l, q_s, q_a, AV.one, D.one, Value.oneCell', q_n, Nat.reduceEqDiff, takeD_all, Nat.reduceAdd, sz_29, ag_29]
        refine hK13 _ _ ?_
        refine awp_ret ?_
        try dsimp only [thenA, inBlockA]
        refine PostA_retc rfl ?_
        simp -dsimp -implicitDefEqProofs (disch := first | assumption | omega | (simp [maxLen, avs_len] <;> omega) | decide) only [oK_some, q_o, loadF, ↓reduceIte, q_b, ifp, q_f, q_l, q_n, Nat.reduceEqDiff, takeD_all, iD, intsD, intssD, Nat.reduceAdd, rolD, rolC, sz_29, ag_29]
        show closeA _ _ = _
        simp (disch := first | assumption | omega | (simp [maxLen, avs_len] <;> omega) | decide) only [closeA, deep_d, deep_agg, deepL_nil, deepL_cons, Nat.reduceAdd, Nat.zero_add, D.fix, Option.map_some, Option.bind_some, List.length_cons, List.length_nil, hx]
      · cases ht
    · have hx : activeG r p = { r with st := 1 } := by simp [activeG, hno, g2]
      simp -dsimp -implicitDefEqProofs (disch := first | assumption | omega | (simp [maxLen, avs_len] <;> omega) | decide) only [sE_move, sE_pick, sE_load, sE_fa, sE_un, sE_nil, oK_some, gK_t, gK_f, q_o, loadF, fieldAddrF, u_not, ↓reduceIte, q_b, ifp, guardA_some, guardV_f, q_f, q_l, List.append_nil, List.replicate_zero, q_n, Nat.reduceEqDiff, killAll, Nat.reduceAdd, sE_gg, ly_load, ly_fa, ly_bin, ly_call0, beq_f, nb_t, nb_f, fo_31_4, sz_4, ag_4, fo_31_3]
      refine hK11 _ _ ?_
      refine awp_cond rfl (fun ht => ?_) (fun ht => ?_)
      · refine awp_seq_s KT_ok hc rfl fun K14 hK14 => ?_
        simp -dsimp -implicitDefEqProofs (disch := first | assumption | omega | (simp [maxLen, avs_len] <;> omega) | decide) only [sT_fa, sT_store, sT_nil, oK_some, fieldAddrF, storeF, ↓reduceIte, q_b, ifp, q_f, q_l, q_s, q_a, q_n, Nat.reduceEqDiff, Nat.reduceAdd, fo_29_6, sz_3]
        refine hK14 _ _ ?_
        refine awp_seq_s KT_ok hc rfl fun K15 hK15 => ?_
        simp -dsimp -implicitDefEqProofs (disch := first | assumption | omega | (simp [maxLen, avs_len] <;> omega) | decide) only [sT_load, sT_store, sT_nil, oK_some, q_o, loadF, storeF, ↓reduceIte, q_b, ifp, q_f, q_l, q_s, q_a, AV.one, D.one, Value.oneCell', q_n, Nat.reduceEqDiff, takeD_all, Nat.reduceAdd, sz_29, ag_29]
        refine hK15 _ _ ?_
        refine awp_ret ?_
        try dsimp only [thenA, inBlockA]
        refine PostA_retc rfl ?_
        simp -dsimp -implicitDefEqProofs (disch := first | assumption | omega | (simp [maxLen, avs_len] <;> omega) | decide) only [oK_some, q_o, loadF, ↓reduceIte, q_b, ifp, q_f, q_l, q_n, Nat.reduceEqDiff, takeD_all, iD, intsD, intssD, Nat.reduceAdd, rolD, rolC, sz_29, ag_29]
        show closeA _ _ = _
        simp (disch := first | assumption | omega | (simp [maxLen, avs_len] <;> omega) | decide) only [closeA, deep_d, deep_agg, deepL_nil, deepL_cons, Nat.reduceAdd, Nat.zero_add, D.fix, Option.map_some, Option.bind_some, List.length_cons, List.length_nil, hx]
      · cases ht
    · have hx : activeG r p = { r with st := 1 } := by simp [activeG, hno, g3]
      simp -dsimp -implicitDefEqProofs (disch := first | assumption | omega | (simp [maxLen, avs_len] <;> omega) | decide) only [sE_move, sE_pick, sE_load, sE_fa, sE_bin, sE_un, sE_nil, oK_some, gK_t, gK_f, q_o, loadF, fieldAddrF, binF_v, u_not, v_lss, ↓reduceIte, q_b, ifp, guardA_some, guardV_f, q_f, q_l, List.append_nil, List.replicate_zero, q_n, Nat.reduceEqDiff, killAll, Nat.reduceAdd, sE_gg, ly_load, ly_fa, ly_bin, ly_call0, dec_t, beq_f, nb_t, nb_f, fo_31_4, sz_4, ag_4, fo_31_3, fo_31_2, sz_3, ag_3, fo_29_3]
      refine hK11 _ _ ?_
      refine awp_cond rfl (fun ht => ?_) (fun ht => ?_)
      · refine awp_seq_s KT_ok hc rfl fun K16 hK16 => ?_
        simp -dsimp -implicitDefEqProofs (disch := first | assumption | omega | (simp [maxLen, avs_len] <;> omega) | decide) only [sT_fa, sT_store, sT_nil, oK_some, fieldAddrF, storeF, ↓reduceIte, q_b, ifp, q_f, q_l, q_s, q_a, q_n, Nat.reduceEqDiff, Nat.reduceAdd, fo_29_6, sz_3]
        refine hK16 _ _ ?_
        refine awp_seq_s KT_ok hc rfl fun K17 hK17 => ?_
        simp -dsimp -implicitDefEqProofs (disch := first | assumption | omega | (simp [maxLen, avs_len] <;> omega) | decide) only [sT_load, sT_store, sT_nil, oK_some, q_o, loadF, storeF, ↓reduceIte, q_b, ifp, q_f, q_l, q_s, q_a, AV.one, D.one, Value.oneCell', q_n, Nat.reduceEqDiff, takeD_all, Nat.reduceAdd, sz_29, ag_29]
        refine hK17 _ _ ?_
        refine awp_ret ?_
        try dsimp only [thenA, inBlockA]
        refine PostA_retc rfl ?_
        simp -dsimp -implicitDefEqProofs (disch := first | assumption | omega | (simp [maxLen, avs_len] <;> omega) | decide) only [oK_some, q_o, loadF, ↓reduceIte, q_b, ifp, q_f, q_l, q_n, Nat.reduceEqDiff, takeD_all, iD, intsD, intssD, Nat.reduceAdd, rolD, rolC, sz_29, ag_29]
        show closeA _ _ = _
        simp (disch := first | assumption | omega | (simp [maxLen, avs_len] <;> omega) | decide) only [closeA, deep_d, deep_agg, deepL_nil, deepL_cons, Nat.reduceAdd, Nat.zero_add, D.fix, Option.map_some, Option.bind_some, List.length_cons, List.length_nil, hx]
      · cases ht
    · have hx : activeG r p = { r with st := 1 } := by simp [activeG, hno, g4]
      simp -dsimp -implicitDefEqProofs (disch := first | assumption | omega | (simp [maxLen, avs_len] <;> omega) | decide) only [sE_move, sE_pick, sE_load, sE_fa, sE_bin, sE_un, sE_call0, oK_some, gK_t, q_o, loadF, fieldAddrF, binF_v, u_not, v_lss, ↓reduceIte, q_b, ifp, guardA_some, guardV_f, q_f, q_s, q_l, List.append_nil, List.replicate_zero, q_n, Nat.reduceEqDiff, takeD_all, Nat.reduceAdd, sE_gg, dec_f, beq_f, nb_t, nb_f, fo_31_4, sz_4, ag_4, fo_31_3, fo_31_2, sz_3, ag_3, fo_29_3, sz_29, ag_29, fo_31_0]
      refine kc_by (wave_c r p.chip hr) rfl ?_
      simp -dsimp -implicitDefEqProofs (disch := first | assumption | omega | (simp [maxLen, avs_len] <;> omega) | decide) only [sE_pick, sE_load, sE_fa, sE_bin, sE_nil, oK_some, gK_t, q_o, loadF, fieldAddrF, binF_v, v_gtr, ↓reduceIte, q_b, ifp, guardA_some, guardV_f, q_f, q_l, q_n, Nat.reduceEqDiff, killAll, iD, Nat.reduceAdd, sE_gg, dec_t, nb_t, sz_3, ag_3, fo_29_4]
      refine hK11 _ _ ?_
      refine awp_cond rfl (fun ht => ?_) (fun ht => ?_)
      · refine awp_seq_s KT_ok hc rfl fun K18 hK18 => ?_
        simp -dsimp -implicitDefEqProofs (disch := first | assumption | omega | (simp [maxLen, avs_len] <;> omega) | decide) only [sT_fa, sT_store, sT_nil, oK_some, fieldAddrF, storeF, ↓reduceIte, q_b, ifp, q_f, q_l, q_s, q_a, q_n, Nat.reduceEqDiff, Nat.reduceAdd, fo_29_6, sz_3]
        refine hK18 _ _ ?_
        refine awp_seq_s KT_ok hc rfl fun K19 hK19 => ?_
        simp -dsimp -implicitDefEqProofs (disch := first | assumption | omega | (simp [maxLen, avs_len] <;> omega) | decide) only [sT_load, sT_store, sT_nil, oK_some, q_o, loadF, storeF, ↓reduceIte, q_b, ifp, q_f, q_l, q_s, q_a, AV.one, D.one, Value.oneCell', q_n, Nat.reduceEqDiff, takeD_all, Nat.reduceAdd, sz_29, ag_29]
        refine hK19 _ _ ?_
        refine awp_ret ?_
        try dsimp only [thenA, inBlockA]
        refine PostA_retc rfl ?_
        simp -dsimp -implicitDefEqProofs (disch := first | assumption | omega | (simp [maxLen, avs_len] <;> omega) | decide) only [oK_some, q_o, loadF, ↓reduceIte, q_b, ifp, q_f, q_l, q_n, Nat.reduceEqDiff, takeD_all, iD, intsD, intssD, Nat.reduceAdd, rolD, rolC, sz_29, ag_29]
        show closeA _ _ = _
        simp (disch := first | assumption | omega | (simp [maxLen, avs_len] <;> omega) | decide) only [closeA, deep_d, deep_agg, deepL_nil, deepL_cons, Nat.reduceAdd, Nat.zero_add, D.fix, Option.map_some, Option.bind_some, List.length_cons, List.length_nil, hx]
      · cases ht
    · have hgo : activeG r p = if allIn (doneS r p) (nth r.wv r.pos.toNat) = true then (if r.pos + 1 = r.wv.length then { r with dn := listS (doneS r p), pos := r.pos + 1, st := 3 } else { r with dn := listS (doneS r p), pos := r.pos + 1 }) else { r with dn := listS (doneS r p) } := by simp [activeG, hno, g1, g2, g3, g4]
      have hdd : putS p.chip (ofS r.dn) = doneS r p := rfl
      have hsd := OkS.done (r := r) hi hpc
      have hld := len_done hr hd p
      have hla := lens_at hr (k := r.pos.toNat) (by omega)
      simp -dsimp -implicitDefEqProofs (disch := first | assumption | omega | (simp [maxLen, avs_len] <;> omega) | decide) only [sE_move, sE_pick, sE_load, sE_fa, sE_bin, sE_un, sE_call0, oK_some, gK_t, q_o, loadF, fieldAddrF, binF_v, u_not, v_lss, ↓reduceIte, q_b, ifp, guardA_some, guardV_f, q_f, q_s, q_l, List.append_nil, List.replicate_zero, q_n, Nat.reduceEqDiff, takeD_all, Nat.reduceAdd, sE_gg, dec_f, beq_f, nb_t, nb_f, fo_31_4, sz_4, ag_4, fo_31_3, fo_31_2, sz_3, ag_3, fo_29_3, sz_29, ag_29, fo_31_0]
      refine kc_by (wave_c r p.chip hr) rfl ?_
      simp -dsimp -implicitDefEqProofs (disch := first | assumption | omega | (simp [maxLen, avs_len] <;> omega) | decide) only [sE_pick, sE_load, sE_fa, sE_bin, sE_nil, oK_some, gK_t, q_o, loadF, fieldAddrF, binF_v, v_gtr, ↓reduceIte, q_b, ifp, guardA_some, guardV_f, q_f, q_l, q_n, Nat.reduceEqDiff, killAll, iD, Nat.reduceAdd, sE_gg, dec_f, nb_t, sz_3, ag_3, fo_29_4]
      refine hK11 _ _ ?_
      refine awp_cond rfl (fun ht => ?_) (fun ht => ?_)
      · cases ht
      · refine awp_skip (hK10 _ _ ?_)
        refine awp_seq_s KT_ok hc rfl fun K20 hK20 => ?_
        simp -dsimp -implicitDefEqProofs (disch := first | assumption | omega | (simp [maxLen, avs_len] <;> omega) | decide) only [sT_move, sT_load, sT_fa, sT_mu, sT_nil, oK_some, loadF, fieldAddrF, ↓reduceIte, q_b, ifp, q_f, q_l, q_s, q_n, Nat.reduceEqDiff, Nat.reduceAdd, mapF_mu, muF_om, muG_set, hdd, fo_31_0, sz_3, ag_3]
        refine hK20 _ _ ?_
        refine awp_seq_s KT_ok hc rfl fun K21 hK21 => ?_
        simp -dsimp -implicitDefEqProofs (disch := first | assumption | omega | (simp [maxLen, avs_len] <;> omega) | decide) only [sT_move, sT_call0, ↓reduceIte, q_b, q_f, q_s, q_l, q_n, Nat.reduceEqDiff, Nat.reduceAdd]
        refine kc_new (list_c (doneS r p) hsd hld) ?_ ?_
        · simp (disch := first | assumption | omega | (simp [maxLen, avs_len] <;> omega) | decide) only [deepL_nil, deepL_cons, Nat.reduceAdd, Option.map_some, Option.bind_some, List.getElem?_cons_zero, List.getElem?_cons_succ, deep_om, lookM_eq, maps_set, setD_eq]
        simp -dsimp -implicitDefEqProofs (disch := first | assumption | omega | (simp [maxLen, avs_len] <;> omega) | decide) only [sT_fa, sT_store, sT_nil, oK_some, fieldAddrF, storeF, ↓reduceIte, q_b, ifp, q_f, q_l, q_s, as_fs, q_a, q_n, Nat.reduceEqDiff, intsD, Nat.reduceAdd, fo_29_5, sz_27]
        refine hK21 _ _ ?_
        refine awp_seq_k fun K22 hK22 => ?_
        refine awp_seq_s KT_ok hc rfl fun K23 hK23 => ?_
        simp -dsimp -implicitDefEqProofs (disch := first | assumption | omega | (simp [maxLen, avs_len] <;> omega) | decide) only [sT_move, sT_load, sT_fa, sT_ia, sT_call0, oK_some, q_o, loadF, fieldAddrF, ixO, indexAddrF, ↓reduceIte, q_b, ifp, q_f, q_s, q_l, q_n, Nat.reduceEqDiff, get_map, intsD, Nat.reduceAdd, fo_29_2, sz_26, ag_26, eo_26, fo_29_4, sz_3, ag_3, sz_27, ag_27]
        refine kc_own (has_c (doneS r p) hsd (nth r.wv r.pos.toNat) (hi.w _ (nth_mem (by omega))) hla) ?_ ?_
        · simp (disch := first | assumption | omega | (simp [maxLen, avs_len] <;> omega) | decide) only [deep_d, deepL_nil, deepL_cons, Nat.reduceAdd, fix_fs, Option.map_some, Option.bind_some, List.getElem?_cons_zero, List.getElem?_cons_succ, intsD, deep_om, lookM_eq, maps_set, setD_eq]
        simp -dsimp -implicitDefEqProofs (disch := first | assumption | omega | (simp [maxLen, avs_len] <;> omega) | decide) only [sT_nil, q_f]
        refine hK23 _ _ ?_
        refine awp_cond rfl (fun ht => ?_) (fun ht => ?_)
        · have hgo2 : activeG r p = if r.pos + 1 = r.wv.length then { r with dn := listS (doneS r p), pos := r.pos + 1, st := 3 } else { r with dn := listS (doneS r p), pos := r.pos + 1 } := by rw [hgo, if_pos ht]
          refine awp_s KT_ok hc rfl fun K24 hK24 => ?_
          simp -dsimp -implicitDefEqProofs (disch := first | assumption | omega | (simp [maxLen, avs_len] <;> omega) | decide) only [sT_load, sT_fa, sT_bin, sT_store, sT_nil, oK_some, q_o, loadF, fieldAddrF, binF_v, storeF, v_add, ↓reduceIte, q_b, ifp, q_f, q_l, q_s, q_a, q_n, Nat.reduceEqDiff, Nat.reduceAdd, fo_29_4, sz_3, ag_3]
          refine hK24 _ _ (hK22 _ _ ?_)
          refine awp_seq_k fun K25 hK25 => ?_
          refine awp_seq_s KT_ok hc rfl fun K26 hK26 => ?_
          by_cases hg : r.pos + 1 = r.wv.length
          · have hx : activeG r p = { r with dn := listS (doneS r p), pos := r.pos + 1, st := 3 } := by rw [hgo2, if_pos hg]
            simp -dsimp -implicitDefEqProofs (disch := first | assumption | omega | (simp [maxLen, avs_len] <;> omega) | decide) only [sT_load, sT_fa, sT_bin, sT_len, sT_nil, oK_some, q_o, loadF, fieldAddrF, binF_v, lenF, builtinF, v_eql, ↓reduceIte, q_b, ifp, q_f, q_s, q_l, q_n, Nat.reduceEqDiff, Nat.reduceAdd, beq_t, fo_29_4, sz_3, ag_3, fo_29_2, sz_26, ag_26, eo_26]
            refine hK26 _ _ ?_
            refine awp_cond rfl (fun ht => ?_) (fun ht => ?_)
            · refine awp_s KT_ok hc rfl fun K27 hK27 => ?_
              simp -dsimp -implicitDefEqProofs (disch := first | assumption | omega | (simp [maxLen, avs_len] <;> omega) | decide) only [sT_fa, sT_store, sT_nil, oK_some, fieldAddrF, storeF, ↓reduceIte, q_b, ifp, q_f, q_l, q_s, q_a, q_n, Nat.reduceEqDiff, Nat.reduceAdd, fo_29_6, sz_3]
              refine hK27 _ _ (hK25 _ _ ?_)
              refine awp_seq_s KT_ok hc rfl fun K28 hK28 => ?_
              simp -dsimp -implicitDefEqProofs (disch := first | assumption | omega | (simp [maxLen, avs_len] <;> omega) | decide) only [sT_load, sT_store, sT_nil, oK_some, q_o, loadF, storeF, ↓reduceIte, q_b, ifp, q_f, q_l, q_s, q_a, AV.one, D.one, Value.oneCell', q_n, Nat.reduceEqDiff, takeD_all, Nat.reduceAdd, sz_29, ag_29]
              refine hK28 _ _ ?_
              refine awp_ret ?_
              try dsimp only [thenA, inBlockA]
              refine PostA_retc rfl ?_
              simp -dsimp -implicitDefEqProofs (disch := first | assumption | omega | (simp [maxLen, avs_len] <;> omega) | decide) only [oK_some, q_o, loadF, ↓reduceIte, q_b, ifp, q_f, q_l, q_n, Nat.reduceEqDiff, takeD_all, iD, intsD, intssD, Nat.reduceAdd, rolD, rolC, sz_29, ag_29]
              show closeA _ _ = _
              simp (disch := first | assumption | omega | (simp [maxLen, avs_len] <;> omega) | decide) only [closeA, deep_d, deep_agg, deepL_nil, deepL_cons, Nat.reduceAdd, Nat.zero_add, D.fix, Option.map_some, Option.bind_some, List.length_cons, List.length_nil, hx]
            · cases ht
          · have hx : activeG r p = { r with dn := listS (doneS r p), pos := r.pos + 1 } := by rw [hgo2, if_neg hg]
            simp -dsimp -implicitDefEqProofs (disch := first | assumption | omega | (simp [maxLen, avs_len] <;> omega) | decide) only [sT_load, sT_fa, sT_bin, sT_len, sT_nil, oK_some, q_o, loadF, fieldAddrF, binF_v, lenF, builtinF, v_eql, ↓reduceIte, q_b, ifp, q_f, q_s, q_l, q_n, Nat.reduceEqDiff, Nat.reduceAdd, beq_f, fo_29_4, sz_3, ag_3, fo_29_2, sz_26, ag_26, eo_26]
            refine hK26 _ _ ?_
            refine awp_cond rfl (fun ht => ?_) (fun ht => ?_)
            · cases ht
            · refine awp_skip (hK25 _ _ ?_)
              refine awp_seq_s KT_ok hc rfl fun K29 hK29 => ?_
              simp -dsimp -implicitDefEqProofs (disch := first | assumption | omega | (simp [maxLen, avs_len] <;> omega) | decide) only [sT_load, sT_store, sT_nil, oK_some, q_o, loadF, storeF, ↓reduceIte, q_b, ifp, q_f, q_l, q_s, q_a, AV.one, D.one, Value.oneCell', q_n, Nat.reduceEqDiff, takeD_all, Nat.reduceAdd, sz_29, ag_29]
              refine hK29 _ _ ?_
              refine awp_ret ?_
              try dsimp only [thenA, inBlockA]
              refine PostA_retc rfl ?_
              simp -dsimp -implicitDefEqProofs (disch := first | assumption | omega | (simp [maxLen, avs_len] <;> omega) | decide) only [oK_some, q_o, loadF, ↓reduceIte, q_b, ifp, q_f, q_l, q_n, Nat.reduceEqDiff, takeD_all, iD, intsD, intssD, Nat.reduceAdd, rolD, rolC, sz_29, ag_29]
              show closeA _ _ = _
              simp (disch := first | assumption | omega | (simp [maxLen, avs_len] <;> omega) | decide) only [closeA, deep_d, deep_agg, deepL_nil, deepL_cons, Nat.reduceAdd, Nat.zero_add, D.fix, Option.map_some, Option.bind_some, List.length_cons, List.length_nil, hx]
        · have hx : activeG r p = { r with dn := listS (doneS r p) } := by rw [hgo, if_neg (by simp [ht])]
          refine awp_skip (hK22 _ _ ?_)
          refine awp_seq_k fun K30 hK30 => ?_
          refine awp_seq_s KT_ok hc rfl fun K31 hK31 => ?_
          simp -dsimp -implicitDefEqProofs (disch := first | assumption | omega | (simp [maxLen, avs_len] <;> omega) | decide) only [sT_load, sT_fa, sT_bin, sT_len, sT_nil, oK_some, q_o, loadF, fieldAddrF, binF_v, lenF, builtinF, v_eql, ↓reduceIte, q_b, ifp, q_f, q_s, q_l, q_n, Nat.reduceEqDiff, Nat.reduceAdd, beq_f, fo_29_4, sz_3, ag_3, fo_29_2, sz_26, ag_26, eo_26]
          refine hK31 _ _ ?_
          refine awp_cond rfl (fun ht => ?_) (fun ht => ?_)
          · cases ht
          · refine awp_skip (hK30 _ _ ?_)
            refine awp_seq_s KT_ok hc rfl fun K32 hK32 => ?_
            simp -dsimp -implicitDefEqProofs (disch := first | assumption | omega | (simp [maxLen, avs_len] <;> omega) | decide) only [sT_load, sT_store, sT_nil, oK_some, q_o, loadF, storeF, ↓reduceIte, q_b, ifp, q_f, q_l, q_s, q_a, AV.one, D.one, Value.oneCell', q_n, Nat.reduceEqDiff, takeD_all, Nat.reduceAdd, sz_29, ag_29]
            refine hK32 _ _ ?_
            refine awp_ret ?_
            try dsimp only [thenA, inBlockA]
            refine PostA_retc rfl ?_
            simp -dsimp -implicitDefEqProofs (disch := first | assumption | omega | (simp [maxLen, avs_len] <;> omega) | decide) only [oK_some, q_o, loadF, ↓reduceIte, q_b, ifp, q_f, q_l, q_n, Nat.reduceEqDiff, takeD_all, iD, intsD, intssD, Nat.reduceAdd, rolD, rolC, sz_29, ag_29]
            show closeA _ _ = _
            simp (disch := first | assumption | omega | (simp [maxLen, avs_len] <;> omega) | decide) only [closeA, deep_d, deep_agg, deepL_nil, deepL_cons, Nat.reduceAdd, Nat.zero_add, D.fix, Option.map_some, Option.bind_some, List.length_cons, List.length_nil, hx]
end Go.Proofs.Ytinefghmmbggeaa

/- rollout: turned, See. -/
set_option linter.unusedVariables false
set_option linter.unusedSimpArgs false
namespace Go.Proofs.Ytinefghmmbggeaa
open Go Go.RowKit
def turnedG (r : Rol) (p : Rep) : Rol :=
  if p.no ≠ r.frm ∨ p.runs = false ∨ r.pos < waveI p.chip r.wv then r
  else if allIn (doneS r p) (uptoL r (r.pos + 1)) = true then { r with dn := listS (doneS r p), st := 4 } else { r with dn := listS (doneS r p) }
set_option maxRecDepth 100000 in
set_option linter.unusedVariables false in
set_option maxHeartbeats 4000000 in
theorem turned_c (r : Rol) (p : Rep) (hr : ShortR r) (hi : OkI r) (hpc : I64 p.chip) (hd : r.dn.length ≤ 999999) (h0 : 0 ≤ r.pos) (h1 : r.pos < r.wv.length) : PCalls Try.prog 55 [rolD r, repD p] (.d (rolD (turnedG r p))) := by
  refine pcalls_of0 (fn := Try.f55) (by kernel_rfl) Try.func55 rfl (Nat.le_of_ble_eq_true rfl) fun c hc hp => ?_
  refine awp_less (τ' := frL [(0, .d (rolD r)), (1, .d (repD p))]) (less_cons (less_cons (less_nil _) rfl) rfl) ?_
  have hw1 := hr.wl
  have hs := OkS.dn hi
  refine awp_seq_s KT_ok hc rfl fun K1 hK1 => ?_
  simp -dsimp -implicitDefEqProofs (disch := first | assumption | omega | (simp [maxLen, avs_len] <;> omega) | decide) only [sT_box, sT_alloc, deadH, sT_nil, oK_some, q_o, layF, ↓reduceIte, q_b, q_f, q_s, q_l, as_dagg, D.one, Value.oneCell', q_n, Nat.reduceEqDiff, map_d, avs_nil, avs_cons, iD, oD, intsD, intssD, Nat.reduceAdd, deadH, rolD, rolC, repD, repC, za_29]
  refine hK1 _ _ ?_
  refine awp_seq_k fun K2 hK2 => ?_
  refine awp_seq_se KT_ok hc mixed rfl (q := 0) (by kernel_rfl) (by kernel_rfl) fun K3 hK3 => ?_
  rcases (show p.no ≠ r.frm ∨ (p.no = r.frm ∧ p.runs = false) ∨ ((p.no = r.frm ∧ p.runs = true) ∧ r.pos < waveI p.chip r.wv) ∨ ((p.no = r.frm ∧ p.runs = true) ∧ ¬ r.pos < waveI p.chip r.wv) from by cases p.runs <;> simp <;> omega) with g1 | ⟨g1, g2⟩ | ⟨⟨g1, g2⟩, g3⟩ | ⟨⟨g1, g2⟩, g3⟩
  · have hx : turnedG r p = r := by simp [turnedG, g1]
    simp -dsimp -implicitDefEqProofs (disch := first | assumption | omega | (simp [maxLen, avs_len] <;> omega) | decide) only [sE_move, sE_pick, sE_load, sE_fa, sE_bin, sE_nil, oK_some, gK_f, q_o, loadF, fieldAddrF, binF_v, v_neq, ↓reduceIte, q_b, ifp, guardA_some, guardV_f, q_f, q_l, List.append_nil, List.replicate_zero, q_n, Nat.reduceEqDiff, killAll, Nat.reduceAdd, sE_gg, ly_load, ly_fa, ly_bin, ly_un, ly_call0, bne_t, nb_f, fo_31_1, sz_3, ag_3, fo_29_0]
    refine hK3 _ _ ?_
    refine awp_cond rfl (fun ht => ?_) (fun ht => ?_)
    · refine awp_seq_s KT_ok hc rfl fun K4 hK4 => ?_
      simp -dsimp -implicitDefEqProofs (disch := first | assumption | omega | (simp [maxLen, avs_len] <;> omega) | decide) only [sT_load, sT_store, sT_nil, oK_some, q_o, loadF, storeF, ↓reduceIte, q_b, ifp, q_f, q_l, q_s, q_a, AV.one, D.one, Value.oneCell', q_n, Nat.reduceEqDiff, takeD_all, Nat.reduceAdd, sz_29, ag_29]
      refine hK4 _ _ ?_
      refine awp_ret ?_
      try dsimp only [thenA, inBlockA]
      refine PostA_retc rfl ?_
      simp -dsimp -implicitDefEqProofs (disch := first | assumption | omega | (simp [maxLen, avs_len] <;> omega) | decide) only [oK_some, q_o, loadF, ↓reduceIte, q_b, ifp, q_f, q_l, q_n, Nat.reduceEqDiff, takeD_all, iD, intsD, intssD, Nat.reduceAdd, rolD, rolC, sz_29, ag_29]
      show closeA _ _ = _
      simp (disch := first | assumption | omega | (simp [maxLen, avs_len] <;> omega) | decide) only [closeA, deep_d, deep_agg, deepL_nil, deepL_cons, Nat.reduceAdd, Nat.zero_add, D.fix, Option.map_some, Option.bind_some, List.length_cons, List.length_nil, hx]
    · cases ht
  · have hx : turnedG r p = r := by simp [turnedG, g2]
    simp -dsimp -implicitDefEqProofs (disch := first | assumption | omega | (simp [maxLen, avs_len] <;> omega) | decide) only [sE_move, sE_pick, sE_load, sE_fa, sE_bin, sE_un, sE_nil, oK_some, gK_t, gK_f, q_o, loadF, fieldAddrF, binF_v, u_not, v_neq, ↓reduceIte, q_b, ifp, guardA_some, guardV_f, q_f, q_l, List.append_nil, List.replicate_zero, q_n, Nat.reduceEqDiff, killAll, Nat.reduceAdd, sE_gg, ly_load, ly_fa, ly_bin, ly_call0, bne_f, nb_t, nb_f, fo_31_1, sz_3, ag_3, fo_29_0, fo_31_4, sz_4, ag_4]
    refine hK3 _ _ ?_
    refine awp_cond rfl (fun ht => ?_) (fun ht => ?_)
    · refine awp_seq_s KT_ok hc rfl fun K5 hK5 => ?_
      simp -dsimp -implicitDefEqProofs (disch := first | assumption | omega | (simp [maxLen, avs_len] <;> omega) | decide) only [sT_load, sT_store, sT_nil, oK_some, q_o, loadF, storeF, ↓reduceIte, q_b, ifp, q_f, q_l, q_s, q_a, AV.one, D.one, Value.oneCell', q_n, Nat.reduceEqDiff, takeD_all, Nat.reduceAdd, sz_29, ag_29]
      refine hK5 _ _ ?_
      refine awp_ret ?_
      try dsimp only [thenA, inBlockA]
      refine PostA_retc rfl ?_
      simp -dsimp -implicitDefEqProofs (disch := first | assumption | omega | (simp [maxLen, avs_len] <;> omega) | decide) only [oK_some, q_o, loadF, ↓reduceIte, q_b, ifp, q_f, q_l, q_n, Nat.reduceEqDiff, takeD_all, iD, intsD, intssD, Nat.reduceAdd, rolD, rolC, sz_29, ag_29]
      show closeA _ _ = _
      simp (disch := first | assumption | omega | (simp [maxLen, avs_len] <;> omega) | decide) only [closeA, deep_d, deep_agg, deepL_nil, deepL_cons, Nat.reduceAdd, Nat.zero_add, D.fix, Option.map_some, Option.bind_some, List.length_cons, List.length_nil, hx]
    · cases ht
  · have hx : turnedG r p = r := by simp [turnedG, g3]
    simp -dsimp -implicitDefEqProofs (disch := first | assumption | omega | (simp [maxLen, avs_len] <;> omega) | decide) only [sE_move, sE_pick, sE_load, sE_fa, sE_bin, sE_un, sE_call0, oK_some, gK_t, q_o, loadF, fieldAddrF, binF_v, u_not, v_neq, ↓reduceIte, q_b, ifp, guardA_some, guardV_f, q_f, q_s, q_l, List.append_nil, List.replicate_zero, q_n, Nat.reduceEqDiff, takeD_all, Nat.reduceAdd, sE_gg, bne_f, nb_t, nb_f, fo_31_1, sz_3, ag_3, fo_29_0, sz_29, ag_29, fo_31_4, sz_4, ag_4, fo_31_0]
    refine kc_by (wave_c r p.chip hr) rfl ?_
    simp -dsimp -implicitDefEqProofs (disch := first | assumption | omega | (simp [maxLen, avs_len] <;> omega) | decide) only [sE_pick, sE_load, sE_fa, sE_bin, sE_nil, oK_some, gK_t, q_o, loadF, fieldAddrF, binF_v, v_gtr, ↓reduceIte, q_b, ifp, guardA_some, guardV_f, q_f, q_l, q_n, Nat.reduceEqDiff, killAll, iD, Nat.reduceAdd, sE_gg, dec_t, nb_t, sz_3, ag_3, fo_29_4]
    refine hK3 _ _ ?_
    refine awp_cond rfl (fun ht => ?_) (fun ht => ?_)
    · refine awp_seq_s KT_ok hc rfl fun K6 hK6 => ?_
      simp -dsimp -implicitDefEqProofs (disch := first | assumption | omega | (simp [maxLen, avs_len] <;> omega) | decide) only [sT_load, sT_store, sT_nil, oK_some, q_o, loadF, storeF, ↓reduceIte, q_b, ifp, q_f, q_l, q_s, q_a, AV.one, D.one, Value.oneCell', q_n, Nat.reduceEqDiff, takeD_all, Nat.reduceAdd, sz_29, ag_29]
      refine hK6 _ _ ?_
      refine awp_ret ?_
      try dsimp only [thenA, inBlockA]
      refine PostA_retc rfl ?_
      simp -dsimp -implicitDefEqProofs (disch := first | assumption | omega | (simp [maxLen, avs_len] <;> omega) | decide) only [oK_some, q_o, loadF, ↓reduceIte, q_b, ifp, q_f, q_l, q_n, Nat.reduceEqDiff, takeD_all, iD, intsD, intssD, Nat.reduceAdd, rolD, rolC, sz_29, ag_29]
      show closeA _ _ = _
      simp (disch := first | assumption | omega | (simp [maxLen, avs_len] <;> omega) | decide) only [closeA, deep_d, deep_agg, deepL_nil, deepL_cons, Nat.reduceAdd, Nat.zero_add, D.fix, Option.map_some, Option.bind_some, List.length_cons, List.length_nil, hx]
    · cases ht
  · have hgo : turnedG r p = if allIn (doneS r p) (uptoL r (r.pos + 1)) = true then { r with dn := listS (doneS r p), st := 4 } else { r with dn := listS (doneS r p) } := by simp [turnedG, g1, g2, g3]
    have hdd : putS p.chip (ofS r.dn) = doneS r p := rfl
    have hsd := OkS.done (r := r) hi hpc
    have hld := len_done hr hd p
    simp -dsimp -implicitDefEqProofs (disch := first | assumption | omega | (simp [maxLen, avs_len] <;> omega) | decide) only [sE_move, sE_pick, sE_load, sE_fa, sE_bin, sE_un, sE_call0, oK_some, gK_t, q_o, loadF, fieldAddrF, binF_v, u_not, v_neq, ↓reduceIte, q_b, ifp, guardA_some, guardV_f, q_f, q_s, q_l, List.append_nil, List.replicate_zero, q_n, Nat.reduceEqDiff, takeD_all, Nat.reduceAdd, sE_gg, bne_f, nb_t, nb_f, fo_31_1, sz_3, ag_3, fo_29_0, sz_29, ag_29, fo_31_4, sz_4, ag_4, fo_31_0]
    refine kc_by (wave_c r p.chip hr) rfl ?_
    simp -dsimp -implicitDefEqProofs (disch := first | assumption | omega | (simp [maxLen, avs_len] <;> omega) | decide) only [sE_pick, sE_load, sE_fa, sE_bin, sE_nil, oK_some, gK_t, q_o, loadF, fieldAddrF, binF_v, v_gtr, ↓reduceIte, q_b, ifp, guardA_some, guardV_f, q_f, q_l, q_n, Nat.reduceEqDiff, killAll, iD, Nat.reduceAdd, sE_gg, dec_f, nb_t, sz_3, ag_3, fo_29_4]
    refine hK3 _ _ ?_
    refine awp_cond rfl (fun ht => ?_) (fun ht => ?_)
    · cases ht
    · refine awp_skip (hK2 _ _ ?_)
      refine awp_seq_s KT_ok hc rfl fun K7 hK7 => ?_
      simp -dsimp -implicitDefEqProofs (disch := first | assumption | omega | (simp [maxLen, avs_len] <;> omega) | decide) only [sT_load, sT_fa, sT_call0, oK_some, loadF, fieldAddrF, ↓reduceIte, q_b, ifp, q_f, q_s, q_l, q_n, Nat.reduceEqDiff, Nat.reduceAdd, fo_29_5, sz_27, ag_27]
      refine kc_lay (of_c r.dn hi.d (by omega)) rfl ?_
      simp -dsimp -implicitDefEqProofs (disch := first | assumption | omega | (simp [maxLen, avs_len] <;> omega) | decide) only [sT_assign, sT_nil, ↓reduceIte, q_b, q_f, q_l, q_s, q_n, Nat.reduceAdd]
      refine hK7 _ _ ?_
      refine awp_seq_s KT_ok hc rfl fun K8 hK8 => ?_
      simp -dsimp -implicitDefEqProofs (disch := first | assumption | omega | (simp [maxLen, avs_len] <;> omega) | decide) only [sT_move, sT_load, sT_fa, sT_mu, sT_nil, oK_some, loadF, fieldAddrF, ↓reduceIte, q_b, ifp, q_f, q_l, q_s, q_n, Nat.reduceEqDiff, Nat.reduceAdd, mapF_mu, muF_om, muG_set, hdd, fo_31_0, sz_3, ag_3]
      refine hK8 _ _ ?_
      refine awp_seq_s KT_ok hc rfl fun K9 hK9 => ?_
      simp -dsimp -implicitDefEqProofs (disch := first | assumption | omega | (simp [maxLen, avs_len] <;> omega) | decide) only [sT_move, sT_call0, ↓reduceIte, q_b, q_f, q_s, q_l, q_n, Nat.reduceEqDiff, Nat.reduceAdd]
      refine kc_new (list_c (doneS r p) hsd hld) ?_ ?_
      · simp (disch := first | assumption | omega | (simp [maxLen, avs_len] <;> omega) | decide) only [deepL_nil, deepL_cons, Nat.reduceAdd, Option.map_some, Option.bind_some, List.getElem?_cons_zero, List.getElem?_cons_succ, deep_om, lookM_eq, maps_set, setD_eq]
      simp -dsimp -implicitDefEqProofs (disch := first | assumption | omega | (simp [maxLen, avs_len] <;> omega) | decide) only [sT_fa, sT_store, sT_nil, oK_some, fieldAddrF, storeF, ↓reduceIte, q_b, ifp, q_f, q_l, q_s, as_fs, q_a, q_n, Nat.reduceEqDiff, intsD, Nat.reduceAdd, fo_29_5, sz_27]
      refine hK9 _ _ ?_
      refine awp_seq_k fun K10 hK10 => ?_
      refine awp_seq_s KT_ok hc rfl fun K11 hK11 => ?_
      simp -dsimp -implicitDefEqProofs (disch := first | assumption | omega | (simp [maxLen, avs_len] <;> omega) | decide) only [sT_move, sT_load, sT_fa, sT_bin, sT_call0, oK_some, q_o, loadF, fieldAddrF, binF_v, v_add, ↓reduceIte, q_b, ifp, q_f, q_s, q_l, q_n, Nat.reduceEqDiff, takeD_all, Nat.reduceAdd, sz_29, ag_29, fo_29_4, sz_3, ag_3]
      refine kc_by (show PCalls Try.prog 38 [rolD { r with dn := listS (doneS r p) }, iD (r.pos + 1)] (.d (intsD (uptoL r (r.pos + 1)))) from upto_z { r with dn := listS (doneS r p) } (r.pos + 1) ⟨hr.wl, hr.ws, by simp [listS, sortI, keysS]; omega⟩ (by omega) (by show r.pos + 1 ≤ r.wv.length; omega)) rfl ?_
      simp -dsimp -implicitDefEqProofs (disch := first | assumption | omega | (simp [maxLen, avs_len] <;> omega) | decide) only [sT_call0, ↓reduceIte, q_b, q_f, q_s, q_l, q_n, Nat.reduceEqDiff, intsD, Nat.reduceAdd]
      refine kc_own (has_c (doneS r p) hsd (uptoL r (r.pos + 1)) (hi.upto _) (hr.upto _)) ?_ ?_
      · simp (disch := first | assumption | omega | (simp [maxLen, avs_len] <;> omega) | decide) only [deep_d, deepL_nil, deepL_cons, Nat.reduceAdd, fix_fs, Option.map_some, Option.bind_some, List.getElem?_cons_zero, List.getElem?_cons_succ, intsD, deep_om, lookM_eq, maps_set, setD_eq]
      simp -dsimp -implicitDefEqProofs (disch := first | assumption | omega | (simp [maxLen, avs_len] <;> omega) | decide) only [sT_nil, q_f]
      refine hK11 _ _ ?_
      refine awp_cond rfl (fun ht => ?_) (fun ht => ?_)
      · have hx : turnedG r p = { r with dn := listS (doneS r p), st := 4 } := by rw [hgo, if_pos ht]
        refine awp_s KT_ok hc rfl fun K12 hK12 => ?_
        simp -dsimp -implicitDefEqProofs (disch := first | assumption | omega | (simp [maxLen, avs_len] <;> omega) | decide) only [sT_fa, sT_store, sT_nil, oK_some, fieldAddrF, storeF, ↓reduceIte, q_b, ifp, q_f, q_l, q_s, q_a, q_n, Nat.reduceEqDiff, Nat.reduceAdd, fo_29_6, sz_3]
        refine hK12 _ _ (hK10 _ _ ?_)
        refine awp_seq_s KT_ok hc rfl fun K13 hK13 => ?_
        simp -dsimp -implicitDefEqProofs (disch := first | assumption | omega | (simp [maxLen, avs_len] <;> omega) | decide) only [sT_load, sT_store, sT_nil, oK_some, q_o, loadF, storeF, ↓reduceIte, q_b, ifp, q_f, q_l, q_s, q_a, AV.one, D.one, Value.oneCell', q_n, Nat.reduceEqDiff, takeD_all, Nat.reduceAdd, sz_29, ag_29]
        refine hK13 _ _ ?_
        refine awp_ret ?_
        try dsimp only [thenA, inBlockA]
        refine PostA_retc rfl ?_
        simp -dsimp -implicitDefEqProofs (disch := first | assumption | omega | (simp [maxLen, avs_len] <;> omega) | decide) only [oK_some, q_o, loadF, ↓reduceIte, q_b, ifp, q_f, q_l, q_n, Nat.reduceEqDiff, takeD_all, iD, intsD, intssD, Nat.reduceAdd, rolD, rolC, sz_29, ag_29]
        show closeA _ _ = _
        simp (disch := first | assumption | omega | (simp [maxLen, avs_len] <;> omega) | decide) only [closeA, deep_d, deep_agg, deepL_nil, deepL_cons, Nat.reduceAdd, Nat.zero_add, D.fix, Option.map_some, Option.bind_some, List.length_cons, List.length_nil, hx]
      · have hx : turnedG r p = { r with dn := listS (doneS r p) } := by rw [hgo, if_neg (by simp [ht])]
        refine awp_skip (hK10 _ _ ?_)
        refine awp_seq_s KT_ok hc rfl fun K14 hK14 => ?_
        simp -dsimp -implicitDefEqProofs (disch := first | assumption | omega | (simp [maxLen, avs_len] <;> omega) | decide) only [sT_load, sT_store, sT_nil, oK_some, q_o, loadF, storeF, ↓reduceIte, q_b, ifp, q_f, q_l, q_s, q_a, AV.one, D.one, Value.oneCell', q_n, Nat.reduceEqDiff, takeD_all, Nat.reduceAdd, sz_29, ag_29]
        refine hK14 _ _ ?_
        refine awp_ret ?_
        try dsimp only [thenA, inBlockA]
        refine PostA_retc rfl ?_
        simp -dsimp -implicitDefEqProofs (disch := first | assumption | omega | (simp [maxLen, avs_len] <;> omega) | decide) only [oK_some, q_o, loadF, ↓reduceIte, q_b, ifp, q_f, q_l, q_n, Nat.reduceEqDiff, takeD_all, iD, intsD, intssD, Nat.reduceAdd, rolD, rolC, sz_29, ag_29]
        show closeA _ _ = _
        simp (disch := first | assumption | omega | (simp [maxLen, avs_len] <;> omega) | decide) only [closeA, deep_d, deep_agg, deepL_nil, deepL_cons, Nat.reduceAdd, Nat.zero_add, D.fix, Option.map_some, Option.bind_some, List.length_cons, List.length_nil, hx]
theorem v_fneq {P : Program} {t : TypeId} {f : Fn} {a b : Array Value} : binV P .neq t (.func f a b) .nilFunc = if isFuncT P t = true then some (.bool true) else none := rfl
theorem v_nneq {P : Program} {t : TypeId} : binV P .neq t .nilFunc .nilFunc = if isFuncT P t = true then some (.bool false) else none := rfl
theorem as_fn {f : Fn} {a b : Array Value} : asCells (.d (.val (.func f a b))) = some [.d (.val (.func f a b))] := rfl
theorem as_nf : asCells (.d (.val .nilFunc)) = some [.d (.val .nilFunc)] := rfl
theorem fn_74 : isFuncT Try.prog 74 = true := by kernel_rfl
def seeG (r : Rol) (p : Rep) : Rol × Int :=
  if waveI p.chip r.wv < 0 ∨ (p.no ≠ r.frm ∧ p.no ≠ r.to) then (noRol, 510)
  else if r.st = 0 then (activeG r p, 0) else if r.st = 2 then (turnedG r p, 0) else (r, 0)
/-- What a report may be seen by. -/
structure SeeOk (r : Rol) (p : Rep) : Prop where
  short : ShortR r
  ok : OkI r
  chip : I64 p.chip
  dl : r.dn.length ≤ 999999
  s0 : 0 ≤ r.st
  s4 : r.st ≤ 4
  pos : r.st = 0 ∨ r.st = 2 → 0 ≤ r.pos ∧ r.pos < r.wv.length
set_option maxRecDepth 100000 in
set_option linter.unusedVariables false in
set_option maxHeartbeats 4000000 in
theorem see_c (r : Rol) (p : Rep) (hr : SeeOk r p) : PCalls Try.prog 44 [rolD r, repD p] (gotP (seeG r p)) := by
  refine pcalls_of0 (fn := Try.f44) (by kernel_rfl) Try.func44 rfl (Nat.le_of_ble_eq_true rfl) fun c hc hp => ?_
  refine awp_less (τ' := frL [(0, .d (rolD r)), (1, .d (repD p))]) (less_cons (less_cons (less_nil _) rfl) rfl) ?_
  have hr4 := hr.s4
  have hr0 := hr.s0
  refine awp_seq_s KT_ok hc rfl fun K1 hK1 => ?_
  simp -dsimp -implicitDefEqProofs (disch := first | assumption | omega | (simp [maxLen, avs_len] <;> omega) | decide) only [sT_assign, sT_box, sT_alloc, deadH, sT_nil, oK_some, q_o, layF, ↓reduceIte, q_b, q_f, q_s, q_l, as_dagg, D.one, Value.oneCell', q_n, Nat.reduceEqDiff, map_d, avs_nil, avs_cons, iD, oD, intsD, intssD, Nat.reduceAdd, deadH, rolD, rolC, repD, repC, za_29]
  refine hK1 _ _ ?_
  refine awp_seq_k fun K2 hK2 => ?_
  refine awp_seq_s KT_ok hc rfl fun K3 hK3 => ?_
  rcases (show waveI p.chip r.wv < 0 ∨ (¬ waveI p.chip r.wv < 0 ∧ p.no = r.frm) ∨ ((¬ waveI p.chip r.wv < 0 ∧ p.no ≠ r.frm) ∧ p.no = r.to) ∨ ((¬ waveI p.chip r.wv < 0 ∧ p.no ≠ r.frm) ∧ p.no ≠ r.to) from by omega) with g1 | ⟨g1, g2⟩ | ⟨⟨g1, g2⟩, g3⟩ | ⟨⟨g1, g2⟩, g3⟩
  · have hx : seeG r p = (noRol, 510) := by simp [seeG, g1]
    have h := hx
    simp -dsimp -implicitDefEqProofs (disch := first | assumption | omega | (simp [maxLen, avs_len] <;> omega) | decide) only [sT_load, sT_fa, sT_call0, oK_some, q_o, loadF, fieldAddrF, ↓reduceIte, q_b, ifp, q_f, q_s, q_l, q_n, Nat.reduceEqDiff, takeD_all, Nat.reduceAdd, sz_29, ag_29, fo_31_0, sz_3, ag_3]
    refine kc_by (wave_c r p.chip hr.short) rfl ?_
    simp -dsimp -implicitDefEqProofs (disch := first | assumption | omega | (simp [maxLen, avs_len] <;> omega) | decide) only [sT_move, sT_pick, sT_bin, sT_nil, sT_g, oK_some, gK_f, q_o, binF_v, v_lss, ↓reduceIte, q_b, guardA_some, guardV_f, guardV_u, q_f, q_l, Nat.reduceEqDiff, iD, dec_t, nb_f]
    refine hK3 _ _ ?_
    refine awp_cond rfl (fun ht => ?_) (fun ht => ?_)
    · refine awp_seq_s KT_ok hc rfl fun K4 hK4 => ?_
      simp -dsimp -implicitDefEqProofs (disch := first | assumption | omega | (simp [maxLen, avs_len] <;> omega) | decide) only [sT_assign, sT_build, sT_store, sT_nil, oK_some, q_o, buildF, storeF, ↓reduceIte, q_b, ifp, q_f, q_s, q_l, q_a, AV.one, D.one, Value.oneCell', q_n, Nat.reduceEqDiff, Nat.reduceAdd, pa_29, sz_29, zc_29]
      refine hK4 _ _ ?_
      refine awp_ret ?_
      try dsimp only [thenA, inBlockA]
      refine PostA_retct rfl ?_
      simp -dsimp -implicitDefEqProofs (disch := first | assumption | omega | (simp [maxLen, avs_len] <;> omega) | decide) only [oK_some, q_o, loadF, ↓reduceIte, q_b, ifp, q_f, q_l, q_n, Nat.reduceEqDiff, takeD_all, Nat.reduceAdd, sz_29, ag_29]
      show closeA _ _ = _
      simp (disch := first | assumption | omega | (simp [maxLen, avs_len] <;> omega) | decide) only [List.map_cons, List.map_nil, closeA, deep_d, deep_agg, deepL_nil, deepL_cons, Nat.reduceAdd, Nat.zero_add, D.fix, Option.map_some, Option.bind_some, List.length_cons, List.length_nil, iD, intsD, intssD, rolD, rolC, hx, gotP, noRol, rolD, rolC]
    · cases ht
  · have hgo : seeG r p = if r.st = 0 then (activeG r p, 0) else if r.st = 2 then (turnedG r p, 0) else (r, 0) := by simp [seeG, g1, g2]
    simp -dsimp -implicitDefEqProofs (disch := first | assumption | omega | (simp [maxLen, avs_len] <;> omega) | decide) only [sT_load, sT_fa, sT_call0, oK_some, q_o, loadF, fieldAddrF, ↓reduceIte, q_b, ifp, q_f, q_s, q_l, q_n, Nat.reduceEqDiff, takeD_all, Nat.reduceAdd, sz_29, ag_29, fo_31_0, sz_3, ag_3]
    refine kc_by (wave_c r p.chip hr.short) rfl ?_
    simp -dsimp -implicitDefEqProofs (disch := first | assumption | omega | (simp [maxLen, avs_len] <;> omega) | decide) only [sT_move, sT_pick, sT_load, sT_fa, sT_bin, sT_nil, sT_g, oK_some, gK_t, gK_f, q_o, loadF, fieldAddrF, binF_v, v_neq, v_lss, ↓reduceIte, q_b, ifp, guardA_some, guardV_t, guardV_f, q_f, q_l, q_n, Nat.reduceEqDiff, iD, Nat.reduceAdd, dec_f, bne_f, nb_t, sz_3, ag_3, fo_31_1, fo_29_0]
    refine hK3 _ _ ?_
    refine awp_cond rfl (fun ht => ?_) (fun ht => ?_)
    · cases ht
    · refine awp_skip (hK2 _ _ ?_)
      refine awp_seq_s KT_ok hc rfl fun K5 hK5 => ?_
      simp -dsimp -implicitDefEqProofs (disch := first | assumption | omega | (simp [maxLen, avs_len] <;> omega) | decide) only [sT_build, sT_alloc, sT_store, deadH, sT_nil, oK_some, q_o, buildF, layF, storeF, ↓reduceIte, q_b, ifp, ifn, q_f, q_s, q_l, q_a, fill_cons, AV.one, D.one, Value.oneCell', q_n, Nat.reduceEqDiff, map_d, avs_nil, avs_cons, Nat.reduceAdd, deadH, as_fn, pa_82, pl_82_0, zc_82, pa_83, pl_83_0, pl_83_2, pl_83_4, sz_83, za_83, zc_83]
      refine hK5 _ _ ?_
      refine awp_seq_k fun K6 hK6 => ?_
      refine awp_seq_s KT_ok hc rfl fun K7 hK7 => ?_
      rcases (show r.st = 0 ∨ r.st = 1 ∨ r.st = 2 ∨ r.st = 3 ∨ r.st = 4 from by omega) with h | h | h | h | h
      · have hx : seeG r p = (activeG r p, 0) := by rw [hgo]; simp [h]
        have hpo := hr.pos (.inl h)
        simp -dsimp -implicitDefEqProofs (disch := first | assumption | omega | (simp [maxLen, avs_len] <;> omega) | decide) only [sT_assign, sT_load, sT_fa, sT_ia, sT_nil, oK_some, loadF, fieldAddrF, ixO, indexAddrF, ↓reduceIte, q_b, ifp, q_f, q_l, q_n, Nat.reduceEqDiff, Nat.reduceAdd, Int.toNat_zero, h, fo_29_6, sz_3, ag_3, eo_83, fo_82_0, sz_74, ag_74]
        refine hK7 _ _ ?_
        refine awp_seq_s KT_ok hc rfl fun K8 hK8 => ?_
        simp -dsimp -implicitDefEqProofs (disch := first | assumption | omega | (simp [maxLen, avs_len] <;> omega) | decide) only [sT_move, sT_bin, sT_nil, oK_some, q_o, binF_v, ↓reduceIte, q_b, q_f, v_fneq, fn_74]
        refine hK8 _ _ ?_
        refine awp_cond rfl (fun ht => ?_) (fun ht => ?_)
        · refine awp_s KT_ok hc rfl fun K9 hK9 => ?_
          simp -dsimp -implicitDefEqProofs (disch := first | assumption | omega | (simp [maxLen, avs_len] <;> omega) | decide) only [sT_move, sT_load, sT_callt, oK_some, q_o, loadF, ↓reduceIte, q_b, ifp, q_f, q_s, q_l, q_n, Nat.reduceEqDiff, takeD_all, Nat.reduceAdd, sz_29, ag_29, sz_31, ag_31]
          refine kc_by (active_c r p hr.short hr.ok hr.chip hr.dl hpo.1 hpo.2) (by rw [← h]; rfl) ?_
          simp -dsimp -implicitDefEqProofs (disch := first | assumption | omega | (simp [maxLen, avs_len] <;> omega) | decide) only [sT_store, sT_nil, oK_some, storeF, ↓reduceIte, q_b, ifp, q_f, q_s, q_l, as_dagg, q_a, D.one, Value.oneCell', q_n, Nat.reduceEqDiff, iD, intsD, intssD, Nat.reduceAdd, rolD, rolC, sz_29]
          refine hK9 _ _ (hK6 _ _ ?_)
          refine awp_seq_s KT_ok hc rfl fun K10 hK10 => ?_
          simp -dsimp -implicitDefEqProofs (disch := first | assumption | omega | (simp [maxLen, avs_len] <;> omega) | decide) only [sT_assign, sT_load, sT_store, sT_nil, oK_some, q_o, loadF, storeF, ↓reduceIte, q_b, ifp, q_f, q_l, q_s, q_a, AV.one, D.one, Value.oneCell', q_n, Nat.reduceEqDiff, takeD_all, Nat.reduceAdd, sz_29, ag_29]
          refine hK10 _ _ ?_
          refine awp_ret ?_
          try dsimp only [thenA, inBlockA]
          refine PostA_retct rfl ?_
          simp -dsimp -implicitDefEqProofs (disch := first | assumption | omega | (simp [maxLen, avs_len] <;> omega) | decide) only [oK_some, q_o, loadF, ↓reduceIte, q_b, ifp, q_f, q_l, q_n, Nat.reduceEqDiff, takeD_all, Nat.reduceAdd, sz_29, ag_29]
          show closeA _ _ = _
          simp (disch := first | assumption | omega | (simp [maxLen, avs_len] <;> omega) | decide) only [List.map_cons, List.map_nil, closeA, deep_d, deep_agg, deepL_nil, deepL_cons, Nat.reduceAdd, Nat.zero_add, D.fix, Option.map_some, Option.bind_some, List.length_cons, List.length_nil, iD, intsD, intssD, rolD, rolC, hx, gotP, rolD, rolC]
        · cases ht
      · have hx : seeG r p = (r, 0) := by rw [hgo]; simp [h]
        simp -dsimp -implicitDefEqProofs (disch := first | assumption | omega | (simp [maxLen, avs_len] <;> omega) | decide) only [sT_assign, sT_load, sT_fa, sT_ia, sT_nil, oK_some, loadF, fieldAddrF, ixO, indexAddrF, ↓reduceIte, q_b, ifp, q_f, q_l, q_n, Nat.reduceEqDiff, Nat.reduceAdd, Int.reduceToNat, h, fo_29_6, sz_3, ag_3, eo_83, fo_82_0, sz_74, ag_74]
        refine hK7 _ _ ?_
        refine awp_seq_s KT_ok hc rfl fun K11 hK11 => ?_
        simp -dsimp -implicitDefEqProofs (disch := first | assumption | omega | (simp [maxLen, avs_len] <;> omega) | decide) only [sT_move, sT_bin, sT_nil, oK_some, q_o, binF_v, ↓reduceIte, q_b, q_f, v_nneq, fn_74]
        refine hK11 _ _ ?_
        refine awp_cond rfl (fun ht => ?_) (fun ht => ?_)
        · cases ht
        · refine awp_skip (hK6 _ _ ?_)
          refine awp_seq_s KT_ok hc rfl fun K12 hK12 => ?_
          simp -dsimp -implicitDefEqProofs (disch := first | assumption | omega | (simp [maxLen, avs_len] <;> omega) | decide) only [sT_assign, sT_load, sT_store, sT_nil, oK_some, q_o, loadF, storeF, ↓reduceIte, q_b, ifp, q_f, q_l, q_s, q_a, AV.one, D.one, Value.oneCell', q_n, Nat.reduceEqDiff, takeD_all, Nat.reduceAdd, sz_29, ag_29]
          refine hK12 _ _ ?_
          refine awp_ret ?_
          try dsimp only [thenA, inBlockA]
          refine PostA_retct rfl ?_
          simp -dsimp -implicitDefEqProofs (disch := first | assumption | omega | (simp [maxLen, avs_len] <;> omega) | decide) only [oK_some, q_o, loadF, ↓reduceIte, q_b, ifp, q_f, q_l, q_n, Nat.reduceEqDiff, takeD_all, Nat.reduceAdd, sz_29, ag_29]
          show closeA _ _ = _
          simp (disch := first | assumption | omega | (simp [maxLen, avs_len] <;> omega) | decide) only [List.map_cons, List.map_nil, closeA, deep_d, deep_agg, deepL_nil, deepL_cons, Nat.reduceAdd, Nat.zero_add, D.fix, Option.map_some, Option.bind_some, List.length_cons, List.length_nil, iD, intsD, intssD, rolD, rolC, hx, h, gotP, rolD, rolC]
      · have hx : seeG r p = (turnedG r p, 0) := by rw [hgo]; simp [h]
        have hpo := hr.pos (.inr h)
        simp -dsimp -implicitDefEqProofs (disch := first | assumption | omega | (simp [maxLen, avs_len] <;> omega) | decide) only [sT_assign, sT_load, sT_fa, sT_ia, sT_nil, oK_some, loadF, fieldAddrF, ixO, indexAddrF, ↓reduceIte, q_b, ifp, q_f, q_l, q_n, Nat.reduceEqDiff, Nat.reduceAdd, Int.reduceToNat, h, fo_29_6, sz_3, ag_3, eo_83, fo_82_0, sz_74, ag_74]
        refine hK7 _ _ ?_
        refine awp_seq_s KT_ok hc rfl fun K13 hK13 => ?_
        simp -dsimp -implicitDefEqProofs (disch := first | assumption | omega | (simp [maxLen, avs_len] <;> omega) | decide) only [sT_move, sT_bin, sT_nil, oK_some, q_o, binF_v, ↓reduceIte, q_b, q_f, v_fneq, fn_74]
        refine hK13 _ _ ?_
        refine awp_cond rfl (fun ht => ?_) (fun ht => ?_)
        · refine awp_s KT_ok hc rfl fun K14 hK14 => ?_
          simp -dsimp -implicitDefEqProofs (disch := first | assumption | omega | (simp [maxLen, avs_len] <;> omega) | decide) only [sT_move, sT_load, sT_callt, oK_some, q_o, loadF, ↓reduceIte, q_b, ifp, q_f, q_s, q_l, q_n, Nat.reduceEqDiff, takeD_all, Nat.reduceAdd, sz_29, ag_29, sz_31, ag_31]
          refine kc_by (turned_c r p hr.short hr.ok hr.chip hr.dl hpo.1 hpo.2) (by rw [← h]; rfl) ?_
          simp -dsimp -implicitDefEqProofs (disch := first | assumption | omega | (simp [maxLen, avs_len] <;> omega) | decide) only [sT_store, sT_nil, oK_some, storeF, ↓reduceIte, q_b, ifp, q_f, q_s, q_l, as_dagg, q_a, D.one, Value.oneCell', q_n, Nat.reduceEqDiff, iD, intsD, intssD, Nat.reduceAdd, rolD, rolC, sz_29]
          refine hK14 _ _ (hK6 _ _ ?_)
          refine awp_seq_s KT_ok hc rfl fun K15 hK15 => ?_
          simp -dsimp -implicitDefEqProofs (disch := first | assumption | omega | (simp [maxLen, avs_len] <;> omega) | decide) only [sT_assign, sT_load, sT_store, sT_nil, oK_some, q_o, loadF, storeF, ↓reduceIte, q_b, ifp, q_f, q_l, q_s, q_a, AV.one, D.one, Value.oneCell', q_n, Nat.reduceEqDiff, takeD_all, Nat.reduceAdd, sz_29, ag_29]
          refine hK15 _ _ ?_
          refine awp_ret ?_
          try dsimp only [thenA, inBlockA]
          refine PostA_retct rfl ?_
          simp -dsimp -implicitDefEqProofs (disch := first | assumption | omega | (simp [maxLen, avs_len] <;> omega) | decide) only [oK_some, q_o, loadF, ↓reduceIte, q_b, ifp, q_f, q_l, q_n, Nat.reduceEqDiff, takeD_all, Nat.reduceAdd, sz_29, ag_29]
          show closeA _ _ = _
          simp (disch := first | assumption | omega | (simp [maxLen, avs_len] <;> omega) | decide) only [List.map_cons, List.map_nil, closeA, deep_d, deep_agg, deepL_nil, deepL_cons, Nat.reduceAdd, Nat.zero_add, D.fix, Option.map_some, Option.bind_some, List.length_cons, List.length_nil, iD, intsD, intssD, rolD, rolC, hx, gotP, rolD, rolC]
        · cases ht
      · have hx : seeG r p = (r, 0) := by rw [hgo]; simp [h]
        simp -dsimp -implicitDefEqProofs (disch := first | assumption | omega | (simp [maxLen, avs_len] <;> omega) | decide) only [sT_assign, sT_load, sT_fa, sT_ia, sT_nil, oK_some, loadF, fieldAddrF, ixO, indexAddrF, ↓reduceIte, q_b, ifp, q_f, q_l, q_n, Nat.reduceEqDiff, Nat.reduceAdd, Int.reduceToNat, h, fo_29_6, sz_3, ag_3, eo_83, fo_82_0, sz_74, ag_74]
        refine hK7 _ _ ?_
        refine awp_seq_s KT_ok hc rfl fun K16 hK16 => ?_
        simp -dsimp -implicitDefEqProofs (disch := first | assumption | omega | (simp [maxLen, avs_len] <;> omega) | decide) only [sT_move, sT_bin, sT_nil, oK_some, q_o, binF_v, ↓reduceIte, q_b, q_f, v_nneq, fn_74]
        refine hK16 _ _ ?_
        refine awp_cond rfl (fun ht => ?_) (fun ht => ?_)
        · cases ht
        · refine awp_skip (hK6 _ _ ?_)
          refine awp_seq_s KT_ok hc rfl fun K17 hK17 => ?_
          simp -dsimp -implicitDefEqProofs (disch := first | assumption | omega | (simp [maxLen, avs_len] <;> omega) | decide) only [sT_assign, sT_load, sT_store, sT_nil, oK_some, q_o, loadF, storeF, ↓reduceIte, q_b, ifp, q_f, q_l, q_s, q_a, AV.one, D.one, Value.oneCell', q_n, Nat.reduceEqDiff, takeD_all, Nat.reduceAdd, sz_29, ag_29]
          refine hK17 _ _ ?_
          refine awp_ret ?_
          try dsimp only [thenA, inBlockA]
          refine PostA_retct rfl ?_
          simp -dsimp -implicitDefEqProofs (disch := first | assumption | omega | (simp [maxLen, avs_len] <;> omega) | decide) only [oK_some, q_o, loadF, ↓reduceIte, q_b, ifp, q_f, q_l, q_n, Nat.reduceEqDiff, takeD_all, Nat.reduceAdd, sz_29, ag_29]
          show closeA _ _ = _
          simp (disch := first | assumption | omega | (simp [maxLen, avs_len] <;> omega) | decide) only [List.map_cons, List.map_nil, closeA, deep_d, deep_agg, deepL_nil, deepL_cons, Nat.reduceAdd, Nat.zero_add, D.fix, Option.map_some, Option.bind_some, List.length_cons, List.length_nil, iD, intsD, intssD, rolD, rolC, hx, h, gotP, rolD, rolC]
      · have hx : seeG r p = (r, 0) := by rw [hgo]; simp [h]
        simp -dsimp -implicitDefEqProofs (disch := first | assumption | omega | (simp [maxLen, avs_len] <;> omega) | decide) only [sT_assign, sT_load, sT_fa, sT_ia, sT_nil, oK_some, loadF, fieldAddrF, ixO, indexAddrF, ↓reduceIte, q_b, ifp, q_f, q_l, q_n, Nat.reduceEqDiff, Nat.reduceAdd, Int.reduceToNat, h, fo_29_6, sz_3, ag_3, eo_83, fo_82_0, sz_74, ag_74]
        refine hK7 _ _ ?_
        refine awp_seq_s KT_ok hc rfl fun K18 hK18 => ?_
        simp -dsimp -implicitDefEqProofs (disch := first | assumption | omega | (simp [maxLen, avs_len] <;> omega) | decide) only [sT_move, sT_bin, sT_nil, oK_some, q_o, binF_v, ↓reduceIte, q_b, q_f, v_nneq, fn_74]
        refine hK18 _ _ ?_
        refine awp_cond rfl (fun ht => ?_) (fun ht => ?_)
        · cases ht
        · refine awp_skip (hK6 _ _ ?_)
          refine awp_seq_s KT_ok hc rfl fun K19 hK19 => ?_
          simp -dsimp -implicitDefEqProofs (disch := first | assumption | omega | (simp [maxLen, avs_len] <;> omega) | decide) only [sT_assign, sT_load, sT_store, sT_nil, oK_some, q_o, loadF, storeF, ↓reduceIte, q_b, ifp, q_f, q_l, q_s, q_a, AV.one, D.one, Value.oneCell', q_n, Nat.reduceEqDiff, takeD_all, Nat.reduceAdd, sz_29, ag_29]
          refine hK19 _ _ ?_
          refine awp_ret ?_
          try dsimp only [thenA, inBlockA]
          refine PostA_retct rfl ?_
          simp -dsimp -implicitDefEqProofs (disch := first | assumption | omega | (simp [maxLen, avs_len] <;> omega) | decide) only [oK_some, q_o, loadF, ↓reduceIte, q_b, ifp, q_f, q_l, q_n, Nat.reduceEqDiff, takeD_all, Nat.reduceAdd, sz_29, ag_29]
          show closeA _ _ = _
          simp (disch := first | assumption | omega | (simp [maxLen, avs_len] <;> omega) | decide) only [List.map_cons, List.map_nil, closeA, deep_d, deep_agg, deepL_nil, deepL_cons, Nat.reduceAdd, Nat.zero_add, D.fix, Option.map_some, Option.bind_some, List.length_cons, List.length_nil, iD, intsD, intssD, rolD, rolC, hx, h, gotP, rolD, rolC]
  · have hgo : seeG r p = if r.st = 0 then (activeG r p, 0) else if r.st = 2 then (turnedG r p, 0) else (r, 0) := by simp [seeG, g1, g3]
    simp -dsimp -implicitDefEqProofs (disch := first | assumption | omega | (simp [maxLen, avs_len] <;> omega) | decide) only [sT_load, sT_fa, sT_call0, oK_some, q_o, loadF, fieldAddrF, ↓reduceIte, q_b, ifp, q_f, q_s, q_l, q_n, Nat.reduceEqDiff, takeD_all, Nat.reduceAdd, sz_29, ag_29, fo_31_0, sz_3, ag_3]
    refine kc_by (wave_c r p.chip hr.short) rfl ?_
    simp -dsimp -implicitDefEqProofs (disch := first | assumption | omega | (simp [maxLen, avs_len] <;> omega) | decide) only [sT_move, sT_pick, sT_load, sT_fa, sT_bin, sT_nil, sT_g, oK_some, gK_t, q_o, loadF, fieldAddrF, binF_v, v_neq, v_lss, ↓reduceIte, q_b, ifp, guardA_some, guardV_t, guardV_f, q_f, q_l, q_n, Nat.reduceEqDiff, iD, Nat.reduceAdd, dec_f, bne_t, bne_f, nb_t, sz_3, ag_3, fo_31_1, fo_29_0, fo_29_1]
    refine hK3 _ _ ?_
    refine awp_cond rfl (fun ht => ?_) (fun ht => ?_)
    · cases ht
    · refine awp_skip (hK2 _ _ ?_)
      refine awp_seq_s KT_ok hc rfl fun K20 hK20 => ?_
      simp -dsimp -implicitDefEqProofs (disch := first | assumption | omega | (simp [maxLen, avs_len] <;> omega) | decide) only [sT_build, sT_alloc, sT_store, deadH, sT_nil, oK_some, q_o, buildF, layF, storeF, ↓reduceIte, q_b, ifp, ifn, q_f, q_s, q_l, q_a, fill_cons, AV.one, D.one, Value.oneCell', q_n, Nat.reduceEqDiff, map_d, avs_nil, avs_cons, Nat.reduceAdd, deadH, as_fn, pa_82, pl_82_0, zc_82, pa_83, pl_83_0, pl_83_2, pl_83_4, sz_83, za_83, zc_83]
      refine hK20 _ _ ?_
      refine awp_seq_k fun K21 hK21 => ?_
      refine awp_seq_s KT_ok hc rfl fun K22 hK22 => ?_
      rcases (show r.st = 0 ∨ r.st = 1 ∨ r.st = 2 ∨ r.st = 3 ∨ r.st = 4 from by omega) with h | h | h | h | h
      · have hx : seeG r p = (activeG r p, 0) := by rw [hgo]; simp [h]
        have hpo := hr.pos (.inl h)
        simp -dsimp -implicitDefEqProofs (disch := first | assumption | omega | (simp [maxLen, avs_len] <;> omega) | decide) only [sT_assign, sT_load, sT_fa, sT_ia, sT_nil, oK_some, loadF, fieldAddrF, ixO, indexAddrF, ↓reduceIte, q_b, ifp, q_f, q_l, q_n, Nat.reduceEqDiff, Nat.reduceAdd, Int.toNat_zero, h, fo_29_6, sz_3, ag_3, eo_83, fo_82_0, sz_74, ag_74]
        refine hK22 _ _ ?_
        refine awp_seq_s KT_ok hc rfl fun K23 hK23 => ?_
        simp -dsimp -implicitDefEqProofs (disch := first | assumption | omega | (simp [maxLen, avs_len] <;> omega) | decide) only [sT_move, sT_bin, sT_nil, oK_some, q_o, binF_v, ↓reduceIte, q_b, q_f, v_fneq, fn_74]
        refine hK23 _ _ ?_
        refine awp_cond rfl (fun ht => ?_) (fun ht => ?_)
        · refine awp_s KT_ok hc rfl fun K24 hK24 => ?_
          simp -dsimp -implicitDefEqProofs (disch := first | assumption | omega | (simp [maxLen, avs_len] <;> omega) | decide) only [sT_move, sT_load, sT_callt, oK_some, q_o, loadF, ↓reduceIte, q_b, ifp, q_f, q_s, q_l, q_n, Nat.reduceEqDiff, takeD_all, Nat.reduceAdd, sz_29, ag_29, sz_31, ag_31]
          refine kc_by (active_c r p hr.short hr.ok hr.chip hr.dl hpo.1 hpo.2) (by rw [← h]; rfl) ?_
          simp -dsimp -implicitDefEqProofs (disch := first | assumption | omega | (simp [maxLen, avs_len] <;> omega) | decide) only [sT_store, sT_nil, oK_some, storeF, ↓reduceIte, q_b, ifp, q_f, q_s, q_l, as_dagg, q_a, D.one, Value.oneCell', q_n, Nat.reduceEqDiff, iD, intsD, intssD, Nat.reduceAdd, rolD, rolC, sz_29]
          refine hK24 _ _ (hK21 _ _ ?_)
          refine awp_seq_s KT_ok hc rfl fun K25 hK25 => ?_
          simp -dsimp -implicitDefEqProofs (disch := first | assumption | omega | (simp [maxLen, avs_len] <;> omega) | decide) only [sT_assign, sT_load, sT_store, sT_nil, oK_some, q_o, loadF, storeF, ↓reduceIte, q_b, ifp, q_f, q_l, q_s, q_a, AV.one, D.one, Value.oneCell', q_n, Nat.reduceEqDiff, takeD_all, Nat.reduceAdd, sz_29, ag_29]
          refine hK25 _ _ ?_
          refine awp_ret ?_
          try dsimp only [thenA, inBlockA]
          refine PostA_retct rfl ?_
          simp -dsimp -implicitDefEqProofs (disch := first | assumption | omega | (simp [maxLen, avs_len] <;> omega) | decide) only [oK_some, q_o, loadF, ↓reduceIte, q_b, ifp, q_f, q_l, q_n, Nat.reduceEqDiff, takeD_all, Nat.reduceAdd, sz_29, ag_29]
          show closeA _ _ = _
          simp (disch := first | assumption | omega | (simp [maxLen, avs_len] <;> omega) | decide) only [List.map_cons, List.map_nil, closeA, deep_d, deep_agg, deepL_nil, deepL_cons, Nat.reduceAdd, Nat.zero_add, D.fix, Option.map_some, Option.bind_some, List.length_cons, List.length_nil, iD, intsD, intssD, rolD, rolC, hx, gotP, rolD, rolC]
        · cases ht
      · have hx : seeG r p = (r, 0) := by rw [hgo]; simp [h]
        simp -dsimp -implicitDefEqProofs (disch := first | assumption | omega | (simp [maxLen, avs_len] <;> omega) | decide) only [sT_assign, sT_load, sT_fa, sT_ia, sT_nil, oK_some, loadF, fieldAddrF, ixO, indexAddrF, ↓reduceIte, q_b, ifp, q_f, q_l, q_n, Nat.reduceEqDiff, Nat.reduceAdd, Int.reduceToNat, h, fo_29_6, sz_3, ag_3, eo_83, fo_82_0, sz_74, ag_74]
        refine hK22 _ _ ?_
        refine awp_seq_s KT_ok hc rfl fun K26 hK26 => ?_
        simp -dsimp -implicitDefEqProofs (disch := first | assumption | omega | (simp [maxLen, avs_len] <;> omega) | decide) only [sT_move, sT_bin, sT_nil, oK_some, q_o, binF_v, ↓reduceIte, q_b, q_f, v_nneq, fn_74]
        refine hK26 _ _ ?_
        refine awp_cond rfl (fun ht => ?_) (fun ht => ?_)
        · cases ht
        · refine awp_skip (hK21 _ _ ?_)
          refine awp_seq_s KT_ok hc rfl fun K27 hK27 => ?_
          simp -dsimp -implicitDefEqProofs (disch := first | assumption | omega | (simp [maxLen, avs_len] <;> omega) | decide) only [sT_assign, sT_load, sT_store, sT_nil, oK_some, q_o, loadF, storeF, ↓reduceIte, q_b, ifp, q_f, q_l, q_s, q_a, AV.one, D.one, Value.oneCell', q_n, Nat.reduceEqDiff, takeD_all, Nat.reduceAdd, sz_29, ag_29]
          refine hK27 _ _ ?_
          refine awp_ret ?_
          try dsimp only [thenA, inBlockA]
          refine PostA_retct rfl ?_
          simp -dsimp -implicitDefEqProofs (disch := first | assumption | omega | (simp [maxLen, avs_len] <;> omega) | decide) only [oK_some, q_o, loadF, ↓reduceIte, q_b, ifp, q_f, q_l, q_n, Nat.reduceEqDiff, takeD_all, Nat.reduceAdd, sz_29, ag_29]
          show closeA _ _ = _
          simp (disch := first | assumption | omega | (simp [maxLen, avs_len] <;> omega) | decide) only [List.map_cons, List.map_nil, closeA, deep_d, deep_agg, deepL_nil, deepL_cons, Nat.reduceAdd, Nat.zero_add, D.fix, Option.map_some, Option.bind_some, List.length_cons, List.length_nil, iD, intsD, intssD, rolD, rolC, hx, h, gotP, rolD, rolC]
      · have hx : seeG r p = (turnedG r p, 0) := by rw [hgo]; simp [h]
        have hpo := hr.pos (.inr h)
        simp -dsimp -implicitDefEqProofs (disch := first | assumption | omega | (simp [maxLen, avs_len] <;> omega) | decide) only [sT_assign, sT_load, sT_fa, sT_ia, sT_nil, oK_some, loadF, fieldAddrF, ixO, indexAddrF, ↓reduceIte, q_b, ifp, q_f, q_l, q_n, Nat.reduceEqDiff, Nat.reduceAdd, Int.reduceToNat, h, fo_29_6, sz_3, ag_3, eo_83, fo_82_0, sz_74, ag_74]
        refine hK22 _ _ ?_
        refine awp_seq_s KT_ok hc rfl fun K28 hK28 => ?_
        simp -dsimp -implicitDefEqProofs (disch := first | assumption | omega | (simp [maxLen, avs_len] <;> omega) | decide) only [sT_move, sT_bin, sT_nil, oK_some, q_o, binF_v, ↓reduceIte, q_b, q_f, v_fneq, fn_74]
        refine hK28 _ _ ?_
        refine awp_cond rfl (fun ht => ?_) (fun ht => ?_)
        · refine awp_s KT_ok hc rfl fun K29 hK29 => ?_
          simp -dsimp -implicitDefEqProofs (disch := first | assumption | omega | (simp [maxLen, avs_len] <;> omega) | decide) only [sT_move, sT_load, sT_callt, oK_some, q_o, loadF, ↓reduceIte, q_b, ifp, q_f, q_s, q_l, q_n, Nat.reduceEqDiff, takeD_all, Nat.reduceAdd, sz_29, ag_29, sz_31, ag_31]
          refine kc_by (turned_c r p hr.short hr.ok hr.chip hr.dl hpo.1 hpo.2) (by rw [← h]; rfl) ?_
          simp -dsimp -implicitDefEqProofs (disch := first | assumption | omega | (simp [maxLen, avs_len] <;> omega) | decide) only [sT_store, sT_nil, oK_some, storeF, ↓reduceIte, q_b, ifp, q_f, q_s, q_l, as_dagg, q_a, D.one, Value.oneCell', q_n, Nat.reduceEqDiff, iD, intsD, intssD, Nat.reduceAdd, rolD, rolC, sz_29]
          refine hK29 _ _ (hK21 _ _ ?_)
          refine awp_seq_s KT_ok hc rfl fun K30 hK30 => ?_
          simp -dsimp -implicitDefEqProofs (disch := first | assumption | omega | (simp [maxLen, avs_len] <;> omega) | decide) only [sT_assign, sT_load, sT_store, sT_nil, oK_some, q_o, loadF, storeF, ↓reduceIte, q_b, ifp, q_f, q_l, q_s, q_a, AV.one, D.one, Value.oneCell', q_n, Nat.reduceEqDiff, takeD_all, Nat.reduceAdd, sz_29, ag_29]
          refine hK30 _ _ ?_
          refine awp_ret ?_
          try dsimp only [thenA, inBlockA]
          refine PostA_retct rfl ?_
          simp -dsimp -implicitDefEqProofs (disch := first | assumption | omega | (simp [maxLen, avs_len] <;> omega) | decide) only [oK_some, q_o, loadF, ↓reduceIte, q_b, ifp, q_f, q_l, q_n, Nat.reduceEqDiff, takeD_all, Nat.reduceAdd, sz_29, ag_29]
          show closeA _ _ = _
          simp (disch := first | assumption | omega | (simp [maxLen, avs_len] <;> omega) | decide) only [List.map_cons, List.map_nil, closeA, deep_d, deep_agg, deepL_nil, deepL_cons, Nat.reduceAdd, Nat.zero_add, D.fix, Option.map_some, Option.bind_some, List.length_cons, List.length_nil, iD, intsD, intssD, rolD, rolC, hx, gotP, rolD, rolC]
        · cases ht
      · have hx : seeG r p = (r, 0) := by rw [hgo]; simp [h]
        simp -dsimp -implicitDefEqProofs (disch := first | assumption | omega | (simp [maxLen, avs_len] <;> omega) | decide) only [sT_assign, sT_load, sT_fa, sT_ia, sT_nil, oK_some, loadF, fieldAddrF, ixO, indexAddrF, ↓reduceIte, q_b, ifp, q_f, q_l, q_n, Nat.reduceEqDiff, Nat.reduceAdd, Int.reduceToNat, h, fo_29_6, sz_3, ag_3, eo_83, fo_82_0, sz_74, ag_74]
        refine hK22 _ _ ?_
        refine awp_seq_s KT_ok hc rfl fun K31 hK31 => ?_
        simp -dsimp -implicitDefEqProofs (disch := first | assumption | omega | (simp [maxLen, avs_len] <;> omega) | decide) only [sT_move, sT_bin, sT_nil, oK_some, q_o, binF_v, ↓reduceIte, q_b, q_f, v_nneq, fn_74]
        refine hK31 _ _ ?_
        refine awp_cond rfl (fun ht => ?_) (fun ht => ?_)
        · cases ht
        · refine awp_skip (hK21 _ _ ?_)
          refine awp_seq_s KT_ok hc rfl fun K32 hK32 => ?_
          simp -dsimp -implicitDefEqProofs (disch := first | assumption | omega | (simp [maxLen, avs_len] <;> omega) | decide) only [sT_assign, sT_load, sT_store, sT_nil, oK_some, q_o, loadF, storeF, ↓reduceIte, q_b, ifp, q_f, q_l, q_s, q_a, AV.one, D.one, Value.oneCell', q_n, Nat.reduceEqDiff, takeD_all, Nat.reduceAdd, sz_29, ag_29]
          refine hK32 _ _ ?_
          refine awp_ret ?_
          try dsimp only [thenA, inBlockA]
          refine PostA_retct rfl ?_
          simp -dsimp -implicitDefEqProofs (disch := first | assumption | omega | (simp [maxLen, avs_len] <;> omega) | decide) only [oK_some, q_o, loadF, ↓reduceIte, q_b, ifp, q_f, q_l, q_n, Nat.reduceEqDiff, takeD_all, Nat.reduceAdd, sz_29, ag_29]
          show closeA _ _ = _
          simp (disch := first | assumption | omega | (simp [maxLen, avs_len] <;> omega) | decide) only [List.map_cons, List.map_nil, closeA, deep_d, deep_agg, deepL_nil, deepL_cons, Nat.reduceAdd, Nat.zero_add, D.fix, Option.map_some, Option.bind_some, List.length_cons, List.length_nil, iD, intsD, intssD, rolD, rolC, hx, h, gotP, rolD, rolC]
      · have hx : seeG r p = (r, 0) := by rw [hgo]; simp [h]
        simp -dsimp -implicitDefEqProofs (disch := first | assumption | omega | (simp [maxLen, avs_len] <;> omega) | decide) only [sT_assign, sT_load, sT_fa, sT_ia, sT_nil, oK_some, loadF, fieldAddrF, ixO, indexAddrF, ↓reduceIte, q_b, ifp, q_f, q_l, q_n, Nat.reduceEqDiff, Nat.reduceAdd, Int.reduceToNat, h, fo_29_6, sz_3, ag_3, eo_83, fo_82_0, sz_74, ag_74]
        refine hK22 _ _ ?_
        refine awp_seq_s KT_ok hc rfl fun K33 hK33 => ?_
        simp -dsimp -implicitDefEqProofs (disch := first | assumption | omega | (simp [maxLen, avs_len] <;> omega) | decide) only [sT_move, sT_bin, sT_nil, oK_some, q_o, binF_v, ↓reduceIte, q_b, q_f, v_nneq, fn_74]
        refine hK33 _ _ ?_
        refine awp_cond rfl (fun ht => ?_) (fun ht => ?_)
        · cases ht
        · refine awp_skip (hK21 _ _ ?_)
          refine awp_seq_s KT_ok hc rfl fun K34 hK34 => ?_
          simp -dsimp -implicitDefEqProofs (disch := first | assumption | omega | (simp [maxLen, avs_len] <;> omega) | decide) only [sT_assign, sT_load, sT_store, sT_nil, oK_some, q_o, loadF, storeF, ↓reduceIte, q_b, ifp, q_f, q_l, q_s, q_a, AV.one, D.one, Value.oneCell', q_n, Nat.reduceEqDiff, takeD_all, Nat.reduceAdd, sz_29, ag_29]
          refine hK34 _ _ ?_
          refine awp_ret ?_
          try dsimp only [thenA, inBlockA]
          refine PostA_retct rfl ?_
          simp -dsimp -implicitDefEqProofs (disch := first | assumption | omega | (simp [maxLen, avs_len] <;> omega) | decide) only [oK_some, q_o, loadF, ↓reduceIte, q_b, ifp, q_f, q_l, q_n, Nat.reduceEqDiff, takeD_all, Nat.reduceAdd, sz_29, ag_29]
          show closeA _ _ = _
          simp (disch := first | assumption | omega | (simp [maxLen, avs_len] <;> omega) | decide) only [List.map_cons, List.map_nil, closeA, deep_d, deep_agg, deepL_nil, deepL_cons, Nat.reduceAdd, Nat.zero_add, D.fix, Option.map_some, Option.bind_some, List.length_cons, List.length_nil, iD, intsD, intssD, rolD, rolC, hx, h, gotP, rolD, rolC]
  · have hx : seeG r p = (noRol, 510) := by simp [seeG, g2, g3]
    have h := hx
    simp -dsimp -implicitDefEqProofs (disch := first | assumption | omega | (simp [maxLen, avs_len] <;> omega) | decide) only [sT_load, sT_fa, sT_call0, oK_some, q_o, loadF, fieldAddrF, ↓reduceIte, q_b, ifp, q_f, q_s, q_l, q_n, Nat.reduceEqDiff, takeD_all, Nat.reduceAdd, sz_29, ag_29, fo_31_0, sz_3, ag_3]
    refine kc_by (wave_c r p.chip hr.short) rfl ?_
    simp -dsimp -implicitDefEqProofs (disch := first | assumption | omega | (simp [maxLen, avs_len] <;> omega) | decide) only [sT_move, sT_pick, sT_load, sT_fa, sT_bin, sT_nil, sT_g, oK_some, gK_t, q_o, loadF, fieldAddrF, binF_v, v_neq, v_lss, ↓reduceIte, q_b, ifp, guardA_some, guardV_t, guardV_f, q_f, q_l, q_n, Nat.reduceEqDiff, iD, Nat.reduceAdd, dec_f, bne_t, nb_t, sz_3, ag_3, fo_31_1, fo_29_0, fo_29_1]
    refine hK3 _ _ ?_
    refine awp_cond rfl (fun ht => ?_) (fun ht => ?_)
    · refine awp_seq_s KT_ok hc rfl fun K35 hK35 => ?_
      simp -dsimp -implicitDefEqProofs (disch := first | assumption | omega | (simp [maxLen, avs_len] <;> omega) | decide) only [sT_assign, sT_build, sT_store, sT_nil, oK_some, q_o, buildF, storeF, ↓reduceIte, q_b, ifp, q_f, q_s, q_l, q_a, AV.one, D.one, Value.oneCell', q_n, Nat.reduceEqDiff, Nat.reduceAdd, pa_29, sz_29, zc_29]
      refine hK35 _ _ ?_
      refine awp_ret ?_
      try dsimp only [thenA, inBlockA]
      refine PostA_retct rfl ?_
      simp -dsimp -implicitDefEqProofs (disch := first | assumption | omega | (simp [maxLen, avs_len] <;> omega) | decide) only [oK_some, q_o, loadF, ↓reduceIte, q_b, ifp, q_f, q_l, q_n, Nat.reduceEqDiff, takeD_all, Nat.reduceAdd, sz_29, ag_29]
      show closeA _ _ = _
      simp (disch := first | assumption | omega | (simp [maxLen, avs_len] <;> omega) | decide) only [List.map_cons, List.map_nil, closeA, deep_d, deep_agg, deepL_nil, deepL_cons, Nat.reduceAdd, Nat.zero_add, D.fix, Option.map_some, Option.bind_some, List.length_cons, List.length_nil, iD, intsD, intssD, rolD, rolC, hx, gotP, noRol, rolD, rolC]
    · cases ht
end Go.Proofs.Ytinefghmmbggeaa

/- The reference: lists. -/
set_option linter.unusedVariables false
set_option linter.unusedSimpArgs false
namespace Go.Proofs.Ytinefghmmbggeaa
open Go Go.RowKit
theorem inB_nth {n : Int} {l : List Int} (h : ∀ j, j < l.length → (nth l j == n) = false) : inB n l = false := by
  unfold inB
  rw [List.any_eq_false]
  intro x hx
  obtain ⟨j, hj, rfl⟩ := List.getElem_of_mem hx
  have := h j hj
  rw [nth_eq hj] at this
  simp at this ⊢
  exact fun e => this e.symm
set_option maxRecDepth 100000 in
set_option linter.unusedVariables false in
set_option maxHeartbeats 4000000 in
theorem in_c (l : List Int) (n : Int) (hl : l.length ≤ 1000000) : PCalls Try.prog 29 [intsD l, iD n] (.d (.val (.bool (inB n l)))) := by
  refine pcalls_of0 (fn := Try.f29) (by kernel_rfl) Try.func29 rfl (Nat.le_of_ble_eq_true rfl) fun c hc hp => ?_
  refine awp_less (τ' := frL [(0, .d (intsD l)), (1, .d (iD n))]) (less_cons (less_cons (less_nil _) rfl) rfl) ?_
  refine awp_seq_s KT_ok hc rfl fun K1 hK1 => ?_
  simp -dsimp -implicitDefEqProofs (disch := first | assumption | omega | (simp [maxLen, avs_len] <;> omega) | decide) only [sT_assign, sT_nil, q_f, iD, intsD]
  refine hK1 _ _ ?_
  refine awp_seq_k fun K2 hK2 => ?_
  refine awp_seq_s KT_ok hc rfl fun K3 hK3 => ?_
  simp -dsimp -implicitDefEqProofs (disch := first | assumption | omega | (simp [maxLen, avs_len] <;> omega) | decide) only [sT_assign, sT_nil, q_f]
  refine hK3 _ _ ?_
  refine awp_block ?_
  refine awp_loop_rt hp (fun τ' H' mm => ∃ k, (k ≤ l.length ∧ ∀ j, j < k → (nth l j == n) = false) ∧ mm = l.length - k ∧ H' = [] ∧ τ' = frL [(0, .d (intsD l)), (1, .d (iD n)), (5, .d (iD k))]) (l.length) ?_ ⟨0, ⟨Nat.zero_le _, fun j hj => absurd hj (by omega)⟩, rfl, rfl, rfl⟩ ?_
  · refine Rt.end (less_cons (less_cons (less_cons (less_nil _) rfl) rfl) rfl) ?_
    first | rfl | (simp only [intsD, boolsD, bytesD, intssD, bytessD, gcH, gcO, gcVs_avs, gcVs, gcV, gcV_d, fzH, fzO, fzVs_avs, fzVs, fzV, posN, avs_nil, avs_cons, List.map_cons, List.map_nil, List.getD_cons_zero, List.getD_cons_succ, ↓reduceIte, Nat.reduceEqDiff, Option.map_some, List.set_cons_zero, List.set_cons_succ, takeD_avs, takeD_all, Nat.mul_one, List.length_map, List.cons_append, List.nil_append]; first | done | rfl)
  rintro τ' H' mm ⟨k, ⟨hk, hf⟩, rfl, rfl, rfl⟩
  refine awp_seq_k fun K4 hK4 => ?_
  refine awp_seq_s KT_ok hc rfl fun K5 hK5 => ?_
  simp -dsimp -implicitDefEqProofs (disch := first | assumption | omega | (simp [maxLen, avs_len] <;> omega) | decide) only [sT_move, sT_bin, sT_len, sT_nil, oK_some, q_o, binF_v, lenF, builtinF, v_lss, ↓reduceIte, q_b, q_f, q_s, Nat.reduceEqDiff, iD, intsD, eo_27]
  refine hK5 _ _ ?_
  refine awp_cond rfl (fun ht => ?_) (fun ht => ?_)
  · have hlt : k < l.length := by simp at ht; omega
    refine awp_skip (hK4 _ _ ?_)
    refine awp_seq_k fun K6 hK6 => ?_
    refine awp_block ?_
    refine awp_seq_s KT_ok hc rfl fun K7 hK7 => ?_
    simp -dsimp -implicitDefEqProofs (disch := first | assumption | omega | (simp [maxLen, avs_len] <;> omega) | decide) only [sT_move, sT_load, sT_ia, sT_bin, sT_nil, oK_some, q_o, loadF, ixO, indexAddrF, binF_v, v_eql, ↓reduceIte, q_b, ifp, q_f, Int.toNat_natCast, q_n, Nat.reduceEqDiff, get_map, iD, eo_27, sz_3, ag_3]
    refine hK7 _ _ ?_
    refine awp_cond rfl (fun ht => ?_) (fun ht => ?_)
    · have hx : inB n l = true := inB_iff.2 (by
        have e : nth l k = n := by simpa using ht
        rw [← e]; exact nth_mem hlt)
      refine awp_seq_s KT_ok hc rfl fun K8 hK8 => ?_
      simp -dsimp -implicitDefEqProofs (disch := first | assumption | omega | (simp [maxLen, avs_len] <;> omega) | decide) only [sT_assign, sT_nil, q_f]
      refine hK8 _ _ ?_
      refine awp_ret ?_
      show closeA _ _ = _
      simp (disch := first | assumption | omega | (simp [maxLen, avs_len] <;> omega) | decide) only [closeA, retV, deep_d, D.fix, frL_get, ↓reduceIte, Option.map_some, List.length_nil, hx]
    · have hf' : ∀ j, j < k + 1 → (nth l j == n) = false := fun j hj => by
        rcases Nat.lt_or_ge j k with h | h
        · exact hf j h
        · obtain rfl : j = k := by omega
          exact ht
      refine awp_skip (hK6 _ _ ?_)
      refine awp_s KT_ok hc rfl fun K9 hK9 => ?_
      simp -dsimp -implicitDefEqProofs (disch := first | assumption | omega | (simp [maxLen, avs_len] <;> omega) | decide) only [sT_move, sT_assign, sT_bin, sT_nil, oK_some, q_o, binF_v, v_add, ↓reduceIte, q_b, q_f, Nat.reduceEqDiff]
      refine hK9 _ _ ⟨_, _, _, ?_, ⟨k + 1, ⟨by omega, hf'⟩, rfl, rfl, rfl⟩, ?_⟩
      · first | omega | (simp only [List.length_cons]; omega) | (dsimp only; omega)
      · refine Rt.end (less_cons (less_cons (less_cons (less_nil _) rfl) rfl) rfl) ?_
        first | rfl | (simp only [intsD, boolsD, bytesD, intssD, bytessD, gcH, gcO, gcVs_avs, gcVs, gcV, gcV_d, fzH, fzO, fzVs_avs, fzVs, fzV, posN, avs_nil, avs_cons, List.map_cons, List.map_nil, List.getD_cons_zero, List.getD_cons_succ, ↓reduceIte, Nat.reduceEqDiff, Option.map_some, List.set_cons_zero, List.set_cons_succ, takeD_avs, takeD_all, Nat.mul_one, List.length_map, List.cons_append, List.nil_append]; first | done | rfl)
  · have hx : inB n l = false := inB_nth fun j hj => hf j (by simp at ht; omega)
    refine awp_exit (hK2 _ _ ?_)
    refine awp_seq_s KT_ok hc rfl fun K10 hK10 => ?_
    simp -dsimp -implicitDefEqProofs (disch := first | assumption | omega | (simp [maxLen, avs_len] <;> omega) | decide) only [sT_assign, sT_nil, q_f]
    refine hK10 _ _ ?_
    refine awp_ret ?_
    show closeA _ _ = _
    simp (disch := first | assumption | omega | (simp [maxLen, avs_len] <;> omega) | decide) only [closeA, retV, deep_d, D.fix, frL_get, ↓reduceIte, Option.map_some, List.length_nil, hx]
/-- Where a number goes. -/
def spl (n : Int) (l : List Int) : Nat := (l.takeWhile fun x => decide (x < n)).length
def insL (n : Int) (l : List Int) : List Int := if inB n l then l else l.take (spl n l) ++ [n] ++ l.drop (spl n l)
theorem spl_at {n : Int} : ∀ {l : List Int} {k : Nat}, k ≤ l.length → (∀ j, j < k → nth l j < n) → (k < l.length → ¬ nth l k < n) → spl n l = k
  | [], k, hk, _, _ => by simp at hk; subst hk; rfl
  | a :: l, k, hk, h1, h2 => by
    unfold spl
    rw [List.takeWhile_cons]
    cases k with
    | zero =>
      have : ¬ a < n := by have := h2 (by simp); simpa [nth] using this
      simp [this]
    | succ k =>
      have : a < n := by have := h1 0 (by omega); simpa [nth] using this
      simp only [this, decide_true, if_true, List.length_cons]
      have ih := spl_at (n := n) (l := l) (k := k) (by simpa using hk) (fun j hj => by have := h1 (j + 1) (by omega); simpa [nth] using this) (fun h => by have := h2 (by simpa using h); simpa [nth] using this)
      unfold spl at ih
      rw [ih]
set_option maxRecDepth 100000 in
set_option linter.unusedVariables false in
set_option maxHeartbeats 4000000 in
theorem put_c (l : List Int) (n : Int) (hl : l.length ≤ 999999) : PCalls Try.prog 46 [intsD l, iD n] (.d (intsD (insL n l))) := by
  refine pcalls_of0 (fn := Try.f46) (by kernel_rfl) Try.func46 rfl (Nat.le_of_ble_eq_true rfl) fun c hc hp => ?_
  refine awp_less (τ' := frL [(0, .d (intsD l)), (1, .d (iD n))]) (less_cons (less_cons (less_nil _) rfl) rfl) ?_
  refine awp_seq_s KT_ok hc rfl fun K1 hK1 => ?_
  simp -dsimp -implicitDefEqProofs (disch := first | assumption | omega | (simp [maxLen, avs_len, List.length_take] <;> omega) | decide) only [sT_assign, sT_nil, q_f, iD, intsD]
  refine hK1 _ _ ?_
  refine awp_seq_k fun K2 hK2 => ?_
  refine awp_seq_s KT_ok hc rfl fun K3 hK3 => ?_
  simp -dsimp -implicitDefEqProofs (disch := first | assumption | omega | (simp [maxLen, avs_len, List.length_take] <;> omega) | decide) only [sT_move, sT_call0, ↓reduceIte, q_b, q_f, q_s, q_l, Nat.reduceEqDiff]
  refine kc_by (in_c l n (by omega)) rfl ?_
  simp -dsimp -implicitDefEqProofs (disch := first | assumption | omega | (simp [maxLen, avs_len, List.length_take] <;> omega) | decide) only [sT_nil, q_f]
  refine hK3 _ _ ?_
  refine awp_cond rfl (fun ht => ?_) (fun ht => ?_)
  · have hx : insL n l = l := by simp [insL, ht]
    have hdr := hx
    have hle2 := hx
    refine awp_seq_s KT_ok hc rfl fun K4 hK4 => ?_
    simp -dsimp -implicitDefEqProofs (disch := first | assumption | omega | (simp [maxLen, avs_len, List.length_take] <;> omega) | decide) only [sT_move, sT_assign, sT_nil, ↓reduceIte, q_b, q_f, Nat.reduceEqDiff]
    refine hK4 _ _ ?_
    refine awp_ret ?_
    show closeA _ _ = _
    simp (disch := first | assumption | omega | (simp [maxLen, avs_len, List.length_take] <;> omega) | decide) only [closeA, retV, deep_d, D.fix, frL_get, ↓reduceIte, Option.map_some, List.length_nil, intsD, hx]
  · have hno : inB n l = false := ht
    refine awp_skip (hK2 _ _ ?_)
    refine awp_seq_s KT_ok hc rfl fun K5 hK5 => ?_
    simp -dsimp -implicitDefEqProofs (disch := first | assumption | omega | (simp [maxLen, avs_len, List.length_take] <;> omega) | decide) only [sT_assign, sT_bs, deadH, sT_nil, oK_some, q_o, layF, ↓reduceIte, q_b, ifp, q_f, q_s, q_l, List.replicate_zero, reps_def, q_a, q_n, deadH, mk_27]
    refine hK5 _ _ ?_
    refine awp_seq_s KT_ok hc rfl fun K6 hK6 => ?_
    simp -dsimp -implicitDefEqProofs (disch := first | assumption | omega | (simp [maxLen, avs_len, List.length_take] <;> omega) | decide) only [sT_assign, sT_nil, q_f]
    refine hK6 _ _ ?_
    refine awp_seq_k fun K7 hK7 => ?_
    refine awp_block ?_
    refine awp_loop_rt hp (fun τ' H' mm => ∃ k, (k ≤ l.length ∧ ∀ j, j < k → nth l j < n) ∧ mm = l.length - k ∧ H' = [.cells (avs ((l.take k).map iD))] ∧ τ' = frL [(0, .d (intsD l)), (1, .d (iD n)), (5, .os 1 0 0 k), (6, .d (iD k))]) (l.length) ?_ ⟨0, ⟨Nat.zero_le _, fun j hj => absurd hj (by omega)⟩, rfl, rfl, rfl⟩ ?_
    · refine Rt.end (less_cons (less_cons (less_cons (less_cons (less_nil _) rfl) rfl) rfl) rfl) ?_
      first | rfl | (simp only [intsD, boolsD, bytesD, intssD, bytessD, gcH, gcO, gcVs_avs, gcVs, gcV, gcV_d, fzH, fzO, fzVs_avs, fzVs, fzV, posN, avs_nil, avs_cons, List.map_cons, List.map_nil, List.getD_cons_zero, List.getD_cons_succ, ↓reduceIte, Nat.reduceEqDiff, Option.map_some, List.set_cons_zero, List.set_cons_succ, takeD_avs, takeD_all, Nat.mul_one, List.length_map, List.cons_append, List.nil_append]; first | done | rfl)
    rintro τ' H' mm ⟨k, ⟨hk, hf⟩, rfl, rfl, rfl⟩
    refine awp_seq_k fun K8 hK8 => ?_
    refine awp_seq_s KT_ok hc rfl fun K9 hK9 => ?_
    rcases (show (k < l.length ∧ nth l k < n) ∨ (k < l.length ∧ ¬ nth l k < n) ∨ ¬ k < l.length from by omega) with ⟨hlt, hv⟩ | ⟨hlt, hv⟩ | hlt
    · simp -dsimp -implicitDefEqProofs (disch := first | assumption | omega | (simp [maxLen, avs_len, List.length_take] <;> omega) | decide) only [sT_move, sT_pick, sT_load, sT_ia, sT_bin, sT_len, sT_nil, sT_g, oK_some, gK_t, q_o, loadF, ixO, indexAddrF, binF_v, lenF, builtinF, v_lss, ↓reduceIte, q_b, ifp, guardA_some, guardV_t, q_f, q_s, q_l, Int.toNat_natCast, q_n, Nat.reduceEqDiff, get_map, iD, intsD, dec_t, eo_27, sz_3, ag_3]
      refine hK9 _ _ ?_
      refine awp_cond rfl (fun ht => ?_) (fun ht => ?_)
      · refine awp_skip (hK8 _ _ ?_)
        refine awp_block ?_
        refine awp_seq_s KT_ok hc rfl fun K10 hK10 => ?_
        simp -dsimp -implicitDefEqProofs (disch := first | assumption | omega | (simp [maxLen, avs_len, List.length_take] <;> omega) | decide) only [sT_move, sT_assign, sT_load, sT_ia, sT_bs, sT_app, deadH, sT_nil, oK_some, q_o, loadF, ixO, indexAddrF, layF, srcF, ↓reduceIte, q_b, ifp, ifn, q_f, q_s, q_l, List.append_nil, List.replicate_zero, List.replicate_succ, reps_def, q_a, fill_cons, Int.toNat_natCast, q_n, Nat.reduceEqDiff, avs_len, avs_app1, takeD_all, List.drop_zero, get_map, iD, Nat.reduceAdd, deadH, List.length_map, eo_27, sz_3, ag_3, mk_27]
        refine hK10 _ _ ?_
        refine awp_s KT_ok hc rfl fun K11 hK11 => ?_
        simp -dsimp -implicitDefEqProofs (disch := first | assumption | omega | (simp [maxLen, avs_len, List.length_take] <;> omega) | decide) only [sT_move, sT_assign, sT_bin, sT_nil, oK_some, q_o, binF_v, v_add, ↓reduceIte, q_b, q_f, Nat.reduceEqDiff]
        refine hK11 _ _ ⟨_, _, _, ?_, ⟨k + 1, ⟨by omega, fun j hj => by rcases Nat.lt_or_ge j k with h | h; exact hf j h; (obtain rfl : j = k := (by omega)); exact hv⟩, rfl, rfl, rfl⟩, ?_⟩
        · first | omega | (simp only [List.length_cons]; omega) | (dsimp only; omega)
        · refine Rt.trans (Rt.gc (keep := [2]) (by decide) (by simp [])) ?_
          refine Rt.end (less_cons (less_cons (less_cons (less_cons (less_nil _) rfl) rfl) rfl) rfl) ?_
          simp only [gcH, gcO, gcVs_avs, List.map_cons, List.map_nil, List.getD_cons_zero, List.getD_cons_succ, take_nth hlt, List.map_append]; rfl
      · cases ht
    · simp -dsimp -implicitDefEqProofs (disch := first | assumption | omega | (simp [maxLen, avs_len, List.length_take] <;> omega) | decide) only [sT_move, sT_pick, sT_load, sT_ia, sT_bin, sT_len, sT_nil, sT_g, oK_some, gK_t, q_o, loadF, ixO, indexAddrF, binF_v, lenF, builtinF, v_lss, ↓reduceIte, q_b, ifp, guardA_some, guardV_t, q_f, q_s, q_l, Int.toNat_natCast, q_n, Nat.reduceEqDiff, get_map, iD, intsD, dec_t, dec_f, eo_27, sz_3, ag_3]
      refine hK9 _ _ ?_
      refine awp_cond rfl (fun ht => ?_) (fun ht => ?_)
      · cases ht
      · have hsp : spl n l = k := spl_at hk hf (by omega)
        have hx : insL n l = l.take k ++ n :: l.drop k := by simp [insL, hno, hsp]
        have hdr : List.take ((l.length : Int) - k).toNat (List.drop k (List.map iD l)) = (l.drop k).map iD := by
          rw [← List.map_drop]; apply List.take_of_length_le; simp <;> omega
        have hle2 : k + 1 + ((l.length : Int) - k).toNat = (l.take k ++ n :: l.drop k).length := by simp; omega
        refine awp_exit (hK7 _ _ ?_)
        refine awp_seq_s KT_ok hc rfl fun K12 hK12 => ?_
        simp -dsimp -implicitDefEqProofs (disch := first | assumption | omega | (simp [maxLen, avs_len, List.length_take] <;> omega) | decide) only [sT_move, sT_assign, sT_bs, sT_app, deadH, sT_nil, oK_some, q_o, layF, srcF, ↓reduceIte, q_b, ifp, ifn, q_f, q_s, q_l, List.append_nil, List.replicate_zero, List.replicate_succ, reps_def, q_a, fill_cons, q_n, Nat.reduceEqDiff, avs_len, avs_app1, takeD_all, List.drop_zero, Nat.reduceAdd, deadH, List.length_map, mk_27]
        refine hK12 _ _ ?_
        refine awp_seq_s KT_ok hc rfl fun K13 hK13 => ?_
        simp -dsimp -implicitDefEqProofs (disch := first | assumption | omega | (simp [maxLen, avs_len, List.length_take] <;> omega) | decide) only [sT_move, sT_assign, sT_slice, sT_app, deadH, sT_nil, oK_some, q_o, sliceF, layF, srcF, sb_none, sb_some, ↓reduceIte, q_b, ifp, q_f, q_l, q_s, Int.toNat_natCast, q_n, Nat.reduceEqDiff, map_d, avs_len, avs_app, List.drop_zero, Nat.reduceAdd, deadH, eo_27, mk_27]
        refine hK13 _ _ ?_
        refine awp_ret ?_
        show closeA _ _ = _
        simp (disch := first | assumption | omega | (simp [maxLen, avs_len, List.length_take] <;> omega) | decide) only [List.map_cons, closeA, retV, deepL_avs, lookH_eq, cellsOf_c, deep_os, Nat.reduceAdd, Nat.zero_add, takeD_all, fixm_i, D.fix, frL_get, ↓reduceIte, Option.map_some, Option.bind_some, Nat.mul_one, List.getElem?_cons_zero, List.getElem?_cons_succ, List.length_cons, List.length_nil, iD, intsD, hx, hdr, hle2, List.map_append, List.map_cons, List.append_assoc, List.cons_append, List.nil_append]
    · simp -dsimp -implicitDefEqProofs (disch := first | assumption | omega | (simp [maxLen, avs_len, List.length_take] <;> omega) | decide) only [sT_move, sT_pick, sT_bin, sT_len, sT_nil, sT_g, oK_some, gK_f, q_o, binF_v, lenF, builtinF, v_lss, ↓reduceIte, q_b, guardA_some, guardV_t, q_f, q_s, q_l, Nat.reduceEqDiff, iD, intsD, dec_f, eo_27]
      refine hK9 _ _ ?_
      refine awp_cond rfl (fun ht => ?_) (fun ht => ?_)
      · cases ht
      · have hsp : spl n l = k := spl_at hk hf (by omega)
        have hx : insL n l = l.take k ++ n :: l.drop k := by simp [insL, hno, hsp]
        have hdr : List.take ((l.length : Int) - k).toNat (List.drop k (List.map iD l)) = (l.drop k).map iD := by
          rw [← List.map_drop]; apply List.take_of_length_le; simp <;> omega
        have hle2 : k + 1 + ((l.length : Int) - k).toNat = (l.take k ++ n :: l.drop k).length := by simp; omega
        refine awp_exit (hK7 _ _ ?_)
        refine awp_seq_s KT_ok hc rfl fun K14 hK14 => ?_
        simp -dsimp -implicitDefEqProofs (disch := first | assumption | omega | (simp [maxLen, avs_len, List.length_take] <;> omega) | decide) only [sT_move, sT_assign, sT_bs, sT_app, deadH, sT_nil, oK_some, q_o, layF, srcF, ↓reduceIte, q_b, ifp, ifn, q_f, q_s, q_l, List.append_nil, List.replicate_zero, List.replicate_succ, reps_def, q_a, fill_cons, q_n, Nat.reduceEqDiff, avs_len, avs_app1, takeD_all, List.drop_zero, Nat.reduceAdd, deadH, List.length_map, mk_27]
        refine hK14 _ _ ?_
        refine awp_seq_s KT_ok hc rfl fun K15 hK15 => ?_
        simp -dsimp -implicitDefEqProofs (disch := first | assumption | omega | (simp [maxLen, avs_len, List.length_take] <;> omega) | decide) only [sT_move, sT_assign, sT_slice, sT_app, deadH, sT_nil, oK_some, q_o, sliceF, layF, srcF, sb_none, sb_some, ↓reduceIte, q_b, ifp, q_f, q_l, q_s, Int.toNat_natCast, q_n, Nat.reduceEqDiff, map_d, avs_len, avs_app, List.drop_zero, Nat.reduceAdd, deadH, eo_27, mk_27]
        refine hK15 _ _ ?_
        refine awp_ret ?_
        show closeA _ _ = _
        simp (disch := first | assumption | omega | (simp [maxLen, avs_len, List.length_take] <;> omega) | decide) only [List.map_cons, closeA, retV, deepL_avs, lookH_eq, cellsOf_c, deep_os, Nat.reduceAdd, Nat.zero_add, takeD_all, fixm_i, D.fix, frL_get, ↓reduceIte, Option.map_some, Option.bind_some, Nat.mul_one, List.getElem?_cons_zero, List.getElem?_cons_succ, List.length_cons, List.length_nil, iD, intsD, hx, hdr, hle2, List.map_append, List.map_cons, List.append_assoc, List.cons_append, List.nil_append]
theorem put_len (n : Int) (l : List Int) : (insL n l).length ≤ l.length + 1 := by
  unfold insL
  split
  · omega
  · simp; omega
set_option maxRecDepth 100000 in
set_option linter.unusedVariables false in
set_option maxHeartbeats 4000000 in
theorem without_c (l m : List Int) (hl : l.length ≤ 1000000) (hm : m.length ≤ 1000000) : PCalls Try.prog 43 [intsD l, intsD m] (.d (intsD (l.filter fun x => !inB x m))) := by
  refine pcalls_of0 (fn := Try.f43) (by kernel_rfl) Try.func43 rfl (Nat.le_of_ble_eq_true rfl) fun c hc hp => ?_
  refine awp_less (τ' := frL [(0, .d (intsD l)), (1, .d (intsD m))]) (less_cons (less_cons (less_nil _) rfl) rfl) ?_
  refine awp_seq_s KT_ok hc rfl fun K1 hK1 => ?_
  simp -dsimp -implicitDefEqProofs (disch := first | assumption | omega | (simp [maxLen, avs_len] <;> omega) | decide) only [sT_assign, sT_nil, q_f, intsD]
  refine hK1 _ _ ?_
  refine awp_seq_s KT_ok hc rfl fun K2 hK2 => ?_
  simp -dsimp -implicitDefEqProofs (disch := first | assumption | omega | (simp [maxLen, avs_len] <;> omega) | decide) only [sT_assign, sT_bs, deadH, sT_nil, oK_some, q_o, layF, ↓reduceIte, q_b, ifp, q_f, q_s, q_l, List.replicate_zero, reps_def, q_a, q_n, deadH, mk_27]
  refine hK2 _ _ ?_
  refine awp_seq_k fun K3 hK3 => ?_
  refine awp_seq_s KT_ok hc rfl fun K4 hK4 => ?_
  simp -dsimp -implicitDefEqProofs (disch := first | assumption | omega | (simp [maxLen, avs_len] <;> omega) | decide) only [sT_assign, sT_nil, q_f]
  refine hK4 _ _ ?_
  refine awp_block ?_
  refine awp_loop_rt hp (fun τ' H' mm => ∃ k, (k ≤ l.length) ∧ mm = l.length - k ∧ H' = [.cells (avs (((l.take k).filter fun x => !inB x m).map iD))] ∧ τ' = frL [(0, .d (intsD l)), (1, .d (intsD m)), (5, .os 1 0 0 ((l.take k).filter fun x => !inB x m).length), (6, .d (iD k))]) (l.length) ?_ ⟨0, Nat.zero_le _, rfl, rfl, rfl⟩ ?_
  · refine Rt.end (less_cons (less_cons (less_cons (less_cons (less_nil _) rfl) rfl) rfl) rfl) ?_
    first | rfl | (simp only [intsD, boolsD, bytesD, intssD, bytessD, gcH, gcO, gcVs_avs, gcVs, gcV, gcV_d, fzH, fzO, fzVs_avs, fzVs, fzV, posN, avs_nil, avs_cons, List.map_cons, List.map_nil, List.getD_cons_zero, List.getD_cons_succ, ↓reduceIte, Nat.reduceEqDiff, Option.map_some, List.set_cons_zero, List.set_cons_succ, takeD_avs, takeD_all, Nat.mul_one, List.length_map, List.cons_append, List.nil_append]; first | done | rfl)
  rintro τ' H' mm ⟨k, hk, rfl, rfl, rfl⟩
  refine awp_seq_k fun K5 hK5 => ?_
  refine awp_seq_s KT_ok hc rfl fun K6 hK6 => ?_
  simp -dsimp -implicitDefEqProofs (disch := first | assumption | omega | (simp [maxLen, avs_len] <;> omega) | decide) only [sT_move, sT_bin, sT_len, sT_nil, oK_some, q_o, binF_v, lenF, builtinF, v_lss, ↓reduceIte, q_b, q_f, q_s, Nat.reduceEqDiff, iD, intsD, eo_27]
  refine hK6 _ _ ?_
  refine awp_cond rfl (fun ht => ?_) (fun ht => ?_)
  · have hlt : k < l.length := by simp at ht; omega
    have hfl : ((l.take k).filter fun x => !inB x m).length ≤ k := Nat.le_trans (List.length_filter_le _ _) (by simp; omega)
    refine awp_skip (hK5 _ _ ?_)
    refine awp_seq_k fun K7 hK7 => ?_
    refine awp_block ?_
    refine awp_seq_s KT_ok hc rfl fun K8 hK8 => ?_
    simp -dsimp -implicitDefEqProofs (disch := first | assumption | omega | (simp [maxLen, avs_len] <;> omega) | decide) only [sT_move, sT_load, sT_ia, sT_call0, oK_some, q_o, loadF, ixO, indexAddrF, ↓reduceIte, q_b, ifp, q_f, q_s, q_l, Int.toNat_natCast, q_n, Nat.reduceEqDiff, get_map, iD, eo_27, sz_3, ag_3]
    refine kc_by (in_c m (nth l k) hm) rfl ?_
    simp -dsimp -implicitDefEqProofs (disch := first | assumption | omega | (simp [maxLen, avs_len] <;> omega) | decide) only [sT_un, sT_nil, oK_some, u_not, ↓reduceIte, q_b, q_f]
    refine hK8 _ _ ?_
    refine awp_cond rfl (fun ht => ?_) (fun ht => ?_)
    · have hs : (l.take (k + 1)).filter (fun x => !inB x m) = (l.take k).filter (fun x => !inB x m) ++ [nth l k] := by rw [take_nth hlt, List.filter_append]; simp [ht]
      refine awp_s KT_ok hc rfl fun K9 hK9 => ?_
      simp -dsimp -implicitDefEqProofs (disch := first | assumption | omega | (simp [maxLen, avs_len] <;> omega) | decide) only [sT_move, sT_assign, sT_load, sT_ia, sT_bs, sT_app, deadH, sT_nil, oK_some, q_o, loadF, ixO, indexAddrF, layF, srcF, ↓reduceIte, q_b, ifp, ifn, q_f, q_s, q_l, List.append_nil, List.replicate_zero, List.replicate_succ, reps_def, q_a, fill_cons, Int.toNat_natCast, q_n, Nat.reduceEqDiff, avs_len, avs_app1, takeD_all, List.drop_zero, get_map, iD, Nat.reduceAdd, deadH, List.length_map, eo_27, sz_3, ag_3, mk_27]
      refine hK9 _ _ (hK7 _ _ ?_)
      refine awp_s KT_ok hc rfl fun K10 hK10 => ?_
      simp -dsimp -implicitDefEqProofs (disch := first | assumption | omega | (simp [maxLen, avs_len] <;> omega) | decide) only [sT_move, sT_assign, sT_bin, sT_nil, oK_some, q_o, binF_v, v_add, ↓reduceIte, q_b, q_f, Nat.reduceEqDiff]
      refine hK10 _ _ ⟨_, _, _, ?_, ⟨k + 1, by omega, rfl, rfl, rfl⟩, ?_⟩
      · first | omega | (simp only [List.length_cons]; omega) | (dsimp only; omega)
      · refine Rt.trans (Rt.gc (keep := [2]) (by decide) (by simp [])) ?_
        refine Rt.end (less_cons (less_cons (less_cons (less_cons (less_nil _) rfl) (by first | rfl | (simp [frL, gcV, posN]; done) | simp [frL, gcV, posN, *])) rfl) rfl) ?_
        simp only [gcH, gcO, gcVs_avs, List.map_cons, List.map_nil, List.getD_cons_zero, List.getD_cons_succ, hs, List.map_append]; rfl
    · have hs : (l.take (k + 1)).filter (fun x => !inB x m) = (l.take k).filter (fun x => !inB x m) := by rw [take_nth hlt, List.filter_append]; simp [ht]
      refine awp_skip (hK7 _ _ ?_)
      refine awp_s KT_ok hc rfl fun K11 hK11 => ?_
      simp -dsimp -implicitDefEqProofs (disch := first | assumption | omega | (simp [maxLen, avs_len] <;> omega) | decide) only [sT_move, sT_assign, sT_bin, sT_nil, oK_some, q_o, binF_v, v_add, ↓reduceIte, q_b, q_f, Nat.reduceEqDiff]
      refine hK11 _ _ ⟨_, _, _, ?_, ⟨k + 1, by omega, rfl, rfl, rfl⟩, ?_⟩
      · first | omega | (simp only [List.length_cons]; omega) | (dsimp only; omega)
      · refine Rt.end (less_cons (less_cons (less_cons (less_cons (less_nil _) rfl) (by first | rfl | (simp [frL]; done) | simp [frL, *])) rfl) rfl) ?_
        rw [hs]
  · have hkk : k = l.length := by simp at ht; omega
    subst hkk
    refine awp_exit (hK3 _ _ ?_)
    refine awp_seq_s KT_ok hc rfl fun K12 hK12 => ?_
    simp -dsimp -implicitDefEqProofs (disch := first | assumption | omega | (simp [maxLen, avs_len] <;> omega) | decide) only [sT_move, sT_assign, sT_nil, ↓reduceIte, q_b, q_f, Nat.reduceEqDiff]
    refine hK12 _ _ ?_
    refine awp_ret ?_
    show closeA _ _ = _
    simp (disch := first | assumption | omega | (simp [maxLen, avs_len] <;> omega) | decide) only [closeA, retV, deepL_avs, lookH_eq, cellsOf_c, deep_os, Nat.zero_add, takeD_all, fixm_i, frL_get, ↓reduceIte, Option.map_some, Option.bind_some, Nat.mul_one, List.getElem?_cons_zero, List.length_cons, List.length_nil, intsD, List.take_length]
theorem sub_without {l m : List Int} : (((l.filter fun x => !inB x m).length : Int) == 0) = subB l m := by
  rw [Bool.eq_iff_iff, subB_iff]
  simp [List.filter_eq_nil_iff, inB]
set_option maxRecDepth 100000 in
set_option linter.unusedVariables false in
set_option maxHeartbeats 4000000 in
theorem subset_c (l m : List Int) (hl : l.length ≤ 1000000) (hm : m.length ≤ 1000000) : PCalls Try.prog 40 [intsD l, intsD m] (.d (.val (.bool (subB l m)))) := by
  refine pcalls_of0 (fn := Try.f40) (by kernel_rfl) Try.func40 rfl (Nat.le_of_ble_eq_true rfl) fun c hc hp => ?_
  refine awp_less (τ' := frL [(0, .d (intsD l)), (1, .d (intsD m))]) (less_cons (less_cons (less_nil _) rfl) rfl) ?_
  refine awp_seq_s KT_ok hc rfl fun K1 hK1 => ?_
  simp -dsimp -implicitDefEqProofs (disch := first | assumption | omega | (simp [maxLen, avs_len] <;> omega) | decide) only [sT_assign, sT_nil, q_f, intsD]
  refine hK1 _ _ ?_
  refine awp_seq_s KT_ok hc rfl fun K2 hK2 => ?_
  simp -dsimp -implicitDefEqProofs (disch := first | assumption | omega | (simp [maxLen, avs_len] <;> omega) | decide) only [sT_move, sT_call0, ↓reduceIte, q_b, q_f, q_s, q_l, Nat.reduceEqDiff]
  refine kc_by (without_c l m hl hm) rfl ?_
  simp -dsimp -implicitDefEqProofs (disch := first | assumption | omega | (simp [maxLen, avs_len] <;> omega) | decide) only [sT_assign, sT_bin, sT_len, sT_nil, oK_some, q_o, binF_v, lenF, builtinF, v_eql, ↓reduceIte, q_b, q_f, q_s, intsD, eo_27]
  refine hK2 _ _ ?_
  refine awp_ret ?_
  show closeA _ _ = _
  simp (disch := first | assumption | omega | (simp [maxLen, avs_len] <;> omega) | decide) only [closeA, retV, deep_d, D.fix, frL_get, ↓reduceIte, Option.map_some, List.length_nil, sub_without]
set_option maxRecDepth 100000 in
set_option linter.unusedVariables false in
set_option maxHeartbeats 4000000 in
theorem ints_c (a b : List Int) (ha : a.length ≤ 1000000) : PCalls Try.prog 18 [intsD a, intsD b] (.d (oD (decide (a = b)))) := by
  refine pcalls_of0 (fn := Try.f18) (by kernel_rfl) Try.func18 rfl (Nat.le_of_ble_eq_true rfl) fun c hc hp => ?_
  refine awp_less (τ' := frL [(0, .d (intsD a)), (1, .d (intsD b))]) (less_cons (less_cons (less_nil _) rfl) rfl) ?_
  refine awp_seq_s KT_ok hc rfl fun K1 hK1 => ?_
  simp -dsimp -implicitDefEqProofs (disch := first | assumption | omega | (simp [maxLen, avs_len] <;> omega) | decide) only [sT_assign, sT_nil, q_f, intsD]
  refine hK1 _ _ ?_
  refine awp_seq_k fun K2 hK2 => ?_
  refine awp_seq_s KT_ok hc rfl fun K3 hK3 => ?_
  simp -dsimp -implicitDefEqProofs (disch := first | assumption | omega | (simp [maxLen, avs_len] <;> omega) | decide) only [sT_move, sT_bin, sT_len, sT_nil, oK_some, q_o, binF_v, lenF, builtinF, v_neq, ↓reduceIte, q_b, q_f, q_s, Nat.reduceEqDiff, eo_27]
  refine hK3 _ _ ?_
  refine awp_cond rfl (fun ht => ?_) (fun ht => ?_)
  · have hne : a ≠ b := fun e => by subst e; simp at ht
    refine awp_seq_s KT_ok hc rfl fun K4 hK4 => ?_
    simp -dsimp -implicitDefEqProofs (disch := first | assumption | omega | (simp [maxLen, avs_len] <;> omega) | decide) only [sT_assign, sT_nil, q_f]
    refine hK4 _ _ ?_
    refine awp_ret ?_
    show closeA _ _ = _
    simp (disch := first | assumption | omega | (simp [maxLen, avs_len] <;> omega) | decide) only [closeA, retV, deep_d, D.fix, frL_get, ↓reduceIte, Option.map_some, List.length_nil, oD]
    simp [hne]
  · have hle : a.length = b.length := by simp at ht; omega
    refine awp_skip (hK2 _ _ ?_)
    refine awp_seq_k fun K5 hK5 => ?_
    refine awp_seq_s KT_ok hc rfl fun K6 hK6 => ?_
    simp -dsimp -implicitDefEqProofs (disch := first | assumption | omega | (simp [maxLen, avs_len] <;> omega) | decide) only [sT_assign, sT_nil, q_f]
    refine hK6 _ _ ?_
    refine awp_block ?_
    refine awp_loop_rt hp (fun τ' H' mm => ∃ k, (k ≤ a.length ∧ a.take k = b.take k) ∧ mm = a.length - k ∧ H' = [] ∧ τ' = frL [(5, .d (iD k)), (0, .d (intsD a)), (1, .d (intsD b))]) (a.length) ?_ ⟨0, ⟨Nat.zero_le _, rfl⟩, rfl, rfl, rfl⟩ ?_
    · refine Rt.end (less_cons (less_cons (less_cons (less_nil _) rfl) rfl) rfl) ?_
      first | rfl | (simp only [intsD, boolsD, bytesD, intssD, bytessD, gcH, gcO, gcVs_avs, gcVs, gcV, gcV_d, fzH, fzO, fzVs_avs, fzVs, fzV, posN, avs_nil, avs_cons, List.map_cons, List.map_nil, List.getD_cons_zero, List.getD_cons_succ, ↓reduceIte, Nat.reduceEqDiff, Option.map_some, List.set_cons_zero, List.set_cons_succ, takeD_avs, takeD_all, Nat.mul_one, List.length_map, List.cons_append, List.nil_append]; first | done | rfl)
    rintro τ' H' mm ⟨k, ⟨hk, htake⟩, rfl, rfl, rfl⟩
    refine awp_seq_k fun K7 hK7 => ?_
    refine awp_seq_s KT_ok hc rfl fun K8 hK8 => ?_
    simp -dsimp -implicitDefEqProofs (disch := first | assumption | omega | (simp [maxLen, avs_len] <;> omega) | decide) only [sT_move, sT_bin, sT_len, sT_nil, oK_some, q_o, binF_v, lenF, builtinF, v_lss, ↓reduceIte, q_b, q_f, q_s, Nat.reduceEqDiff, iD, intsD, eo_27]
    refine hK8 _ _ ?_
    refine awp_cond rfl (fun ht => ?_) (fun ht => ?_)
    · have hlt : k < a.length := by simp at ht; omega
      have hlt2 : k < b.length := by omega
      refine awp_skip (hK7 _ _ ?_)
      refine awp_seq_k fun K9 hK9 => ?_
      refine awp_block ?_
      refine awp_seq_se KT_ok hc mixed rfl (q := 0) (by kernel_rfl) (by kernel_rfl) fun K10 hK10 => ?_
      simp -dsimp -implicitDefEqProofs (disch := first | assumption | omega | (simp [maxLen, avs_len] <;> omega) | decide) only [sE_move, sE_load, sE_ia, sE_bin, sE_nil, oK_some, q_o, loadF, ixO, indexAddrF, binF_v, v_neq, ↓reduceIte, q_b, ifp, q_f, q_l, List.append_nil, List.replicate_zero, Int.toNat_natCast, q_n, Nat.reduceEqDiff, killAll, get_map, iD, Nat.reduceAdd, eo_27, sz_3, ag_3]
      refine hK10 _ _ ?_
      refine awp_cond rfl (fun ht => ?_) (fun ht => ?_)
      · have hne : a ≠ b := fun e => by subst e; simp at ht
        refine awp_seq_s KT_ok hc rfl fun K11 hK11 => ?_
        simp -dsimp -implicitDefEqProofs (disch := first | assumption | omega | (simp [maxLen, avs_len] <;> omega) | decide) only [sT_assign, sT_nil, q_f]
        refine hK11 _ _ ?_
        refine awp_ret ?_
        show closeA _ _ = _
        simp (disch := first | assumption | omega | (simp [maxLen, avs_len] <;> omega) | decide) only [closeA, retV, deep_d, D.fix, frL_get, ↓reduceIte, Option.map_some, List.length_nil, oD]
        simp [hne]
      · refine awp_skip (hK9 _ _ ?_)
        refine awp_s KT_ok hc rfl fun K12 hK12 => ?_
        simp -dsimp -implicitDefEqProofs (disch := first | assumption | omega | (simp [maxLen, avs_len] <;> omega) | decide) only [sT_move, sT_assign, sT_bin, sT_nil, oK_some, q_o, binF_v, v_add, ↓reduceIte, q_b, q_f, Nat.reduceEqDiff]
        refine hK12 _ _ ⟨_, _, _, ?_, ⟨k + 1, ⟨by omega, take_eq_step hlt hlt2 htake (by simpa using ht)⟩, rfl, rfl, rfl⟩, ?_⟩
        · first | omega | (simp only [List.length_cons]; omega) | (dsimp only; omega)
        · refine Rt.end (less_cons (less_cons (less_cons (less_nil _) rfl) rfl) rfl) ?_
          first | rfl | (simp only [intsD, boolsD, bytesD, intssD, bytessD, gcH, gcO, gcVs_avs, gcVs, gcV, gcV_d, fzH, fzO, fzVs_avs, fzVs, fzV, posN, avs_nil, avs_cons, List.map_cons, List.map_nil, List.getD_cons_zero, List.getD_cons_succ, ↓reduceIte, Nat.reduceEqDiff, Option.map_some, List.set_cons_zero, List.set_cons_succ, takeD_avs, takeD_all, Nat.mul_one, List.length_map, List.cons_append, List.nil_append]; first | done | rfl)
    · have hge : k = a.length := by simp at ht; omega
      have he : a = b := by rw [hge, List.take_length, hle, List.take_length] at htake; exact htake
      refine awp_exit (hK5 _ _ ?_)
      refine awp_seq_s KT_ok hc rfl fun K13 hK13 => ?_
      simp -dsimp -implicitDefEqProofs (disch := first | assumption | omega | (simp [maxLen, avs_len] <;> omega) | decide) only [sT_assign, sT_nil, q_f]
      refine hK13 _ _ ?_
      refine awp_ret ?_
      show closeA _ _ = _
      simp (disch := first | assumption | omega | (simp [maxLen, avs_len] <;> omega) | decide) only [closeA, retV, deep_d, D.fix, frL_get, ↓reduceIte, Option.map_some, List.length_nil, oD]
      simp [he]
end Go.Proofs.Ytinefghmmbggeaa

/- Sorted lists; the reference: waves. -/
set_option linter.unusedVariables false
set_option linter.unusedSimpArgs false
namespace Go.Proofs.Ytinefghmmbggeaa
open Go Go.RowKit
abbrev Inc (l : List Int) : Prop := l.Pairwise (· < ·)
theorem incB_inc : ∀ {l : List Int}, incB l = true ↔ Inc l
  | [] => by simp [incB]
  | [a] => by simp [incB]
  | a :: b :: l => by
    rw [incB, Bool.and_eq_true, decide_eq_true_eq, incB_inc]
    unfold Inc
    rw [List.pairwise_cons (a := a)]
    constructor
    · rintro ⟨h1, h2⟩
      refine ⟨fun x hx => ?_, h2⟩
      rcases List.mem_cons.1 hx with rfl | hx
      · exact h1
      · have := (List.pairwise_cons.1 h2).1 x hx; omega
    · rintro ⟨h1, h2⟩
      exact ⟨h1 b (List.mem_cons_self ..), h2⟩
theorem inc_ext : ∀ {a b : List Int}, Inc a → Inc b → (∀ x, x ∈ a ↔ x ∈ b) → a = b := by
  intro a b ha hb h
  have hna : a.Nodup := ha.imp fun h e => by omega
  have hnb : b.Nodup := hb.imp fun h e => by omega
  exact List.Perm.eq_of_pairwise (le := fun a b : Int => a < b) (fun x y _ _ h1 h2 => by omega) ha hb ((List.perm_ext_iff_of_nodup hna hnb).2 h)
theorem mem_sortI {l : List Int} {x : Int} : x ∈ sortI l ↔ x ∈ l := (List.mergeSort_perm l leI).mem_iff
theorem inc_sortI {l : List Int} (h : l.Nodup) : Inc (sortI l) := by
  have tr : ∀ a b c : Int, leI a b = true → leI b c = true → leI a c = true := fun a b c h1 h2 => by simp only [leI, decide_eq_true_eq] at *; omega
  have to : ∀ a b : Int, (leI a b || leI b a) = true := fun a b => by simp only [leI, Bool.or_eq_true, decide_eq_true_eq]; omega
  have h1 := List.pairwise_mergeSort tr to l
  have h2 : (sortI l).Nodup := (List.mergeSort_perm l leI).nodup_iff.2 h
  exact (h1.and h2).imp fun ⟨h1, h2⟩ => by simp only [leI, decide_eq_true_eq] at h1; omega
theorem mem_listS {σ : SetS} {x : Int} : x ∈ listS σ ↔ x ∈ keysS σ := mem_sortI
theorem inc_listS {σ : SetS} (h : OkS σ) : Inc (listS σ) := inc_sortI h.keys
theorem inc_one (a : Int) : Inc [a] := List.pairwise_singleton _ _
theorem keys_nodup : ∀ (l : List Int), (keysS (ofS l)).Nodup := by
  have key : ∀ (l : List Int) (σ : SetS), (keysS σ).Nodup → (keysS (l.foldl (fun σ n => putS n σ) σ)).Nodup := by
    intro l
    induction l with
    | nil => intro σ h; exact h
    | cons x l ih =>
      intro σ h
      refine ih _ ?_
      show (keysS (putS x σ)).Nodup
      unfold putS
      split
      · exact h
      · rename_i hx
        show (List.map (fun x : Int × Nat => x.1) (σ.1 ++ [(x, σ.2)])).Nodup
        rw [List.map_append, List.nodup_append]
        refine ⟨h, by simp, fun a ha b hb e => hx ?_⟩
        simp only [List.map_cons, List.map_nil, List.mem_singleton] at hb
        rw [← hb, ← e]; exact ha
  exact fun l => key l _ List.nodup_nil
/-- The numbers of a list, increasing, each once. -/
def srtL (l : List Int) : List Int := listS (ofS l)
theorem mem_srt {l : List Int} {x : Int} : x ∈ srtL l ↔ x ∈ l := mem_listS.trans mem_of
theorem inc_srt (l : List Int) : Inc (srtL l) := inc_sortI (keys_nodup l)
theorem srt_inc {l : List Int} (h : Inc l) : srtL l = l := inc_ext (inc_srt l) h fun x => mem_srt
theorem mem_ins {n x : Int} {l : List Int} : x ∈ insL n l ↔ x = n ∨ x ∈ l := by
  unfold insL
  split
  · rename_i h
    rw [inB_iff] at h
    exact ⟨.inr, fun h' => h'.elim (fun e => e ▸ h) fun h => h⟩
  · have : x ∈ l ↔ x ∈ l.take (spl n l) ∨ x ∈ l.drop (spl n l) := by rw [← List.mem_append, List.take_append_drop]
    rw [this]
    simp only [List.mem_append, List.mem_singleton]
    constructor
    · rintro ((h | h) | h)
      · exact .inr (.inl h)
      · exact .inl h
      · exact .inr (.inr h)
    · rintro (h | h | h)
      · exact .inl (.inr h)
      · exact .inl (.inl h)
      · exact .inr h
theorem inc_ins {n : Int} : ∀ {l : List Int}, Inc l → Inc (insL n l) := by
  intro l h
  unfold insL
  split
  · exact h
  · rename_i hno
    have hno : n ∉ l := fun hn => hno (inB_iff.2 hn)
    have key : ∀ l : List Int, Inc l → n ∉ l → (∀ x ∈ l.take (spl n l), x < n) ∧ ∀ x ∈ l.drop (spl n l), n < x := by
      intro l
      induction l with
      | nil => intro _ _; simp
      | cons a l ih =>
        intro h hno
        have h' := List.pairwise_cons.1 h
        simp only [List.mem_cons, not_or] at hno
        unfold spl
        rw [List.takeWhile_cons]
        by_cases ha : a < n
        · simp only [ha, decide_true, if_true, List.length_cons, List.take_succ_cons, List.drop_succ_cons]
          obtain ⟨i1, i2⟩ := ih h'.2 hno.2
          unfold spl at i1 i2
          exact ⟨fun x hx => (List.mem_cons.1 hx).elim (fun e => e ▸ ha) (i1 x), i2⟩
        · simp only [ha, decide_false, Bool.false_eq_true, if_false, List.length_nil, List.take_zero, List.drop_zero]
          refine ⟨fun x hx => (by cases hx), fun x hx => ?_⟩
          rcases List.mem_cons.1 hx with rfl | hx
          · have := hno.1; omega
          · have := h'.1 x hx; have := hno.1; omega
    obtain ⟨k1, k2⟩ := key l h hno
    have hs : Inc (l.take (spl n l) ++ l.drop (spl n l)) := by rw [List.take_append_drop]; exact h
    unfold Inc at hs ⊢
    rw [List.pairwise_append] at hs
    rw [List.append_assoc, List.pairwise_append]
    refine ⟨hs.1, List.pairwise_cons.2 ⟨k2, hs.2.1⟩, fun a ha b hb => ?_⟩
    rcases List.mem_cons.1 hb with rfl | hb
    · exact k1 a ha
    · exact hs.2.2 a ha b hb
theorem ins_srt {n : Int} {l : List Int} : insL n (srtL l) = srtL (l ++ [n]) :=
  inc_ext (inc_ins (inc_srt l)) (inc_srt _) fun x => by rw [mem_ins, mem_srt, mem_srt]; simp [or_comm]
theorem ins_put {n : Int} {l : List Int} (h : Inc l) : insL n l = listS (putS n (ofS l)) := by
  have : putS n (ofS l) = ofS (l ++ [n]) := of_app.symm
  rw [this]
  show _ = srtL (l ++ [n])
  rw [← ins_srt, srt_inc h]
theorem srt_len (l : List Int) : (srtL l).length ≤ l.length := by
  have := len_of l
  simpa [srtL, listS, sortI, keysS] using this
theorem sub_congr {a b a' b' : List Int} (ha : ∀ x, x ∈ a ↔ x ∈ a') (hb : ∀ x, x ∈ b ↔ x ∈ b') : subB a b = subB a' b' := by
  rw [Bool.eq_iff_iff, subB_iff, subB_iff]
  exact ⟨fun h x hx => (hb x).1 (h x ((ha x).2 hx)), fun h x hx => (hb x).2 (h x ((ha x).1 hx))⟩
theorem sub_srt1 {a b : List Int} : subB (srtL a) b = subB a b := sub_congr (fun _ => mem_srt) fun _ => Iff.rfl
theorem sub_srt2 {a b : List Int} : subB a (srtL b) = subB a b := sub_congr (fun _ => Iff.rfl) fun _ => mem_srt
theorem eq_srt {a b : List Int} (h : Inc a) : decide (a = srtL b) = (subB b a && subB a b) := by
  rw [Bool.eq_iff_iff, decide_eq_true_eq, Bool.and_eq_true, subB_iff, subB_iff]
  constructor
  · rintro rfl
    exact ⟨fun x hx => mem_srt.2 hx, fun x hx => mem_srt.1 hx⟩
  · rintro ⟨h1, h2⟩
    exact inc_ext h (inc_srt b) fun x => ⟨fun hx => mem_srt.2 (h2 x hx), fun hx => h1 x (mem_srt.1 hx)⟩
/-- As many numbers as fit. -/
theorem pigeon : ∀ {n : Nat} {l : List Int}, l.Nodup → (∀ x ∈ l, 0 ≤ x ∧ x < n) → l.length ≤ n
  | 0, l, _, h => by
    cases l with
    | nil => simp
    | cons a l => have := h a (List.mem_cons_self ..); omega
  | n + 1, l, hnd, h => by
    have h1 := pigeon (n := n) (l := l.erase (n : Int)) (hnd.erase _) (fun x hx => by
      have hm := (List.Nodup.mem_erase_iff hnd).1 hx
      have := h x hm.2
      have := hm.1
      omega)
    have h2 := List.length_erase (a := (n : Int)) (l := l)
    split at h2 <;> omega
set_option maxRecDepth 100000 in
set_option linter.unusedVariables false in
set_option maxHeartbeats 4000000 in
theorem wavep_c (r : Rol) (n : Int) (hr : ShortR r) : PCalls Try.prog 28 [rolD r, iD n] (.d (iD (waveI n r.wv))) := by
  refine pcalls_of0 (fn := Try.f28) (by kernel_rfl) Try.func28 rfl (Nat.le_of_ble_eq_true rfl) fun c hc hp => ?_
  refine awp_less (τ' := frL [(0, .d (rolD r)), (1, .d (iD n))]) (less_cons (less_cons (less_nil _) rfl) rfl) ?_
  have h1 := hr.wl
  have h2 := hr.ws
  refine awp_seq_s KT_ok hc rfl fun K1 hK1 => ?_
  simp -dsimp -implicitDefEqProofs (disch := first | assumption | omega | (simp [maxLen, avs_len] <;> omega) | decide) only [sT_assign, sT_box, deadH, sT_nil, oK_some, q_o, layF, ↓reduceIte, q_b, q_f, q_s, q_l, as_dagg, D.one, Value.oneCell', iD, intsD, intssD, deadH, rolD, rolC]
  refine hK1 _ _ ?_
  refine awp_seq_k fun K2 hK2 => ?_
  refine awp_seq_s KT_ok hc rfl fun K3 hK3 => ?_
  simp -dsimp -implicitDefEqProofs (disch := first | assumption | omega | (simp [maxLen, avs_len] <;> omega) | decide) only [sT_assign, sT_nil, q_f]
  refine hK3 _ _ ?_
  refine awp_block ?_
  refine awp_loop_rt hp (fun τ' H' mm => ∃ k, (k ≤ r.wv.length ∧ ∀ j, j < k → inB n (nth r.wv j) = false) ∧ mm = r.wv.length - k ∧ H' = [.cells (avs (rolC r))] ∧ τ' = frL [(1, .d (iD n)), (2, .op 0 0), (5, .d (iD k))]) (r.wv.length) ?_ ⟨0, ⟨Nat.zero_le _, fun j hj => absurd hj (by omega)⟩, rfl, rfl, rfl⟩ ?_
  · refine Rt.end (less_cons (less_cons (less_cons (less_nil _) rfl) rfl) rfl) ?_
    first | rfl | (simp only [intsD, boolsD, bytesD, intssD, bytessD, gcH, gcO, gcVs_avs, gcVs, gcV, gcV_d, fzH, fzO, fzVs_avs, fzVs, fzV, posN, avs_nil, avs_cons, List.map_cons, List.map_nil, List.getD_cons_zero, List.getD_cons_succ, ↓reduceIte, Nat.reduceEqDiff, Option.map_some, List.set_cons_zero, List.set_cons_succ, takeD_avs, takeD_all, Nat.mul_one, List.length_map, List.cons_append, List.nil_append, rolD, rolC]; first | done | rfl)
  rintro τ' H' mm ⟨k, ⟨hk, hf⟩, rfl, rfl, rfl⟩
  refine awp_seq_k fun K4 hK4 => ?_
  refine awp_seq_s KT_ok hc rfl fun K5 hK5 => ?_
  simp -dsimp -implicitDefEqProofs (disch := first | assumption | omega | (simp [maxLen, avs_len] <;> omega) | decide) only [sT_move, sT_load, sT_fa, sT_bin, sT_len, sT_nil, oK_some, q_o, loadF, fieldAddrF, binF_v, lenF, builtinF, v_lss, ↓reduceIte, q_b, ifp, q_f, q_s, q_l, q_n, Nat.reduceEqDiff, avs_nil, avs_cons, iD, intsD, intssD, rolC, fo_29_2, sz_26, ag_26, eo_26]
  refine hK5 _ _ ?_
  refine awp_cond rfl (fun ht => ?_) (fun ht => ?_)
  · have hlt : k < r.wv.length := by simp at ht; omega
    have hrl := row_len hlt
    refine awp_skip (hK4 _ _ ?_)
    refine awp_seq_k fun K6 hK6 => ?_
    refine awp_block ?_
    refine awp_seq_s KT_ok hc rfl fun K7 hK7 => ?_
    simp -dsimp -implicitDefEqProofs (disch := first | assumption | omega | (simp [maxLen, avs_len] <;> omega) | decide) only [sT_move, sT_load, sT_fa, sT_ia, sT_call0, oK_some, q_o, loadF, fieldAddrF, ixO, indexAddrF, ↓reduceIte, q_b, ifp, q_f, q_s, q_l, Int.toNat_natCast, q_n, Nat.reduceEqDiff, get_map, intsD, fo_29_2, sz_26, ag_26, eo_26, sz_27, ag_27]
    refine kc_by (in_c (nth r.wv k) n (by omega)) rfl ?_
    simp -dsimp -implicitDefEqProofs (disch := first | assumption | omega | (simp [maxLen, avs_len] <;> omega) | decide) only [sT_nil, q_f]
    refine hK7 _ _ ?_
    refine awp_cond rfl (fun ht => ?_) (fun ht => ?_)
    · have hx : waveI n r.wv = k := findI_at hlt hf ht
      refine awp_seq_s KT_ok hc rfl fun K8 hK8 => ?_
      simp -dsimp -implicitDefEqProofs (disch := first | assumption | omega | (simp [maxLen, avs_len] <;> omega) | decide) only [sT_move, sT_assign, sT_nil, ↓reduceIte, q_b, q_f, Nat.reduceEqDiff]
      refine hK8 _ _ ?_
      refine awp_ret ?_
      show closeA _ _ = _
      simp (disch := first | assumption | omega | (simp [maxLen, avs_len] <;> omega) | decide) only [closeA, retV, deep_d, Nat.zero_add, D.fix, frL_get, ↓reduceIte, Option.map_some, List.length_cons, List.length_nil, iD, hx]
    · have hf' : ∀ j, j < k + 1 → inB n (nth r.wv j) = false := fun j hj => by
        rcases Nat.lt_or_ge j k with h | h
        · exact hf j h
        · obtain rfl : j = k := by omega
          exact ht
      refine awp_skip (hK6 _ _ ?_)
      refine awp_s KT_ok hc rfl fun K9 hK9 => ?_
      simp -dsimp -implicitDefEqProofs (disch := first | assumption | omega | (simp [maxLen, avs_len] <;> omega) | decide) only [sT_move, sT_assign, sT_bin, sT_nil, oK_some, q_o, binF_v, v_add, ↓reduceIte, q_b, q_f, Nat.reduceEqDiff]
      refine hK9 _ _ ⟨_, _, _, ?_, ⟨k + 1, ⟨by omega, hf'⟩, rfl, rfl, rfl⟩, ?_⟩
      · first | omega | (simp only [List.length_cons]; omega) | (dsimp only; omega)
      · refine Rt.end (less_cons (less_cons (less_cons (less_nil _) rfl) rfl) rfl) ?_
        first | rfl | (simp only [intsD, boolsD, bytesD, intssD, bytessD, gcH, gcO, gcVs_avs, gcVs, gcV, gcV_d, fzH, fzO, fzVs_avs, fzVs, fzV, posN, avs_nil, avs_cons, List.map_cons, List.map_nil, List.getD_cons_zero, List.getD_cons_succ, ↓reduceIte, Nat.reduceEqDiff, Option.map_some, List.set_cons_zero, List.set_cons_succ, takeD_avs, takeD_all, Nat.mul_one, List.length_map, List.cons_append, List.nil_append, rolD, rolC]; first | done | rfl)
  · have hx : waveI n r.wv = -1 := findI_none fun j hj => hf j (by simp at ht; omega)
    refine awp_exit (hK2 _ _ ?_)
    refine awp_seq_s KT_ok hc rfl fun K10 hK10 => ?_
    simp -dsimp -implicitDefEqProofs (disch := first | assumption | omega | (simp [maxLen, avs_len] <;> omega) | decide) only [sT_assign, sT_nil, q_f]
    refine hK10 _ _ ?_
    refine awp_ret ?_
    show closeA _ _ = _
    simp (disch := first | assumption | omega | (simp [maxLen, avs_len] <;> omega) | decide) only [closeA, retV, deep_d, Nat.zero_add, D.fix, frL_get, ↓reduceIte, Option.map_some, List.length_cons, List.length_nil, iD, hx]
set_option maxRecDepth 100000 in
set_option linter.unusedVariables false in
set_option maxHeartbeats 4000000 in
theorem wavesp_c (w : List (List Int)) (h1 : w.length ≤ 10000) (h2 : sumL w ≤ 1000000) : PCalls Try.prog 39 [intssD w] (.d (.val (.bool (validW w)))) := by
  refine pcalls_of0 (fn := Try.f39) (by kernel_rfl) Try.func39 rfl (Nat.le_of_ble_eq_true rfl) fun c hc hp => ?_
  refine awp_less (τ' := frL [(0, .d (intssD w))]) (less_cons (less_nil _) rfl) ?_
  refine awp_seq_s KT_ok hc rfl fun K1 hK1 => ?_
  simp -dsimp -implicitDefEqProofs (disch := first | assumption | omega | (simp [maxLen, avs_len, List.length_take] <;> omega) | decide) only [sT_assign, sT_nil, q_f, intssD]
  refine hK1 _ _ ?_
  refine awp_seq_k fun K2 hK2 => ?_
  refine awp_seq_s KT_ok hc rfl fun K3 hK3 => ?_
  rcases (show w.length < 1 ∨ (1 ≤ w.length ∧ 64 < w.length) ∨ (1 ≤ w.length ∧ w.length ≤ 64) from by omega) with hw | hw | hw
  · have hx : validW w = false := by simp [validW, show ¬ 1 ≤ w.length by omega]
    simp -dsimp -implicitDefEqProofs (disch := first | assumption | omega | (simp [maxLen, avs_len, List.length_take] <;> omega) | decide) only [sT_move, sT_pick, sT_bin, sT_len, sT_nil, sT_g, oK_some, gK_f, q_o, binF_v, lenF, builtinF, v_lss, ↓reduceIte, q_b, guardA_some, guardV_f, q_f, q_s, q_l, Nat.reduceEqDiff, dec_t, nb_f, eo_26]
    refine hK3 _ _ ?_
    refine awp_cond rfl (fun ht => ?_) (fun ht => ?_)
    · refine awp_seq_s KT_ok hc rfl fun K4 hK4 => ?_
      simp -dsimp -implicitDefEqProofs (disch := first | assumption | omega | (simp [maxLen, avs_len, List.length_take] <;> omega) | decide) only [sT_assign, sT_nil, q_f]
      refine hK4 _ _ ?_
      refine awp_ret ?_
      show closeA _ _ = _
      simp (disch := first | assumption | omega | (simp [maxLen, avs_len, List.length_take] <;> omega) | decide) only [closeA, retV, deep_d, D.fix, frL_get, ↓reduceIte, Option.map_some, List.length_nil, hx]
    · cases ht
  · have hx : validW w = false := by simp [validW, show ¬ w.length ≤ 64 by omega]
    simp -dsimp -implicitDefEqProofs (disch := first | assumption | omega | (simp [maxLen, avs_len, List.length_take] <;> omega) | decide) only [sT_move, sT_pick, sT_bin, sT_len, sT_nil, sT_g, oK_some, gK_t, q_o, binF_v, lenF, builtinF, v_lss, v_gtr, ↓reduceIte, q_b, guardA_some, guardV_f, q_f, q_s, q_l, Nat.reduceEqDiff, dec_t, dec_f, nb_t, eo_26]
    refine hK3 _ _ ?_
    refine awp_cond rfl (fun ht => ?_) (fun ht => ?_)
    · refine awp_seq_s KT_ok hc rfl fun K5 hK5 => ?_
      simp -dsimp -implicitDefEqProofs (disch := first | assumption | omega | (simp [maxLen, avs_len, List.length_take] <;> omega) | decide) only [sT_assign, sT_nil, q_f]
      refine hK5 _ _ ?_
      refine awp_ret ?_
      show closeA _ _ = _
      simp (disch := first | assumption | omega | (simp [maxLen, avs_len, List.length_take] <;> omega) | decide) only [closeA, retV, deep_d, D.fix, frL_get, ↓reduceIte, Option.map_some, List.length_nil, hx]
    · cases ht
  · simp -dsimp -implicitDefEqProofs (disch := first | assumption | omega | (simp [maxLen, avs_len, List.length_take] <;> omega) | decide) only [sT_move, sT_pick, sT_bin, sT_len, sT_nil, sT_g, oK_some, gK_t, q_o, binF_v, lenF, builtinF, v_lss, v_gtr, ↓reduceIte, q_b, guardA_some, guardV_f, q_f, q_s, q_l, Nat.reduceEqDiff, dec_f, nb_t, eo_26]
    refine hK3 _ _ ?_
    refine awp_cond rfl (fun ht => ?_) (fun ht => ?_)
    · cases ht
    · refine awp_skip (hK2 _ _ ?_)
      refine awp_seq_s KT_ok hc rfl fun K6 hK6 => ?_
      simp -dsimp -implicitDefEqProofs (disch := first | assumption | omega | (simp [maxLen, avs_len, List.length_take] <;> omega) | decide) only [sT_assign, sT_bs, deadH, sT_nil, oK_some, q_o, layF, ↓reduceIte, q_b, ifp, q_f, q_s, q_l, List.replicate_zero, reps_def, q_a, q_n, deadH, mk_27]
      refine hK6 _ _ ?_
      refine awp_seq_k fun K7 hK7 => ?_
      refine awp_seq_s KT_ok hc rfl fun K8 hK8 => ?_
      simp -dsimp -implicitDefEqProofs (disch := first | assumption | omega | (simp [maxLen, avs_len, List.length_take] <;> omega) | decide) only [sT_assign, sT_nil, q_f]
      refine hK8 _ _ ?_
      refine awp_block ?_
      refine awp_loop_rt hp (fun τ' H' mm => ∃ k, (k ≤ w.length ∧ chipsB (w.take k).flatten = true ∧ ∀ i, i < k → nth w i ≠ []) ∧ mm = w.length - k ∧ H' = [.cells (avs ((w.take k).flatten.map iD))] ∧ τ' = frL [(0, .d (intssD w)), (3, .os 1 0 0 (w.take k).flatten.length), (4, .d (iD k))]) (w.length) ?_ ⟨0, ⟨Nat.zero_le _, rfl, fun j hj => absurd hj (by omega)⟩, rfl, rfl, rfl⟩ ?_
      · refine Rt.end (less_cons (less_cons (less_cons (less_nil _) rfl) rfl) rfl) ?_
        first | rfl | (simp only [intsD, boolsD, bytesD, intssD, bytessD, gcH, gcO, gcVs_avs, gcVs, gcV, gcV_d, fzH, fzO, fzVs_avs, fzVs, fzV, posN, avs_nil, avs_cons, List.map_cons, List.map_nil, List.getD_cons_zero, List.getD_cons_succ, ↓reduceIte, Nat.reduceEqDiff, Option.map_some, List.set_cons_zero, List.set_cons_succ, takeD_avs, takeD_all, Nat.mul_one, List.length_map, List.cons_append, List.nil_append]; first | done | rfl)
      rintro τ' H' mm ⟨k, ⟨hk, hch, hf⟩, rfl, rfl, rfl⟩
      refine awp_seq_k fun K9 hK9 => ?_
      refine awp_seq_s KT_ok hc rfl fun K10 hK10 => ?_
      simp -dsimp -implicitDefEqProofs (disch := first | assumption | omega | (simp [maxLen, avs_len, List.length_take] <;> omega) | decide) only [sT_move, sT_bin, sT_len, sT_nil, oK_some, q_o, binF_v, lenF, builtinF, v_lss, ↓reduceIte, q_b, q_f, q_s, Nat.reduceEqDiff, iD, intssD, eo_26]
      refine hK10 _ _ ?_
      refine awp_cond rfl (fun ht => ?_) (fun ht => ?_)
      · have hlt : k < w.length := by simp at ht; omega
        have hrl := row_len hlt
        have hbig : 64 < (nth w k).length → validW w = false := fun h => chips_bad (m := (nth w k).length) hlt (by
          rw [List.take_length]
          cases hb : chipsB ((w.take k).flatten ++ nth w k) with
          | false => rfl
          | true =>
            have hc := chips_iff.1 hb
            have := pigeon (n := 64) (l := nth w k) (List.nodup_append.1 hc.2).2.1 (fun x hx => by have := hc.1 x (List.mem_append_right _ hx); omega)
            omega)
        refine awp_skip (hK9 _ _ ?_)
        refine awp_seq_k fun K11 hK11 => ?_
        refine awp_block ?_
        refine awp_seq_k fun K12 hK12 => ?_
        refine awp_seq_s KT_ok hc rfl fun K13 hK13 => ?_
        rcases (show (nth w k).length < 1 ∨ (1 ≤ (nth w k).length ∧ 64 < (nth w k).length) ∨ (1 ≤ (nth w k).length ∧ (nth w k).length ≤ 64) from by omega) with hl | hl | hl
        · have hx : validW w = false := empty_bad hlt (List.eq_nil_of_length_eq_zero (by omega))
          simp -dsimp -implicitDefEqProofs (disch := first | assumption | omega | (simp [maxLen, avs_len, List.length_take] <;> omega) | decide) only [sT_move, sT_pick, sT_load, sT_ia, sT_bin, sT_len, sT_nil, sT_g, oK_some, gK_f, q_o, loadF, ixO, indexAddrF, binF_v, lenF, builtinF, v_lss, ↓reduceIte, q_b, ifp, guardA_some, guardV_f, q_f, q_s, q_l, Int.toNat_natCast, q_n, Nat.reduceEqDiff, get_map, intsD, dec_t, nb_f, eo_26, sz_27, ag_27, eo_27]
          refine hK13 _ _ ?_
          refine awp_cond rfl (fun ht => ?_) (fun ht => ?_)
          · refine awp_seq_s KT_ok hc rfl fun K14 hK14 => ?_
            simp -dsimp -implicitDefEqProofs (disch := first | assumption | omega | (simp [maxLen, avs_len, List.length_take] <;> omega) | decide) only [sT_assign, sT_nil, q_f]
            refine hK14 _ _ ?_
            refine awp_ret ?_
            show closeA _ _ = _
            simp (disch := first | assumption | omega | (simp [maxLen, avs_len, List.length_take] <;> omega) | decide) only [closeA, retV, deep_d, Nat.zero_add, D.fix, frL_get, ↓reduceIte, Option.map_some, List.length_cons, List.length_nil, hx]
          · cases ht
        · have hx : validW w = false := hbig hl.2
          simp -dsimp -implicitDefEqProofs (disch := first | assumption | omega | (simp [maxLen, avs_len, List.length_take] <;> omega) | decide) only [sT_move, sT_pick, sT_load, sT_ia, sT_bin, sT_len, sT_nil, sT_g, oK_some, gK_t, q_o, loadF, ixO, indexAddrF, binF_v, lenF, builtinF, v_lss, v_gtr, ↓reduceIte, q_b, ifp, guardA_some, guardV_f, q_f, q_s, q_l, Int.toNat_natCast, q_n, Nat.reduceEqDiff, get_map, intsD, dec_t, dec_f, nb_t, eo_26, sz_27, ag_27, eo_27]
          refine hK13 _ _ ?_
          refine awp_cond rfl (fun ht => ?_) (fun ht => ?_)
          · refine awp_seq_s KT_ok hc rfl fun K15 hK15 => ?_
            simp -dsimp -implicitDefEqProofs (disch := first | assumption | omega | (simp [maxLen, avs_len, List.length_take] <;> omega) | decide) only [sT_assign, sT_nil, q_f]
            refine hK15 _ _ ?_
            refine awp_ret ?_
            show closeA _ _ = _
            simp (disch := first | assumption | omega | (simp [maxLen, avs_len, List.length_take] <;> omega) | decide) only [closeA, retV, deep_d, Nat.zero_add, D.fix, frL_get, ↓reduceIte, Option.map_some, List.length_cons, List.length_nil, hx]
          · cases ht
        · simp -dsimp -implicitDefEqProofs (disch := first | assumption | omega | (simp [maxLen, avs_len, List.length_take] <;> omega) | decide) only [sT_move, sT_pick, sT_load, sT_ia, sT_bin, sT_len, sT_nil, sT_g, oK_some, gK_t, q_o, loadF, ixO, indexAddrF, binF_v, lenF, builtinF, v_lss, v_gtr, ↓reduceIte, q_b, ifp, guardA_some, guardV_f, q_f, q_s, q_l, Int.toNat_natCast, q_n, Nat.reduceEqDiff, get_map, intsD, dec_t, dec_f, nb_t, eo_26, sz_27, ag_27, eo_27]
          refine hK13 _ _ ?_
          refine awp_cond rfl (fun ht => ?_) (fun ht => ?_)
          · cases ht
          · refine awp_skip (hK12 _ _ ?_)
            refine awp_seq_s KT_ok hc rfl fun K16 hK16 => ?_
            simp -dsimp -implicitDefEqProofs (disch := first | assumption | omega | (simp [maxLen, avs_len, List.length_take] <;> omega) | decide) only [sT_assign, sT_nil, q_f]
            refine hK16 _ _ ?_
            refine awp_block ?_
            refine awp_loop_rt hp (fun τ' H' mm => ∃ m, (m ≤ (nth w k).length ∧ chipsB ((w.take k).flatten ++ (nth w k).take m) = true) ∧ mm = (nth w k).length - m ∧ H' = [.cells (avs (((w.take k).flatten ++ (nth w k).take m).map iD))] ∧ τ' = frL [(0, .d (intssD w)), (3, .os 1 0 0 ((w.take k).flatten.length + m)), (4, .d (iD k)), (5, .d (iD m))]) ((nth w k).length) ?_ ⟨0, ⟨Nat.zero_le _, by simpa using hch⟩, rfl, rfl, rfl⟩ ?_
            · refine Rt.end (less_cons (less_cons (less_cons (less_cons (less_nil _) rfl) rfl) rfl) rfl) ?_
              simp
            rintro τ' H' mm ⟨m, ⟨hm, hcm⟩, rfl, rfl, rfl⟩
            refine awp_seq_k fun K17 hK17 => ?_
            refine awp_seq_s KT_ok hc rfl fun K18 hK18 => ?_
            simp -dsimp -implicitDefEqProofs (disch := first | assumption | omega | (simp [maxLen, avs_len, List.length_take] <;> omega) | decide) only [sT_move, sT_load, sT_ia, sT_bin, sT_len, sT_nil, oK_some, q_o, loadF, ixO, indexAddrF, binF_v, lenF, builtinF, v_lss, ↓reduceIte, q_b, ifp, q_f, q_s, Int.toNat_natCast, q_n, Nat.reduceEqDiff, get_map, iD, intsD, intssD, eo_26, sz_27, ag_27, eo_27]
            refine hK18 _ _ ?_
            refine awp_cond rfl (fun ht => ?_) (fun ht => ?_)
            · have hlm : m < (nth w k).length := by simp at ht; omega
              have hs1 := sum_take w k
              unfold sumL at hs1 h2 hrl
              have hpl : ((w.take k).flatten ++ (nth w k).take m).length ≤ 900000 := by
                have hc := chips_iff.1 hcm
                have := pigeon (n := 64) hc.2 hc.1
                omega
              have hpe : (w.take k).flatten.length + m = ((w.take k).flatten ++ (nth w k).take m).length := by rw [List.length_append, List.length_take]; omega
              have hnx : (w.take k).flatten ++ (nth w k).take (m + 1) = ((w.take k).flatten ++ (nth w k).take m) ++ [nth (nth w k) m] := by
                rw [take_nth hlm, List.append_assoc]
              have hno : ¬ (0 ≤ nth (nth w k) m ∧ nth (nth w k) m < 64) → validW w = false := fun h => chips_bad (m := m + 1) hlt (by
                rw [hnx]
                cases hb : chipsB (((w.take k).flatten ++ (nth w k).take m) ++ [nth (nth w k) m]) with
                | false => rfl
                | true => exact absurd ((chips_iff.1 hb).1 _ (by simp)) h)
              refine awp_skip (hK17 _ _ ?_)
              refine awp_seq_k fun K19 hK19 => ?_
              refine awp_block ?_
              refine awp_seq_k fun K20 hK20 => ?_
              refine awp_seq_s KT_ok hc rfl fun K21 hK21 => ?_
              rcases (show nth (nth w k) m < 0 ∨ (0 ≤ nth (nth w k) m ∧ 64 ≤ nth (nth w k) m) ∨ ((0 ≤ nth (nth w k) m ∧ nth (nth w k) m < 64) ∧ inB (nth (nth w k) m) ((w.take k).flatten ++ (nth w k).take m) = true) ∨ ((0 ≤ nth (nth w k) m ∧ nth (nth w k) m < 64) ∧ inB (nth (nth w k) m) ((w.take k).flatten ++ (nth w k).take m) = false) from by by_cases h1 : nth (nth w k) m < 0 <;> by_cases h2 : 64 ≤ nth (nth w k) m <;> cases inB (nth (nth w k) m) ((w.take k).flatten ++ (nth w k).take m) <;> simp [h1, h2] <;> omega) with hv | hv | ⟨hv, hq⟩ | ⟨hv, hq⟩
              · have hx : validW w = false := hno (by omega)
                simp -dsimp -implicitDefEqProofs (disch := first | assumption | omega | (simp [maxLen, avs_len, List.length_take] <;> omega) | decide) only [sT_move, sT_pick, sT_load, sT_ia, sT_bin, sT_nil, sT_g, oK_some, gK_f, q_o, loadF, ixO, indexAddrF, binF_v, v_lss, ↓reduceIte, q_b, ifp, guardA_some, guardV_f, q_f, q_l, Int.toNat_natCast, q_n, Nat.reduceEqDiff, get_map, iD, intsD, dec_t, nb_f, eo_26, sz_27, ag_27, eo_27, sz_3, ag_3]
                skip
                refine hK21 _ _ ?_
                refine awp_cond rfl (fun ht => ?_) (fun ht => ?_)
                · refine awp_seq_s KT_ok hc rfl fun K22 hK22 => ?_
                  simp -dsimp -implicitDefEqProofs (disch := first | assumption | omega | (simp [maxLen, avs_len, List.length_take] <;> omega) | decide) only [sT_assign, sT_nil, q_f]
                  refine hK22 _ _ ?_
                  refine awp_ret ?_
                  show closeA _ _ = _
                  simp (disch := first | assumption | omega | (simp [maxLen, avs_len, List.length_take] <;> omega) | decide) only [closeA, retV, deep_d, Nat.zero_add, D.fix, frL_get, ↓reduceIte, Option.map_some, List.length_cons, List.length_nil, hx]
                · cases ht
              · have hx : validW w = false := hno (by omega)
                simp -dsimp -implicitDefEqProofs (disch := first | assumption | omega | (simp [maxLen, avs_len, List.length_take] <;> omega) | decide) only [sT_move, sT_pick, sT_load, sT_ia, sT_bin, sT_nil, sT_g, oK_some, gK_t, gK_f, q_o, loadF, ixO, indexAddrF, binF_v, v_lss, v_geq, ↓reduceIte, q_b, ifp, guardA_some, guardV_f, q_f, q_l, Int.toNat_natCast, q_n, Nat.reduceEqDiff, get_map, iD, intsD, dec_t, dec_f, nb_t, nb_f, eo_26, sz_27, ag_27, eo_27, sz_3, ag_3]
                skip
                refine hK21 _ _ ?_
                refine awp_cond rfl (fun ht => ?_) (fun ht => ?_)
                · refine awp_seq_s KT_ok hc rfl fun K23 hK23 => ?_
                  simp -dsimp -implicitDefEqProofs (disch := first | assumption | omega | (simp [maxLen, avs_len, List.length_take] <;> omega) | decide) only [sT_assign, sT_nil, q_f]
                  refine hK23 _ _ ?_
                  refine awp_ret ?_
                  show closeA _ _ = _
                  simp (disch := first | assumption | omega | (simp [maxLen, avs_len, List.length_take] <;> omega) | decide) only [closeA, retV, deep_d, Nat.zero_add, D.fix, frL_get, ↓reduceIte, Option.map_some, List.length_cons, List.length_nil, hx]
                · cases ht
              · have hx : validW w = false := chips_bad (m := m + 1) hlt (by
                  rw [hnx]
                  cases hb : chipsB (((w.take k).flatten ++ (nth w k).take m) ++ [nth (nth w k) m]) with
                  | false => rfl
                  | true =>
                    have := (List.nodup_append.1 (chips_iff.1 hb).2).2.2 _ (inB_iff.1 hq) _ (List.mem_singleton.2 rfl)
                    exact absurd rfl this)
                simp -dsimp -implicitDefEqProofs (disch := first | assumption | omega | (simp only [maxLen, List.length_replicate, eq_self, true_and, and_true, and_self, avs_len, List.length_map, List.length_append, List.length_cons, List.length_nil, List.length_set, List.length_range, List.length_take, List.length_drop, List.length_take] <;> omega) | decide | fail) only [sT_move, sT_pick, sT_load, sT_ia, sT_bin, sT_call0, sT_g, oK_some, gK_t, Option.map_some, Option.bind_some, loadF, ixO, indexAddrF, binF_v, v_lss, v_geq, ↓reduceIte, Bool.false_eq_true, eq_self, ifp, guardA_some, guardV_f, frL_get, frL_put, evalA_tmp, evalA_const, evalA_func, List.map_cons, List.map_nil, List.length_cons, List.length_nil, List.getElem?_cons_zero, List.getElem?_cons_succ, Int.toNat_natCast, Nat.mul_one, Nat.zero_add, Nat.reduceEqDiff, get_map, iD, intsD, dec_t, dec_f, nb_t, eo_26, sz_27, ag_27, eo_27, sz_3, ag_3]
                refine kc_own (in_c ((w.take k).flatten ++ (nth w k).take m) (nth (nth w k) m) (by omega)) ?_ ?_
                · simp (disch := first | assumption | omega | (simp only [maxLen, List.length_replicate, eq_self, true_and, and_true, and_self, avs_len, List.length_map, List.length_append, List.length_cons, List.length_nil, List.length_set, List.length_range, List.length_take, List.length_drop, List.length_take] <;> omega) | decide | fail) only [deep_d, deepL_avs, deepL_nil, deepL_cons, lookH_eq, cellsOf_c, deep_os, Nat.reduceAdd, takeD_all, fixm_i, D.fix, Option.map_some, Option.bind_some, Nat.mul_one, List.getElem?_cons_zero, iD, intsD, hpe]
                simp -dsimp -implicitDefEqProofs (disch := first | assumption | omega | (simp [maxLen, avs_len, List.length_take] <;> omega) | decide) only [sT_pick, sT_nil, oK_some, ↓reduceIte, q_b, q_f, Nat.reduceEqDiff]
                skip
                refine hK21 _ _ ?_
                refine awp_cond rfl (fun ht => ?_) (fun ht => ?_)
                · refine awp_seq_s KT_ok hc rfl fun K24 hK24 => ?_
                  simp -dsimp -implicitDefEqProofs (disch := first | assumption | omega | (simp [maxLen, avs_len, List.length_take] <;> omega) | decide) only [sT_assign, sT_nil, q_f]
                  refine hK24 _ _ ?_
                  refine awp_ret ?_
                  show closeA _ _ = _
                  simp (disch := first | assumption | omega | (simp [maxLen, avs_len, List.length_take] <;> omega) | decide) only [closeA, retV, deep_d, Nat.zero_add, D.fix, frL_get, ↓reduceIte, Option.map_some, List.length_cons, List.length_nil, hx]
                · rw [hq] at ht
                  cases ht
              · simp -dsimp -implicitDefEqProofs (disch := first | assumption | omega | (simp only [maxLen, List.length_replicate, eq_self, true_and, and_true, and_self, avs_len, List.length_map, List.length_append, List.length_cons, List.length_nil, List.length_set, List.length_range, List.length_take, List.length_drop, List.length_take] <;> omega) | decide | fail) only [sT_move, sT_pick, sT_load, sT_ia, sT_bin, sT_call0, sT_g, oK_some, gK_t, Option.map_some, Option.bind_some, loadF, ixO, indexAddrF, binF_v, v_lss, v_geq, ↓reduceIte, Bool.false_eq_true, eq_self, ifp, guardA_some, guardV_f, frL_get, frL_put, evalA_tmp, evalA_const, evalA_func, List.map_cons, List.map_nil, List.length_cons, List.length_nil, List.getElem?_cons_zero, List.getElem?_cons_succ, Int.toNat_natCast, Nat.mul_one, Nat.zero_add, Nat.reduceEqDiff, get_map, iD, intsD, dec_t, dec_f, nb_t, eo_26, sz_27, ag_27, eo_27, sz_3, ag_3]
                refine kc_own (in_c ((w.take k).flatten ++ (nth w k).take m) (nth (nth w k) m) (by omega)) ?_ ?_
                · simp (disch := first | assumption | omega | (simp only [maxLen, List.length_replicate, eq_self, true_and, and_true, and_self, avs_len, List.length_map, List.length_append, List.length_cons, List.length_nil, List.length_set, List.length_range, List.length_take, List.length_drop, List.length_take] <;> omega) | decide | fail) only [deep_d, deepL_avs, deepL_nil, deepL_cons, lookH_eq, cellsOf_c, deep_os, Nat.reduceAdd, takeD_all, fixm_i, D.fix, Option.map_some, Option.bind_some, Nat.mul_one, List.getElem?_cons_zero, iD, intsD, hpe]
                simp -dsimp -implicitDefEqProofs (disch := first | assumption | omega | (simp [maxLen, avs_len, List.length_take] <;> omega) | decide) only [sT_pick, sT_nil, oK_some, ↓reduceIte, q_b, q_f, Nat.reduceEqDiff]
                skip
                refine hK21 _ _ ?_
                refine awp_cond rfl (fun ht => ?_) (fun ht => ?_)
                · rw [hq] at ht
                  cases ht
                · refine awp_skip (hK20 _ _ ?_)
                  refine awp_s KT_ok hc rfl fun K25 hK25 => ?_
                  simp -dsimp -implicitDefEqProofs (disch := first | assumption | omega | (simp only [maxLen, List.length_replicate, eq_self, true_and, and_true, and_self, avs_len, List.length_map, List.length_append, List.length_cons, List.length_nil, List.length_set, List.length_range, List.length_take, List.length_drop, List.length_take] <;> omega) | decide | fail) only [sT_move, sT_assign, sT_load, sT_ia, sT_bs, sT_app, deadH, sT_nil, oK_some, Option.map_some, loadF, ixO, indexAddrF, layF, srcF, ↓reduceIte, Bool.false_eq_true, eq_self, ifp, ifn, frL_get, frL_put, evalA_tmp, List.map_cons, List.map_nil, List.length_cons, List.length_nil, List.getElem?_cons_zero, List.getElem?_cons_succ, List.cons_append, List.nil_append, List.append_nil, List.set_cons_zero, List.replicate_zero, List.replicate_succ, reps_def, fill_nil, fill_cons, as_int, many_nil, many_cons, true_and, Int.toNat_natCast, Nat.mul_one, Nat.zero_add, Nat.reduceEqDiff, avs_len, avs_app1, takeD_all, List.drop_zero, get_map, iD, intsD, Nat.reduceAdd, List.nil_append, deadH, List.length_map, eo_26, sz_27, ag_27, eo_27, sz_3, ag_3, mk_27]
                  refine hK25 _ _ (hK19 _ _ ?_)
                  refine awp_s KT_ok hc rfl fun K26 hK26 => ?_
                  simp -dsimp -implicitDefEqProofs (disch := first | assumption | omega | (simp [maxLen, avs_len, List.length_take] <;> omega) | decide) only [sT_move, sT_assign, sT_bin, sT_nil, oK_some, q_o, binF_v, v_add, ↓reduceIte, q_b, q_f, Nat.reduceEqDiff]
                  refine hK26 _ _ ⟨_, _, _, ?_, ⟨m + 1, ⟨by omega, by rw [hnx, chips_iff]; refine ⟨fun x hx => ?_, List.nodup_append.2 ⟨(chips_iff.1 hcm).2, by simp, fun a ha b hb e => by rw [List.mem_singleton] at hb; rw [hb] at e; have := inB_iff.2 ha; rw [e, hq] at this; cases this⟩⟩; rcases List.mem_append.1 hx with hx | hx; exact (chips_iff.1 hcm).1 x hx; rw [List.mem_singleton] at hx; subst hx; omega⟩, rfl, rfl, rfl⟩, ?_⟩
                  · first | omega | (simp only [List.length_cons]; omega) | (dsimp only; omega)
                  · refine Rt.trans (Rt.gc (keep := [2]) (by decide) (by simp [])) ?_
                    refine Rt.end (less_cons (less_cons (less_cons (less_cons (less_nil _) rfl) rfl) rfl) rfl) ?_
                    simp only [gcH, gcO, gcVs_avs, List.map_cons, List.map_nil, List.getD_cons_zero, List.getD_cons_succ, hnx, List.map_append]; rfl
            · have hmm : m = (nth w k).length := by simp at ht; omega
              subst hmm
              rw [List.take_length] at hcm ⊢
              rw [← flat_step hlt] at hcm ⊢
              have hs := sum_step hlt
              unfold sumL at hs
              refine awp_exit (hK11 _ _ ?_)
              refine awp_s KT_ok hc rfl fun K27 hK27 => ?_
              simp -dsimp -implicitDefEqProofs (disch := first | assumption | omega | (simp [maxLen, avs_len, List.length_take] <;> omega) | decide) only [sT_move, sT_assign, sT_bin, sT_nil, oK_some, q_o, binF_v, v_add, ↓reduceIte, q_b, q_f, Nat.reduceEqDiff]
              refine hK27 _ _ ⟨_, _, _, ?_, ⟨k + 1, ⟨by omega, hcm, fun i hi e => by rcases Nat.lt_or_ge i k with h | h; exact hf i h e; (obtain rfl : i = k := (by omega)); (rw [e] at hl; simp at hl)⟩, rfl, rfl, rfl⟩, ?_⟩
              · first | omega | (simp only [List.length_cons]; omega) | (dsimp only; omega)
              · refine Rt.end (less_cons (less_cons (less_cons (less_nil _) rfl) (by first | rfl | (simp [frL]; done) | simp [frL, *])) rfl) ?_
                first | rfl | (simp only [intsD, boolsD, bytesD, intssD, bytessD, gcH, gcO, gcVs_avs, gcVs, gcV, gcV_d, fzH, fzO, fzVs_avs, fzVs, fzV, posN, avs_nil, avs_cons, List.map_cons, List.map_nil, List.getD_cons_zero, List.getD_cons_succ, ↓reduceIte, Nat.reduceEqDiff, Option.map_some, List.set_cons_zero, List.set_cons_succ, takeD_avs, takeD_all, Nat.mul_one, List.length_map, List.cons_append, List.nil_append]; first | done | rfl)
      · have hkk : k = w.length := by simp at ht; omega
        subst hkk
        rw [List.take_length] at hch
        have hx : validW w = true := by rw [chips_full hch hf]; simp; omega
        refine awp_exit (hK7 _ _ ?_)
        refine awp_seq_s KT_ok hc rfl fun K28 hK28 => ?_
        simp -dsimp -implicitDefEqProofs (disch := first | assumption | omega | (simp [maxLen, avs_len, List.length_take] <;> omega) | decide) only [sT_assign, sT_nil, q_f]
        refine hK28 _ _ ?_
        refine awp_ret ?_
        show closeA _ _ = _
        simp (disch := first | assumption | omega | (simp [maxLen, avs_len, List.length_take] <;> omega) | decide) only [closeA, retV, deep_d, Nat.zero_add, D.fix, frL_get, ↓reduceIte, Option.map_some, List.length_cons, List.length_nil, hx]
end Go.Proofs.Ytinefghmmbggeaa
