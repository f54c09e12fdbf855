/- The order of the numbers. -/
import Derived.Test.YtgfnpfchdlcoeaaQ
import Derived.Test.YtgfnpfchdlcoeaaEe
set_option linter.unusedVariables false
set_option linter.unusedSimpArgs false
namespace Go.Proofs.Ytgfnpfchdlcoeaa
open Go Go.RowKit
theorem wlk_c (V : Nat) (us : List T) (rs : List Nat) (hr : RowOk V us) (hul : us.length ≤ 3000) : ∀ (m : Nat) (f : T), f.sz ≤ m → WlkC us rs f
  | 0, f, h => by cases f <;> simp [T.sz] at h
  | m + 1, f, h => fun acc ni nx h1 h2 hf hp => walk_s V us rs hr hul f (fun s hs => wlk_c V us rs hr hul m s (by omega)) acc ni nx h1 h2 hf hp
/-- The gates complemented twice. -/
def notG (k : Int) : Gate := ⟨1, k, 0, 0, 0⟩
def twiL (c : Nat) : List Int → List Gate
  | [] => []
  | d :: r => notG d :: notG c :: twiL (c + 2) r
theorem twi_len : ∀ (l : List Int) (c : Nat), (twiL c l).length = 2 * l.length
  | [], _ => rfl
  | d :: r, c => by simp [twiL, twi_len r]; omega
theorem twi_app : ∀ (l : List Int) (c : Nat) (d : Int), twiL c (l ++ [d]) = twiL c l ++ [notG d, notG (c + 2 * l.length : Nat)]
  | [], c, d => rfl
  | e :: r, c, d => by
    simp only [List.cons_append, twiL, twi_app r, List.length_cons]
    rw [show c + 2 + 2 * r.length = c + 2 * (r.length + 1) by omega]
theorem twi_0 : ∀ {l : List Int} {c i : Nat}, i < l.length → nth (twiL c l) (2 * i) = notG (nth l i)
  | d :: r, c, 0, _ => rfl
  | d :: r, c, i + 1, h => by
    show nth (notG d :: notG c :: twiL (c + 2) r) (2 * (i + 1)) = _
    have := twi_0 (l := r) (c := c + 2) (i := i) (by simp at h; omega)
    rw [show 2 * (i + 1) = 2 * i + 1 + 1 by omega]
    exact this
theorem twi_1 : ∀ {l : List Int} {c i : Nat}, i < l.length → nth (twiL c l) (2 * i + 1) = notG (c + 2 * i : Nat)
  | d :: r, c, 0, _ => rfl
  | d :: r, c, i + 1, h => by
    have := twi_1 (l := r) (c := c + 2) (i := i) (by simp at h; omega)
    rw [show 2 * (i + 1) + 1 = (2 * i + 1) + 1 + 1 by omega]
    rw [show c + 2 * (i + 1) = c + 2 + 2 * i by omega]
    exact this
/-- The net with all driven nodes complemented twice; the nodes. -/
def twN (n : Net) : Net := { n with gates := n.gates ++ twiL (2 + n.ins.length + n.gates.length) n.drive }
def twD (n : Net) : List Int := (List.range n.drive.length).map fun i => ((2 + n.ins.length + n.gates.length + 2 * i + 1 : Nat) : Int)
theorem twN_len (n : Net) : (twN n).gates.length = n.gates.length + 2 * n.drive.length := by simp [twN, twi_len]
theorem twD_len (n : Net) : (twD n).length = n.drive.length := by simp [twD]
theorem not_ok {m : Nat} {d : Int} (h0 : 0 ≤ d) (h1 : d < m) : GateOk m (notG d) := ⟨by simp [notG], by simp [notG], h0, h1, by simp [notG], by show (0 : Int) < m; omega, by simp [notG], by show (0 : Int) < m; omega, by simp [notG], by simp [notG]⟩
theorem twN_ok {n : Net} (hg : GatesOk (2 + n.ins.length) n.gates) (hd : DriveOk (2 + n.ins.length + n.gates.length) n.drive) : GatesOk (2 + n.ins.length) (twN n).gates := fun k hk => by
  rw [twN_len] at hk
  show GateOk _ (nth (n.gates ++ twiL (2 + n.ins.length + n.gates.length) n.drive) k)
  by_cases h : k < n.gates.length
  · rw [nth_append_left h]; exact hg k h
  · obtain ⟨j, rfl⟩ : ∃ j, k = n.gates.length + j := ⟨k - n.gates.length, by omega⟩
    have e : nth (n.gates ++ twiL (2 + n.ins.length + n.gates.length) n.drive) (n.gates.length + j) = nth (twiL (2 + n.ins.length + n.gates.length) n.drive) j := by
      rw [nth_eq (by simp [twi_len]; omega), nth_eq (by rw [twi_len]; omega)]
      simp
    rw [e]
    rcases Nat.mod_two_eq_zero_or_one j with h2 | h2
    · obtain ⟨i, rfl⟩ : ∃ i, j = 2 * i := ⟨j / 2, by omega⟩
      rw [twi_0 (by omega)]
      obtain ⟨d0, d1⟩ := hd i (by omega)
      exact not_ok d0 (by omega)
    · obtain ⟨i, rfl⟩ : ∃ i, j = 2 * i + 1 := ⟨j / 2, by omega⟩
      rw [twi_1 (by omega)]
      exact not_ok (by omega) (by omega)
theorem twD_no (n : Net) : (twD n).any (unkB (2 + (twN n).ins.length + (twN n).gates.length)) = false := by
  rw [List.any_eq_false]
  intro x hx
  obtain ⟨k, hk, rfl⟩ := List.mem_map.1 hx
  have := List.mem_range.1 hk
  rw [twN_len]
  show ¬ unkB (2 + (n.ins.length : Int) + ((n.gates.length + 2 * n.drive.length : Nat) : Int)) _ = true
  simp [unkB]; omega
theorem drive_no {n : Net} (hd : DriveOk (2 + n.ins.length + n.gates.length) n.drive) : n.drive.any (unkB (2 + n.ins.length + n.gates.length)) = false := by
  rw [List.any_eq_false]
  intro x hx
  obtain ⟨k, hk, rfl⟩ := List.getElem_of_mem hx
  obtain ⟨d0, d1⟩ := hd k hk
  rw [nth_eq hk] at d0 d1
  simp [unkB]; omega
/-- The same functions of the first nodes. -/
theorem same_fs {V ins : Nat} {sh : Sh} {g1 g2 : List Gate} {f1 f2 : List T} (h1 : FsP V ins sh g1 g1.length f1) (h2 : FsP V ins sh g2 g2.length f2) (hp : g1 <+: g2) (hg : GatesOk (2 + ins) g1) : ∀ k, k < 2 + ins + g1.length → nth f2 k = nth f1 k := by
  intro k
  induction k using Nat.strongRecOn with
  | ind k ih =>
    intro hk
    by_cases h0 : k = 0
    · subst h0; rw [h1.f0, h2.f0]
    by_cases hk1 : k = 1
    · subst hk1; rw [h1.f1, h2.f1]
    by_cases hv : k < 2 + ins
    · have a := h1.fv (k - 2) (by omega)
      have b := h2.fv (k - 2) (by omega)
      rw [show 2 + (k - 2) = k by omega] at a b
      rw [a, b]
    · have hpl := hp.length_le
      obtain ⟨q, rfl⟩ : ∃ q, k = 2 + ins + q := ⟨k - (2 + ins), by omega⟩
      have hl1 := h1.len
      have hl2 := h2.len
      refine T.Ok.eq (h2.ok _ (nth_mem (by omega))) (h1.ok _ (nth_mem (by omega))) fun a => ?_
      rw [h1.fg q (by omega) a, h2.fg q (by omega) a]
      have eg : nth g2 q = nth g1 q := by
        obtain ⟨r, rfl⟩ := hp
        exact nth_append_left (by omega)
      rw [eg]
      have hgo := hg q (by omega)
      have hx : ∀ j : Int, 0 ≤ j → j < (2 + ins + q : Nat) → nth (f2.take (2 + ins + q)) j.toNat = nth (f1.take (2 + ins + q)) j.toNat := fun j j0 j1 => by
        rw [nth_take ⟨by omega, by omega⟩, nth_take ⟨by omega, by omega⟩]
        exact ih j.toNat (by omega) (by omega)
      have ha := hx _ hgo.a0 hgo.a1
      have hb := hx _ hgo.b0 hgo.b1
      have hc := hx _ hgo.c0 hgo.c1
      unfold gateA
      have hlow : low (f2.take (2 + ins + q)) [(nth g1 q).a, (nth g1 q).b, (nth g1 q).c] a 3 = low (f1.take (2 + ins + q)) [(nth g1 q).a, (nth g1 q).b, (nth g1 q).c] a 3 := by
        have := low_num (fs := f2.take (2 + ins + q)) (a := a) (x := (nth g1 q).a) (y := (nth g1 q).b) (z := (nth g1 q).c)
        have h2' := low_num (fs := f1.take (2 + ins + q)) (a := a) (x := (nth g1 q).a) (y := (nth g1 q).b) (z := (nth g1 q).c)
        rw [ha, hb, hc] at this
        omega
      rw [ha, hb, hc, hlow]
theorem tw_roots {V : Nat} {n : Net} {sh : Sh} {f1 f2 : List T} (h1 : FsP V n.ins.length sh n.gates n.gates.length f1) (h2 : FsP V n.ins.length sh (twN n).gates (twN n).gates.length f2) (hg : GatesOk (2 + n.ins.length) n.gates) (hd : DriveOk (2 + n.ins.length + n.gates.length) n.drive) :
    rootsT f2 (twD n) = rootsT f1 n.drive := by
  have hs := same_fs h1 h2 (List.prefix_append _ _) hg
  have hl1 := h1.len
  have hl2 := h2.len
  rw [twN_len] at hl2
  refine List.ext_getElem (by simp [roots_len, twD_len]) fun i hi1 hi2 => ?_
  have hi : i < n.drive.length := by simpa [roots_len] using hi2
  obtain ⟨d0, d1⟩ := hd i hi
  simp only [rootsT, twD, List.getElem_map, List.getElem_range, List.map_map, Function.comp]
  rw [← nth_eq hi]
  have e1 : (((2 + n.ins.length + n.gates.length + 2 * i + 1 : Nat) : Int)).toNat = 2 + n.ins.length + (n.gates.length + 2 * i + 1) := by omega
  rw [e1]
  have gl := twN_len n
  have g0 : nth (twN n).gates (n.gates.length + 2 * i) = notG (nth n.drive i) := by
    have : nth (twN n).gates (n.gates.length + 2 * i) = nth (twiL (2 + n.ins.length + n.gates.length) n.drive) (2 * i) := by
      rw [nth_eq (by omega), nth_eq (by rw [twi_len]; omega)]; simp [twN]
    rw [this, twi_0 hi]
  have g1 : nth (twN n).gates (n.gates.length + 2 * i + 1) = notG (2 + n.ins.length + n.gates.length + 2 * i : Nat) := by
    have : nth (twN n).gates (n.gates.length + 2 * i + 1) = nth (twiL (2 + n.ins.length + n.gates.length) n.drive) (2 * i + 1) := by
      rw [nth_eq (by omega), nth_eq (by rw [twi_len]; omega)]; simp [twN, Nat.add_assoc]
    rw [this, twi_1 hi]
  refine T.Ok.eq (h2.ok _ (nth_mem (by omega))) (h1.ok _ (nth_mem (by omega))) fun a => ?_
  rw [h2.fg (n.gates.length + 2 * i + 1) (by omega) a, g1]
  show (!(nth (f2.take (2 + n.ins.length + (n.gates.length + 2 * i + 1))) (((2 + n.ins.length + n.gates.length + 2 * i : Nat) : Int)).toNat).eval a) = _
  rw [nth_take ⟨by omega, by omega⟩, show (((2 + n.ins.length + n.gates.length + 2 * i : Nat) : Int)).toNat = 2 + n.ins.length + (n.gates.length + 2 * i) by omega, h2.fg (n.gates.length + 2 * i) (by omega) a, g0]
  show (!!(nth (f2.take (2 + n.ins.length + (n.gates.length + 2 * i))) (nth n.drive i).toNat).eval a) = _
  rw [nth_take ⟨by omega, by omega⟩, hs _ (by omega)]
  simp
theorem kc_allr {P : Program} {sm : List Nat} {N : Nat} {τ : Fr} {H : AHeap} {f : FuncId} {args : List AV} {ds : List D} {Q : AV → Prop} {KK : AV → AHeap → Prop} (hp : RCalls P f ds Q) (hd : deepL (lookH H H.length) 9 args = some ds) (hK : ∀ x, Q x → KK x (H.map fun _ => .dead)) : kC P sm N H τ (.d (.val (.func (.func f) #[] #[]))) args true (tg KK) := by
  refine kc_ics (K0 := fun x' H' => Q x' ∧ H' = H.map fun _ => .dead) ⟨hp.1, fun E w pl vals hl hx hh hE => ?_⟩ fun x' H' ⟨h1, h2⟩ => by rw [h2]; exact hK x' h1
  obtain ⟨l1, l2⟩ := (deep_rd hh H.length 9).2 _ ds (fun j => vals.getD j undef) hd hx
  refine (hp.2 w E vals (by rw [hl, l1]) l2 hE).mono fun e w' ⟨v, x, he, hq, hr, hb⟩ => ?_
  have dead : ∀ (i : Nat) (o : AObj), (H.map fun _ => AObj.dead)[i]? = some o → o = .dead := fun i o h => by
    rw [List.getElem?_map, Option.map_eq_some_iff] at h
    obtain ⟨_, _, rfl⟩ := h; rfl
  have hs : Stp (fun _ => False) w w' := ⟨hb.os, hb.tape, hb.output, hb.size, fun b h _ => hb.block b h, fun b s hs => (shape_of_eq (hb.block b (shape_lt hs))).trans hs⟩
  refine ⟨v, x, _, pl, he, ⟨hq, rfl⟩, hr.mono (Nat.le_refl _) (fun _ _ _ => rfl) (fun b _ hb' => ?_) (fun _ _ h => h) (fun i p hp => by simp at hp), ⟨by simp [hh.len], fun id o ho => ?_, fun i j oi oj p q h1 h2 l1 => ?_, fun i o p h1 l1 => ?_, fun p hp => (by cases hp), fun i j ci cj p q hm => (by cases hm)⟩, hs.mono (fun _ _ h => h.elim), fun b ⟨i, o, k, h1, h2, h3⟩ => ?_, fun i p h => h⟩
  · rcases hb' with hb' | ⟨i, o, k, h1, h2, _⟩
    · exact hb'
    · rw [dead i o h1] at h2; cases h2
  · rw [dead id o ho]; trivial
  · rw [dead i oi h1] at l1; cases l1
  · rw [dead i o h1] at l1; cases l1
  · rw [dead i o h1] at h2; cases h2
set_option maxRecDepth 100000 in
set_option linter.unusedVariables false in
set_option maxHeartbeats 4000000 in
theorem numbers_law (x : RawN) (hx : RawOk x) (b0 b1 b2 : Nat) (h0 : b0 < 256) (h1 : b1 < 256) (h2 : b2 < 256) : PCalls Try.prog 4 [.agg (rawC x), .agg [u8D b0, u8D b1, u8D b2]] (.d (oD true)) := by
  refine pcalls_of0 (fn := Try.f4) (by kernel_rfl) Try.func4 rfl (Nat.le_of_ble_eq_true rfl) fun c hc hp => ?_
  refine awp_less (τ' := frL [(0, .d (.agg (rawC x))), (1, .d (.agg [u8D b0, u8D b1, u8D b2]))]) (less_cons (less_cons (less_nil _) rfl) rfl) ?_
  refine awp_seq_s hp KT_ok hc rfl fun K1 hK1 => ?_
  simp -dsimp -implicitDefEqProofs (disch := first | assumption | omega | (simp [maxLen, avs_len, r5s_len, r4s_len, gates_len, wires_len, shs_len, nds_len, erow_len] <;> omega) | decide) only [sT_assign, sT_box, deadH, sT_nil, oK_some, q_o, layF, ↓reduceIte, q_b, q_f, q_s, q_l, as_dagg, D.one, Value.oneCell', q_n, Nat.reduceEqDiff, bD, bytesD, deadH, rawC, u8D]
  refine hK1 _ _ ?_
  refine awp_seq_s hp KT_ok hc rfl fun K2 hK2 => ?_
  simp -dsimp -implicitDefEqProofs (disch := first | assumption | omega | (simp [maxLen, avs_len, r5s_len, r4s_len, gates_len, wires_len, shs_len, nds_len, erow_len] <;> omega) | decide) only [sT_call0, q_f, q_s, q_l, q_n, Nat.reduceAdd]
  refine kc_by (examples_c) rfl ?_
  simp -dsimp -implicitDefEqProofs (disch := first | assumption | omega | (simp [maxLen, avs_len, r5s_len, r4s_len, gates_len, wires_len, shs_len, nds_len, erow_len] <;> omega) | decide) only [sT_assign, sT_nil, ↓reduceIte, q_b, q_f, oD]
  refine hK2 _ _ ?_
  refine awp_seq_k fun K3 hK3 => ?_
  refine awp_seq_s hp KT_ok hc rfl fun K4 hK4 => ?_
  rcases (show fewB x = false ∨ fewB x = true by cases fewB x <;> simp) with q | q
  · have hf := few_p x
    rw [q] at hf
    simp -dsimp -implicitDefEqProofs (disch := first | assumption | omega | (simp [maxLen, avs_len, r5s_len, r4s_len, gates_len, wires_len, shs_len, nds_len, erow_len] <;> omega) | decide) only [sT_move, sT_load, sT_un, sT_call0, sT_g, oK_some, gK_t, q_o, loadF, u_not, ↓reduceIte, q_b, ifp, guardA_some, guardV_f, q_f, q_s, q_l, q_n, Nat.reduceEqDiff, takeD_all, Nat.reduceAdd, sz_26, ag_26]
    refine kc_by (hf) rfl ?_
    simp -dsimp -implicitDefEqProofs (disch := first | assumption | omega | (simp [maxLen, avs_len, r5s_len, r4s_len, gates_len, wires_len, shs_len, nds_len, erow_len] <;> omega) | decide) only [sT_pick, sT_un, sT_nil, sT_g, oK_some, gK_t, q_o, u_not, ↓reduceIte, q_b, guardA_some, guardV_f, q_f, q_l, Nat.reduceEqDiff, oD]
    refine hK4 _ _ ?_
    refine awp_cond rfl (fun ht => ?_) (fun ht => ?_)
    · refine awp_seq_s hp KT_ok hc rfl fun K5 hK5 => ?_
      simp -dsimp -implicitDefEqProofs (disch := first | assumption | omega | (simp [maxLen, avs_len, r5s_len, r4s_len, gates_len, wires_len, shs_len, nds_len, erow_len] <;> omega) | decide) only [sT_move, sT_assign, sT_nil, ↓reduceIte, q_b, q_f, Nat.reduceEqDiff]
      refine hK5 _ _ ?_
      refine awp_ret ?_
      show closeA _ _ = _
      simp (disch := first | assumption | omega | (simp [maxLen, avs_len, r5s_len, r4s_len, gates_len, wires_len, shs_len, nds_len, erow_len] <;> omega) | decide) only [closeA, retV, deep_d, Nat.reduceAdd, Nat.zero_add, D.fix, frL_get, ↓reduceIte, Option.map_some, List.length_cons, List.length_nil, oD]
    · cases ht
  · have hf := few_p x
    rw [q] at hf
    simp -dsimp -implicitDefEqProofs (disch := first | assumption | omega | (simp [maxLen, avs_len, r5s_len, r4s_len, gates_len, wires_len, shs_len, nds_len, erow_len] <;> omega) | decide) only [sT_move, sT_load, sT_un, sT_call0, sT_g, oK_some, gK_t, q_o, loadF, u_not, ↓reduceIte, q_b, ifp, guardA_some, guardV_f, q_f, q_s, q_l, q_n, Nat.reduceEqDiff, takeD_all, Nat.reduceAdd, sz_26, ag_26]
    refine kc_by (hf) rfl ?_
    simp -dsimp -implicitDefEqProofs (disch := first | assumption | omega | (simp [maxLen, avs_len, r5s_len, r4s_len, gates_len, wires_len, shs_len, nds_len, erow_len] <;> omega) | decide) only [sT_pick, sT_un, sT_nil, sT_g, oK_some, gK_t, q_o, u_not, ↓reduceIte, q_b, guardA_some, guardV_f, q_f, q_l, Nat.reduceEqDiff, oD]
    refine hK4 _ _ ?_
    refine awp_cond rfl (fun ht => ?_) (fun ht => ?_)
    · cases ht
    · refine awp_skip (hK3 _ _ ?_)
      refine awp_seq_s hp KT_ok hc rfl fun K6 hK6 => ?_
      simp -dsimp -implicitDefEqProofs (disch := first | assumption | omega | (simp [maxLen, avs_len, r5s_len, r4s_len, gates_len, wires_len, shs_len, nds_len, erow_len] <;> omega) | decide) only [sT_load, sT_call0, oK_some, q_o, loadF, ↓reduceIte, q_b, ifp, q_f, q_s, q_l, q_n, Nat.reduceEqDiff, takeD_all, Nat.reduceAdd, sz_26, ag_26]
      refine kc_rel (made_c x hx) rfl fun r hr => ?_
      obtain ⟨n, hn, rfl⟩ := hr
      simp -dsimp -implicitDefEqProofs (disch := first | assumption | omega | (simp [maxLen, avs_len, r5s_len, r4s_len, gates_len, wires_len, shs_len, nds_len, erow_len] <;> omega) | decide) only [sT_alloc, sT_store, deadH, sT_nil, oK_some, q_o, layF, storeF, ↓reduceIte, q_b, ifp, q_f, q_s, q_l, as_dagg, q_a, D.one, q_n, Nat.reduceEqDiff, map_d, avs_nil, avs_cons, intsD, Nat.reduceAdd, deadH, netD, netC, wiresD, gatesD, sz_41, za_41]
      refine hK6 _ _ ?_
      refine awp_seq_s hp KT_ok hc rfl fun K7 hK7 => ?_
      simp -dsimp -implicitDefEqProofs (disch := first | assumption | omega | (simp [maxLen, avs_len, r5s_len, r4s_len, gates_len, wires_len, shs_len, nds_len, erow_len] <;> omega) | decide) only [sT_load, sT_call0, oK_some, q_o, loadF, ↓reduceIte, q_b, ifp, q_f, q_s, q_l, q_n, Nat.reduceEqDiff, takeD_all, Nat.reduceAdd, sz_27, ag_27]
      refine kc_by (shape_c b0 b1 b2 h0 h1 h2) rfl ?_
      simp -dsimp -implicitDefEqProofs (disch := first | assumption | omega | (simp [maxLen, avs_len, r5s_len, r4s_len, gates_len, wires_len, shs_len, nds_len, erow_len] <;> omega) | decide) only [sT_assign, sT_nil, ↓reduceIte, q_b, q_f, shD]
      obtain ⟨sh, hshd⟩ : ∃ sh, sh = shpL 5 [b0, b1, b2] := ⟨_, rfl⟩
      have hsh : ShOk sh := by rw [hshd]; exact shp_ok _ rfl _
      have hsv : varsN n.ins.length sh ≤ n.ins.length + 5 := by rw [hshd]; exact shp_vars _ _
      rw [← hshd]
      have hnb := hn.b
      have hi9 := hnb.i1
      have hg200 := hnb.g1
      have hg60 := hn.g1
      have hd9 := hn.d1
      have hdo := hn.d2
      have hBI := bin_of (nodes := n.drive) hnb.i1 hnb.g1 hsh hsv hnb.g2 (drive_no hdo) (by omega)
      refine hK7 _ _ ?_
      refine awp_rt hp (τ' := frL [(5, .d (oD true)), (6, .d (.fp (netC n) 0)), (7, .d (shD sh))]) (H' := []) ?_ ?_
      · refine Rt.trans (Rt.fz (id := 2) (l := netC n) rfl) ?_
        refine Rt.trans (Rt.gc (keep := []) (by decide) (by decide) (by simp [fzH])) ?_
        refine Rt.end (less_cons (less_cons (less_cons (less_nil _) rfl) rfl) rfl) ?_
        first | rfl | (simp only [intsD, boolsD, bytesD, intssD, bytessD, gcH, gcO_c, gcO_de, gcO_fr, gc_m, fz_m, gcVs_avs, gcVs, gcV, gcV_d, fzH, fzO_c, fzO_de, fzO_fr, fzVs_avs, Nat.reduceAdd, fzVs, fzV, posN, avs_nil, avs_cons, List.map_cons, List.map_nil, List.getD_cons_zero, List.getD_cons_succ, ↓reduceIte, Nat.reduceEqDiff, Option.map_some, List.set_cons_zero, List.set_cons_succ, takeD_avs, takeD_all, Nat.mul_one, List.length_map, List.cons_append, List.nil_append, rawC, u8D, netD, netC, wiresD, gatesD, shD, bltD, bddC]; first | done | rfl)
      refine awp_seq_s hp KT_ok hc rfl fun K8 hK8 => ?_
      simp -dsimp -implicitDefEqProofs (disch := first | assumption | omega | (simp [maxLen, avs_len, r5s_len, r4s_len, gates_len, wires_len, shs_len, nds_len, erow_len] <;> omega) | decide) only [sT_move, sT_load, sT_fa, sT_call0, oK_some, q_o, loadF, fieldAddrF, ↓reduceIte, q_b, q_f, q_s, q_l, q_n, Nat.reduceEqDiff, takeD_all, oD, intsD, netC, wiresD, gatesD, shD, sz_41, ag_41, fo_41_3, sz_29, ag_29]
      refine kc_rel (built_c _ n sh n.drive hBI) rfl fun r hr0 => ?_
      obtain ⟨ns, rs, e, rfl, hr⟩ := hr0
      have hbt := hr.blt (by omega) (drive_no hdo)
      simp -dsimp -implicitDefEqProofs (disch := first | assumption | omega | (simp [maxLen, avs_len, r5s_len, r4s_len, gates_len, wires_len, shs_len, nds_len, erow_len] <;> omega) | decide) only [sT_alloc, sT_store, deadH, sT_nil, oK_some, q_o, layF, storeF, ↓reduceIte, q_b, ifp, q_f, q_s, q_l, as_dagg, q_a, D.one, Value.oneCell', q_n, Nat.reduceEqDiff, map_d, avs_nil, avs_cons, iD, Nat.reduceAdd, deadH, bltD, bddC, sz_47, za_47]
      refine hK8 _ _ ?_
      refine awp_seq_k fun K9 hK9 => ?_
      refine awp_rt hp (τ' := frL [(5, .d (oD true)), (6, .d (.fp (netC n) 0)), (7, .d (shD sh)), (8, .d (.fp (bddC ns rs ++ [iD e]) 0))]) (H' := []) ?_ ?_
      · refine Rt.trans (Rt.fz (id := 0) (l := bddC ns rs ++ [iD e]) rfl) ?_
        refine Rt.trans (Rt.gc (keep := []) (by decide) (by decide) (by simp [fzH])) ?_
        refine Rt.end (less_cons (less_cons (less_cons (less_cons (less_nil _) rfl) rfl) rfl) rfl) ?_
        first | rfl | (simp only [intsD, boolsD, bytesD, intssD, bytessD, gcH, gcO_c, gcO_de, gcO_fr, gc_m, fz_m, gcVs_avs, gcVs, gcV, gcV_d, fzH, fzO_c, fzO_de, fzO_fr, fzVs_avs, Nat.reduceAdd, fzVs, fzV, posN, avs_nil, avs_cons, List.map_cons, List.map_nil, List.getD_cons_zero, List.getD_cons_succ, ↓reduceIte, Nat.reduceEqDiff, Option.map_some, List.set_cons_zero, List.set_cons_succ, takeD_avs, takeD_all, Nat.mul_one, List.length_map, List.cons_append, List.nil_append, rawC, u8D, netD, netC, wiresD, gatesD, shD, bltD, bddC]; first | done | rfl)
      refine awp_seq_s hp KT_ok hc rfl fun K10 hK10 => ?_
      rcases hbt with rfl | ⟨rfl, fs, us, rfl, hB⟩
      · simp -dsimp -implicitDefEqProofs (disch := first | assumption | omega | (simp [maxLen, avs_len, r5s_len, r4s_len, gates_len, wires_len, shs_len, nds_len, erow_len] <;> omega) | decide) only [sT_load, sT_fa, sT_bin, sT_nil, oK_some, q_o, loadF, fieldAddrF, binF_v, v_neq, ↓reduceIte, q_b, q_f, q_l, q_s, q_n, Nat.reduceEqDiff, iD, oD, intsD, netC, wiresD, gatesD, shD, bddC, Int.reduceBNe, fo_47_1, sz_45, ag_45]
        refine hK10 _ _ ?_
        refine awp_cond rfl (fun ht => ?_) (fun ht => ?_)
        · refine awp_seq_s hp KT_ok hc rfl fun K11 hK11 => ?_
          simp -dsimp -implicitDefEqProofs (disch := first | assumption | omega | (simp [maxLen, avs_len, r5s_len, r4s_len, gates_len, wires_len, shs_len, nds_len, erow_len] <;> omega) | decide) only [sT_move, sT_assign, sT_pick, sT_load, sT_fa, sT_bin, sT_nil, sT_g, oK_some, gK_t, q_o, loadF, fieldAddrF, binF_v, v_eql, ↓reduceIte, q_b, guardA_some, guardV_t, q_f, q_l, q_n, Nat.reduceEqDiff, beq_self_eq_true, fo_47_1, sz_45, ag_45]
          refine hK11 _ _ ?_
          refine awp_ret ?_
          show closeA _ _ = _
          simp (disch := first | assumption | omega | (simp [maxLen, avs_len, r5s_len, r4s_len, gates_len, wires_len, shs_len, nds_len, erow_len] <;> omega) | decide) only [closeA, retV, deep_d, D.fix, frL_get, ↓reduceIte, Option.map_some, List.length_nil, oD]
        · cases ht
      · simp -dsimp -implicitDefEqProofs (disch := first | assumption | omega | (simp [maxLen, avs_len, r5s_len, r4s_len, gates_len, wires_len, shs_len, nds_len, erow_len] <;> omega) | decide) only [sT_load, sT_fa, sT_bin, sT_nil, oK_some, q_o, loadF, fieldAddrF, binF_v, v_neq, ↓reduceIte, q_b, q_f, q_l, q_s, q_n, Nat.reduceEqDiff, iD, oD, intsD, netC, wiresD, gatesD, shD, bddC, bne_self_eq_false, fo_47_1, sz_45, ag_45]
        refine hK10 _ _ ?_
        refine awp_cond rfl (fun ht => ?_) (fun ht => ?_)
        · cases ht
        · refine awp_skip (hK9 _ _ ?_)
          refine awp_seq_k fun K12 hK12 => ?_
          have hrow := hB.row
          have hul := hB.len
          have hfl := hB.F.len
          have hrs := hB.rs
          have hin := hB.hin
          have hrl : rs.length = n.drive.length := by rw [hrs, List.length_map, roots_len]
          have hval := blt_valid hrow (by omega) hul (rs := rs) fun k hk => by
            rw [hrs] at hk
            obtain ⟨t, ht, rfl⟩ := List.mem_map.1 hk
            exact num_lt (hin t ht)
          have hk1 := rvalid_c ((erow us).map toI) (rs.map fun (k : Nat) => (k : Int)) (by rw [erow_I]; unfold maxLen; omega) (by rw [List.length_map]; omega)
          have hk2 := valid_c ((erow us).map toI) (rs.map fun (k : Nat) => (k : Int)) (erow_64 hrow (by omega) hul) (by rw [erow_I]; unfold maxLen; omega) (by rw [List.length_map]; unfold maxLen; omega)
          rw [hval, ← bddD_I] at hk1 hk2
          have qa : ((rs.length : Int) != (n.drive.length : Int)) = false := by simp; omega
          refine awp_seq_s hp KT_ok hc rfl fun K13 hK13 => ?_
          simp -dsimp -implicitDefEqProofs (disch := first | assumption | omega | (simp [maxLen, avs_len, r5s_len, r4s_len, gates_len, wires_len, shs_len, nds_len, erow_len] <;> omega) | decide) only [sT_load, sT_fa, sT_call0, oK_some, q_o, loadF, fieldAddrF, ↓reduceIte, q_b, q_f, q_s, q_l, q_n, Nat.reduceEqDiff, takeD_zero, takeD_cs, fo_47_0, sz_31, ag_31]
          refine kc_by (hk1) rfl ?_
          simp -dsimp -implicitDefEqProofs (disch := first | assumption | omega | (simp [maxLen, avs_len, r5s_len, r4s_len, gates_len, wires_len, shs_len, nds_len, erow_len] <;> omega) | decide) only [sT_move, sT_load, sT_fa, sT_un, sT_call0, sT_g, oK_some, gK_t, q_o, loadF, fieldAddrF, u_not, ↓reduceIte, q_b, guardA_some, guardV_f, q_f, q_s, q_l, q_n, Nat.reduceEqDiff, takeD_zero, takeD_cs, oD, fo_47_0, sz_31, ag_31]
          refine kc_by (hk2) rfl ?_
          simp -dsimp -implicitDefEqProofs (disch := first | assumption | omega | (simp [maxLen, avs_len, r5s_len, r4s_len, gates_len, wires_len, shs_len, nds_len, erow_len] <;> omega) | decide) only [sT_move, sT_pick, sT_load, sT_fa, sT_bin, sT_un, sT_len, sT_nil, sT_g, oK_some, gK_t, q_o, loadF, fieldAddrF, binF_v, lenF, builtinF, u_not, v_neq, ↓reduceIte, q_b, guardA_some, guardV_f, q_f, q_s, q_l, q_n, Nat.reduceEqDiff, oD, qa, fo_47_0, fo_31_1, sz_29, ag_29, eo_29, fo_41_3]
          refine hK13 _ _ ?_
          refine awp_cond rfl (fun ht => ?_) (fun ht => ?_)
          · cases ht
          · refine awp_skip (hK12 _ _ ?_)
            obtain ⟨c0, hc0⟩ : ∃ c0, c0 = 2 + n.ins.length + n.gates.length := ⟨_, rfl⟩
            refine awp_seq_s hp KT_ok hc rfl fun K14 hK14 => ?_
            simp -dsimp -implicitDefEqProofs (disch := first | assumption | omega | (simp [maxLen, avs_len, r5s_len, r4s_len, gates_len, wires_len, shs_len, nds_len, erow_len] <;> omega) | decide) only [sT_load, sT_alloc, sT_store, deadH, sT_nil, oK_some, q_o, loadF, layF, storeF, ↓reduceIte, q_b, ifp, q_f, q_s, q_l, as_dagg, q_a, D.one, q_n, Nat.reduceEqDiff, map_d, avs_nil, avs_cons, takeD_all, Nat.reduceAdd, deadH, sz_41, ag_41, za_41]
            refine hK14 _ _ ?_
            refine awp_seq_s hp KT_ok hc rfl fun K15 hK15 => ?_
            simp -dsimp -implicitDefEqProofs (disch := first | assumption | omega | (simp only [maxLen, List.length_replicate, eq_self, true_and, and_true, and_self, avs_len, List.length_map, List.length_append, List.length_cons, List.length_nil, List.length_set, List.length_range, List.length_take, List.length_drop, r5s_len, r4s_len, gates_len, wires_len, shs_len, nds_len, erow_len] <;> omega) | decide | fail) only [sT_load, sT_fa, sT_bs, sT_app, sT_store, deadH, sT_nil, oK_some, Option.map_some, loadF, fieldAddrF, layF, srcF, storeF, ↓reduceIte, Bool.false_eq_true, eq_self, ifp, frL_get, frL_put, frL_none, evalA_tmp, List.map_cons, List.map_nil, List.length_cons, List.length_nil, List.getElem?_cons_zero, List.getElem?_cons_succ, List.cons_append, List.nil_append, List.set_cons_zero, List.set_cons_succ, List.replicate_zero, List.all_nil, reps_def, fill_nil, as_os, many_nil, many_cons, true_and, Nat.zero_add, Nat.add_zero, Nat.reduceEqDiff, map_d, List.drop_zero, Nat.reduceAdd, List.nil_append, deadH, Nat.zero_mul, List.flatten_nil, sz_39, ag_39, mk_39, fo_41_1]
            refine hK15 _ _ ?_
            refine awp_seq_s hp KT_ok hc rfl fun K16 hK16 => ?_
            simp -dsimp -implicitDefEqProofs (disch := first | assumption | omega | (simp [maxLen, avs_len, r5s_len, r4s_len, gates_len, wires_len, shs_len, nds_len, erow_len] <;> omega) | decide) only [sT_assign, sT_bs, deadH, sT_nil, oK_some, q_o, layF, ↓reduceIte, q_b, ifp, q_f, q_s, q_l, List.replicate_zero, reps_def, q_a, q_n, Nat.reduceAdd, deadH, mk_29]
            refine hK16 _ _ ?_
            refine awp_seq_k fun K17 hK17 => ?_
            refine awp_seq_s hp KT_ok hc rfl fun K18 hK18 => ?_
            simp -dsimp -implicitDefEqProofs (disch := first | assumption | omega | (simp [maxLen, avs_len, r5s_len, r4s_len, gates_len, wires_len, shs_len, nds_len, erow_len] <;> omega) | decide) only [sT_assign, sT_nil, q_f]
            refine hK18 _ _ ?_
            refine awp_block ?_
            refine awp_loop_rt hp (fun τ' H' mm => ∃ (i : Nat), (i ≤ n.drive.length) ∧ mm = n.drive.length - i ∧ H' = [.cells [.d (wiresD n.ins), .os 5 1 0 (n.gates ++ twiL c0 (n.drive.take i)).length, .d (wiresD n.out), .d (intsD n.drive)], .cells (avs ((n.gates ++ twiL c0 (n.drive.take i)).flatMap gateC)), .cells (avs (((List.range i).map fun j => ((c0 + 2 * j + 1 : Nat) : Int)).map iD))] ∧ τ' = frL [(5, .d (oD true)), (6, .d (.fp (netC n) 0)), (7, .d (shD sh)), (8, .d (.fp (bddC (erow us) rs ++ [iD 0]) 0)), (9, .op 0 0), (10, .os 1 2 0 i), (11, .d (iD i))]) (n.drive.length) ?_ ⟨0, Nat.zero_le _, rfl, rfl, rfl⟩ ?_
            · refine Rt.trans (Rt.gc (keep := [0,2,3]) (by decide) (by decide) (by simp [])) ?_
              refine Rt.end (less_cons (less_cons (less_cons (less_cons (less_cons (less_cons (less_cons (less_nil _) rfl) rfl) rfl) rfl) rfl) rfl) rfl) ?_
              simp only [intsD, gcH, gcO_c, gcVs_avs, gcVs, gcV, Nat.reduceAdd, posN, List.map_cons, List.map_nil, List.getD_cons_zero, List.getD_cons_succ, ↓reduceIte, Nat.reduceEqDiff, Option.map_some, wiresD]; simp [twiL]; rfl
            rintro τ' H' mm ⟨i, hi, rfl, rfl, rfl⟩
            refine awp_seq_k fun K19 hK19 => ?_
            refine awp_seq_s hp KT_ok hc rfl fun K20 hK20 => ?_
            simp -dsimp -implicitDefEqProofs (disch := first | assumption | omega | (simp [maxLen, avs_len, r5s_len, r4s_len, gates_len, wires_len, shs_len, nds_len, erow_len] <;> omega) | decide) only [sT_move, sT_load, sT_fa, sT_bin, sT_len, sT_nil, oK_some, q_o, loadF, fieldAddrF, binF_v, lenF, builtinF, v_lss, ↓reduceIte, q_b, q_f, q_s, q_l, q_n, Nat.reduceEqDiff, iD, oD, intsD, netC, wiresD, gatesD, shD, bddC, fo_41_3, sz_29, ag_29, eo_29]
            refine hK20 _ _ ?_
            refine awp_cond rfl (fun ht => ?_) (fun ht => ?_)
            · have hlt : i < n.drive.length := by simp at ht; omega
              have hgl : (n.gates ++ twiL c0 (n.drive.take i)).length = n.gates.length + 2 * i := by simp [twi_len]; omega
              obtain ⟨gs, hgs⟩ : ∃ gs, gs = n.gates ++ twiL c0 (n.drive.take i) := ⟨_, rfl⟩
              have hgn : n.gates ++ twiL c0 (n.drive.take (i + 1)) = gs ++ [notG (nth n.drive i), notG ((c0 + 2 * i : Nat) : Int)] := by
                rw [take_nth hlt, twi_app, hgs, ← List.append_assoc, List.length_take, Nat.min_eq_left (by omega)]
              rw [← hgs] at hgl ⊢
              refine awp_skip (hK19 _ _ ?_)
              refine awp_seq_k fun K21 hK21 => ?_
              refine awp_block ?_
              refine awp_seq_se KT_ok hc mixed rfl (q := 2) (by kernel_rfl) (by kernel_rfl) fun K22 hK22 => ?_
              simp -dsimp -implicitDefEqProofs (disch := first | assumption | omega | (simp only [maxLen, List.length_replicate, eq_self, true_and, and_true, and_self, avs_len, List.length_map, List.length_append, List.length_cons, List.length_nil, List.length_set, List.length_range, List.length_take, List.length_drop, r5s_len, r4s_len, gates_len, wires_len, shs_len, nds_len, erow_len] <;> omega) | decide | fail) only [sE_move, sE_load, sE_fa, sE_ia, sE_build, sE_bs, sE_app, sE_store, sE_nil, oK_some, Option.map_some, loadF, fieldAddrF, ixO, indexAddrF, buildF, layF, layEF, srcF, storeF, ↓reduceIte, Bool.false_eq_true, eq_self, ifp, ifn, frL_get, frL_put, frL_none, evalA_tmp, evalA_const, List.map_cons, List.map_nil, List.length_cons, List.length_nil, List.getElem?_cons_zero, List.getElem?_cons_succ, List.cons_append, List.nil_append, List.append_nil, List.set_cons_zero, List.set_cons_succ, List.replicate_zero, List.replicate_succ, List.all_cons, List.all_nil, reps_def, fill_nil, fill_cons, as_int, as_os, as_agg, many_nil, many_cons, AV.one, D.one, Value.oneCell', Bool.and_self, and_true, true_and, Int.toNat_natCast, Nat.mul_one, Nat.zero_add, Nat.add_zero, Nat.reduceEqDiff, shB, appB, baseOk_old, baseOk_dd, killAll, appSh, avs_len, avs_app1, List.drop_zero, get_map, iD, Nat.reduceAdd, List.nil_append, layEF, frzF, datas, Nat.zero_mul, Nat.reduceMul, List.flatten_cons, List.flatten_nil, Nat.reduceBNe, List.filterMap_nil, fo_41_1, sz_39, ag_39, fo_41_3, sz_29, ag_29, eo_29, sz_3, ag_3, pa_64, pl_64_0, pl_64_1, zc_64, mk_39]
              refine hK22 _ _ ?_
              refine awp_rt hp (τ' := frL [(5, .d (oD true)), (6, .d (.fp (netC n) 0)), (7, .d (shD sh)), (8, .d (.fp (bddC (erow us) rs ++ [iD 0]) 0)), (9, .op 0 0), (10, .os 1 2 0 i), (11, .d (iD i))]) (H' := [.cells [.d (wiresD n.ins), .os 5 1 0 (gs ++ [notG (nth n.drive i)]).length, .d (wiresD n.out), .d (intsD n.drive)], .cells (avs ((gs ++ [notG (nth n.drive i)]).flatMap gateC)), .cells (avs (((List.range i).map fun j => ((c0 + 2 * j + 1 : Nat) : Int)).map iD))]) ?_ ?_
              · refine Rt.trans (Rt.gc (keep := [0,4,2]) (by decide) (by decide) (by simp [])) ?_
                refine Rt.end (less_cons (less_cons (less_cons (less_cons (less_cons (less_cons (less_cons (less_nil _) (by first | rfl | (simp [Fr.put, frL, gcV, fzV, posN, iD, bD, uD, oD, intsD, boolsD, bytesD, intssD, bytessD, r5s_len, r4s_len, gates_len, wires_len, shs_len, nds_len, erow_len, twiL]; done) | simp [Fr.put, frL, gcV, fzV, posN, iD, bD, uD, oD, intsD, boolsD, bytesD, intssD, bytessD, r5s_len, r4s_len, gates_len, wires_len, shs_len, nds_len, erow_len, twiL, *])) (by first | rfl | (simp [Fr.put, frL, gcV, fzV, posN, iD, bD, uD, oD, intsD, boolsD, bytesD, intssD, bytessD, r5s_len, r4s_len, gates_len, wires_len, shs_len, nds_len, erow_len, twiL]; done) | simp [Fr.put, frL, gcV, fzV, posN, iD, bD, uD, oD, intsD, boolsD, bytesD, intssD, bytessD, r5s_len, r4s_len, gates_len, wires_len, shs_len, nds_len, erow_len, twiL, *])) (by first | rfl | (simp [Fr.put, frL, gcV, fzV, posN, iD, bD, uD, oD, intsD, boolsD, bytesD, intssD, bytessD, r5s_len, r4s_len, gates_len, wires_len, shs_len, nds_len, erow_len, twiL]; done) | simp [Fr.put, frL, gcV, fzV, posN, iD, bD, uD, oD, intsD, boolsD, bytesD, intssD, bytessD, r5s_len, r4s_len, gates_len, wires_len, shs_len, nds_len, erow_len, twiL, *])) (by first | rfl | (simp [Fr.put, frL, gcV, fzV, posN, iD, bD, uD, oD, intsD, boolsD, bytesD, intssD, bytessD, r5s_len, r4s_len, gates_len, wires_len, shs_len, nds_len, erow_len, twiL]; done) | simp [Fr.put, frL, gcV, fzV, posN, iD, bD, uD, oD, intsD, boolsD, bytesD, intssD, bytessD, r5s_len, r4s_len, gates_len, wires_len, shs_len, nds_len, erow_len, twiL, *])) (by first | rfl | (simp [Fr.put, frL, gcV, fzV, posN, iD, bD, uD, oD, intsD, boolsD, bytesD, intssD, bytessD, r5s_len, r4s_len, gates_len, wires_len, shs_len, nds_len, erow_len, twiL]; done) | simp [Fr.put, frL, gcV, fzV, posN, iD, bD, uD, oD, intsD, boolsD, bytesD, intssD, bytessD, r5s_len, r4s_len, gates_len, wires_len, shs_len, nds_len, erow_len, twiL, *])) (by first | rfl | (simp [Fr.put, frL, gcV, fzV, posN, iD, bD, uD, oD, intsD, boolsD, bytesD, intssD, bytessD, r5s_len, r4s_len, gates_len, wires_len, shs_len, nds_len, erow_len, twiL]; done) | simp [Fr.put, frL, gcV, fzV, posN, iD, bD, uD, oD, intsD, boolsD, bytesD, intssD, bytessD, r5s_len, r4s_len, gates_len, wires_len, shs_len, nds_len, erow_len, twiL, *])) (by first | rfl | (simp [Fr.put, frL, gcV, fzV, posN, iD, bD, uD, oD, intsD, boolsD, bytesD, intssD, bytessD, r5s_len, r4s_len, gates_len, wires_len, shs_len, nds_len, erow_len, twiL]; done) | simp [Fr.put, frL, gcV, fzV, posN, iD, bD, uD, oD, intsD, boolsD, bytesD, intssD, bytessD, r5s_len, r4s_len, gates_len, wires_len, shs_len, nds_len, erow_len, twiL, *])) ?_
                simp only [intsD, gcH, gcO_c, gcVs_avs, gcVs, gcV, Nat.reduceAdd, posN, List.map_cons, List.map_nil, List.getD_cons_zero, List.getD_cons_succ, ↓reduceIte, Nat.reduceEqDiff, Option.map_some, wiresD]; simp [gateC, notG, iD]
              refine awp_seq_se KT_ok hc mixed rfl (q := 2) (by kernel_rfl) (by kernel_rfl) fun K23 hK23 => ?_
              simp -dsimp -implicitDefEqProofs (disch := first | assumption | omega | (simp only [maxLen, List.length_replicate, eq_self, true_and, and_true, and_self, avs_len, List.length_map, List.length_append, List.length_cons, List.length_nil, List.length_set, List.length_range, List.length_take, List.length_drop, r5s_len, r4s_len, gates_len, wires_len, shs_len, nds_len, erow_len] <;> omega) | decide | fail) only [sE_load, sE_fa, sE_call0, oK_some, Option.map_some, loadF, fieldAddrF, ↓reduceIte, Bool.false_eq_true, eq_self, ifp, frL_get, frL_put, evalA_tmp, evalA_func, List.map_cons, List.map_nil, List.length_cons, List.length_nil, List.getElem?_cons_zero, List.getElem?_cons_succ, List.cons_append, List.nil_append, List.replicate_zero, List.replicate_succ, Nat.zero_add, Nat.reduceEqDiff, takeD_all, iD, oD, intsD, Nat.reduceAdd, List.nil_append, netC, wiresD, gatesD, shD, bddC, fo_41_1, sz_41, ag_41, sz_39, ag_39]
              refine kc_own (nodes_c ⟨n.ins, gs ++ [notG (nth n.drive i)], n.out, n.drive⟩ (by show n.ins.length ≤ _; omega) (by simp; omega)) ?_ ?_
              · simp (disch := first | assumption | omega | (simp only [maxLen, List.length_replicate, eq_self, true_and, and_true, and_self, avs_len, List.length_map, List.length_append, List.length_cons, List.length_nil, List.length_set, List.length_range, List.length_take, List.length_drop, r5s_len, r4s_len, gates_len, wires_len, shs_len, nds_len, erow_len] <;> omega) | decide | fail) only [deep_d, deep_agg, deepL_avs, deepL_nil, deepL_cons, lookH_eq, cellsOf_c, deep_os, Nat.reduceAdd, takeD_all, D.fix, Option.map_some, Option.bind_some, List.getElem?_cons_zero, List.getElem?_cons_succ, intsD, netD, netC, wiresD, gatesD, gate_fix]
              simp -dsimp -implicitDefEqProofs (disch := first | assumption | omega | (simp only [maxLen, List.length_replicate, eq_self, true_and, and_true, and_self, avs_len, List.length_map, List.length_append, List.length_cons, List.length_nil, List.length_set, List.length_range, List.length_take, List.length_drop, r5s_len, r4s_len, gates_len, wires_len, shs_len, nds_len, erow_len] <;> omega) | decide | fail) only [sE_fa, sE_bin, sE_build, sE_bs, sE_app, sE_store, sE_nil, oK_some, Option.map_some, fieldAddrF, binF_v, buildF, layF, layEF, srcF, storeF, v_sub, ↓reduceIte, eq_self, ifp, ifn, frL_get, frL_put, frL_none, evalA_tmp, evalA_const, List.map_cons, List.map_nil, List.length_cons, List.length_nil, List.getElem?_cons_zero, List.getElem?_cons_succ, List.append_nil, List.set_cons_zero, List.set_cons_succ, List.replicate_zero, List.replicate_succ, List.all_cons, List.all_nil, reps_def, fill_nil, fill_cons, as_int, as_os, as_agg, many_nil, many_cons, AV.one, D.one, Value.oneCell', Bool.and_self, and_true, true_and, Nat.zero_add, Nat.add_zero, Nat.reduceEqDiff, shB, appB, baseOk_old, baseOk_dd, killAll, appSh, avs_len, avs_app1, List.drop_zero, Nat.reduceAdd, layEF, frzF, datas, Nat.zero_mul, Nat.reduceMul, List.flatten_cons, List.flatten_nil, Nat.reduceBNe, List.filterMap_nil, fo_41_1, sz_39, pa_64, pl_64_0, pl_64_1, zc_64, mk_39]
              refine hK23 _ _ ?_
              refine awp_rt hp (τ' := frL [(5, .d (oD true)), (6, .d (.fp (netC n) 0)), (7, .d (shD sh)), (8, .d (.fp (bddC (erow us) rs ++ [iD 0]) 0)), (9, .op 0 0), (10, .os 1 2 0 i), (11, .d (iD i))]) (H' := [.cells [.d (wiresD n.ins), .os 5 1 0 (n.gates ++ twiL c0 (n.drive.take (i + 1))).length, .d (wiresD n.out), .d (intsD n.drive)], .cells (avs ((n.gates ++ twiL c0 (n.drive.take (i + 1))).flatMap gateC)), .cells (avs (((List.range i).map fun j => ((c0 + 2 * j + 1 : Nat) : Int)).map iD))]) ?_ ?_
              · refine Rt.trans (Rt.gc (keep := [0,4,2]) (by decide) (by decide) (by simp [])) ?_
                refine Rt.end (less_cons (less_cons (less_cons (less_cons (less_cons (less_cons (less_cons (less_nil _) (by first | rfl | (simp [Fr.put, frL, gcV, fzV, posN, iD, bD, uD, oD, intsD, boolsD, bytesD, intssD, bytessD, r5s_len, r4s_len, gates_len, wires_len, shs_len, nds_len, erow_len, twiL]; done) | simp [Fr.put, frL, gcV, fzV, posN, iD, bD, uD, oD, intsD, boolsD, bytesD, intssD, bytessD, r5s_len, r4s_len, gates_len, wires_len, shs_len, nds_len, erow_len, twiL, *])) (by first | rfl | (simp [Fr.put, frL, gcV, fzV, posN, iD, bD, uD, oD, intsD, boolsD, bytesD, intssD, bytessD, r5s_len, r4s_len, gates_len, wires_len, shs_len, nds_len, erow_len, twiL]; done) | simp [Fr.put, frL, gcV, fzV, posN, iD, bD, uD, oD, intsD, boolsD, bytesD, intssD, bytessD, r5s_len, r4s_len, gates_len, wires_len, shs_len, nds_len, erow_len, twiL, *])) (by first | rfl | (simp [Fr.put, frL, gcV, fzV, posN, iD, bD, uD, oD, intsD, boolsD, bytesD, intssD, bytessD, r5s_len, r4s_len, gates_len, wires_len, shs_len, nds_len, erow_len, twiL]; done) | simp [Fr.put, frL, gcV, fzV, posN, iD, bD, uD, oD, intsD, boolsD, bytesD, intssD, bytessD, r5s_len, r4s_len, gates_len, wires_len, shs_len, nds_len, erow_len, twiL, *])) (by first | rfl | (simp [Fr.put, frL, gcV, fzV, posN, iD, bD, uD, oD, intsD, boolsD, bytesD, intssD, bytessD, r5s_len, r4s_len, gates_len, wires_len, shs_len, nds_len, erow_len, twiL]; done) | simp [Fr.put, frL, gcV, fzV, posN, iD, bD, uD, oD, intsD, boolsD, bytesD, intssD, bytessD, r5s_len, r4s_len, gates_len, wires_len, shs_len, nds_len, erow_len, twiL, *])) (by first | rfl | (simp [Fr.put, frL, gcV, fzV, posN, iD, bD, uD, oD, intsD, boolsD, bytesD, intssD, bytessD, r5s_len, r4s_len, gates_len, wires_len, shs_len, nds_len, erow_len, twiL]; done) | simp [Fr.put, frL, gcV, fzV, posN, iD, bD, uD, oD, intsD, boolsD, bytesD, intssD, bytessD, r5s_len, r4s_len, gates_len, wires_len, shs_len, nds_len, erow_len, twiL, *])) (by first | rfl | (simp [Fr.put, frL, gcV, fzV, posN, iD, bD, uD, oD, intsD, boolsD, bytesD, intssD, bytessD, r5s_len, r4s_len, gates_len, wires_len, shs_len, nds_len, erow_len, twiL]; done) | simp [Fr.put, frL, gcV, fzV, posN, iD, bD, uD, oD, intsD, boolsD, bytesD, intssD, bytessD, r5s_len, r4s_len, gates_len, wires_len, shs_len, nds_len, erow_len, twiL, *])) (by first | rfl | (simp [Fr.put, frL, gcV, fzV, posN, iD, bD, uD, oD, intsD, boolsD, bytesD, intssD, bytessD, r5s_len, r4s_len, gates_len, wires_len, shs_len, nds_len, erow_len, twiL]; done) | simp [Fr.put, frL, gcV, fzV, posN, iD, bD, uD, oD, intsD, boolsD, bytesD, intssD, bytessD, r5s_len, r4s_len, gates_len, wires_len, shs_len, nds_len, erow_len, twiL, *])) ?_
                simp only [intsD, gcH, gcO_c, gcVs_avs, gcVs, gcV, Nat.reduceAdd, posN, List.map_cons, List.map_nil, List.getD_cons_zero, List.getD_cons_succ, ↓reduceIte, Nat.reduceEqDiff, Option.map_some, wiresD]; rw [hgn]; simp [gateC, notG, iD, hgl, hc0]; rw [show (2 + (n.ins.length : Int) + ((n.gates.length : Int) + 2 * i + 1) - 1) = 2 + n.ins.length + n.gates.length + 2 * i by omega]
              have hgl2 : (n.gates ++ twiL c0 (n.drive.take (i + 1))).length = n.gates.length + 2 * i + 2 := by simp [twi_len]; omega
              obtain ⟨g2, hg2⟩ : ∃ g2, g2 = n.gates ++ twiL c0 (n.drive.take (i + 1)) := ⟨_, rfl⟩
              rw [← hg2] at hgl2 ⊢
              refine awp_s hp KT_ok hc rfl fun K24 hK24 => ?_
              simp -dsimp -implicitDefEqProofs (disch := first | assumption | omega | (simp only [maxLen, List.length_replicate, eq_self, true_and, and_true, and_self, avs_len, List.length_map, List.length_append, List.length_cons, List.length_nil, List.length_set, List.length_range, List.length_take, List.length_drop, r5s_len, r4s_len, gates_len, wires_len, shs_len, nds_len, erow_len] <;> omega) | decide | fail) only [sT_move, sT_load, sT_call0, oK_some, Option.map_some, loadF, ↓reduceIte, eq_self, ifp, frL_get, frL_put, evalA_tmp, evalA_func, List.map_cons, List.map_nil, List.length_cons, List.length_nil, List.getElem?_cons_zero, List.cons_append, List.nil_append, Nat.zero_add, Nat.reduceEqDiff, takeD_all, iD, oD, intsD, Nat.reduceAdd, List.nil_append, netC, wiresD, gatesD, shD, bddC, sz_41, ag_41]
              refine kc_own (nodes_c ⟨n.ins, g2, n.out, n.drive⟩ (by show n.ins.length ≤ _; omega) (by show g2.length ≤ _; omega)) ?_ ?_
              · simp (disch := first | assumption | omega | (simp only [maxLen, List.length_replicate, eq_self, true_and, and_true, and_self, avs_len, List.length_map, List.length_append, List.length_cons, List.length_nil, List.length_set, List.length_range, List.length_take, List.length_drop, r5s_len, r4s_len, gates_len, wires_len, shs_len, nds_len, erow_len] <;> omega) | decide | fail) only [deep_d, deep_agg, deepL_avs, deepL_nil, deepL_cons, lookH_eq, cellsOf_c, deep_os, Nat.reduceAdd, takeD_all, D.fix, Option.map_some, Option.bind_some, List.getElem?_cons_zero, List.getElem?_cons_succ, intsD, netD, netC, wiresD, gatesD, gate_fix]
              simp -dsimp -implicitDefEqProofs (disch := first | assumption | omega | (simp only [maxLen, List.length_replicate, eq_self, true_and, and_true, and_self, avs_len, List.length_map, List.length_append, List.length_cons, List.length_nil, List.length_set, List.length_range, List.length_take, List.length_drop, r5s_len, r4s_len, gates_len, wires_len, shs_len, nds_len, erow_len] <;> omega) | decide | fail) only [sT_assign, sT_bin, sT_bs, sT_app, deadH, sT_nil, oK_some, Option.map_some, binF_v, layF, srcF, v_sub, ↓reduceIte, eq_self, ifp, ifn, frL_get, frL_put, evalA_tmp, evalA_const, List.map_cons, List.map_nil, List.length_cons, List.length_nil, List.getElem?_cons_zero, List.getElem?_cons_succ, List.cons_append, List.nil_append, List.append_nil, List.set_cons_zero, List.set_cons_succ, List.replicate_zero, List.replicate_succ, reps_def, fill_nil, fill_cons, as_int, many_nil, many_cons, true_and, Nat.mul_one, Nat.zero_add, Nat.reduceEqDiff, avs_len, avs_app1, takeD_all, List.drop_zero, Nat.reduceAdd, List.nil_append, deadH, List.length_map, mk_29]
              refine hK24 _ _ (hK21 _ _ ?_)
              refine awp_s hp KT_ok hc rfl fun K25 hK25 => ?_
              simp -dsimp -implicitDefEqProofs (disch := first | assumption | omega | (simp [maxLen, avs_len, r5s_len, r4s_len, gates_len, wires_len, shs_len, nds_len, erow_len] <;> omega) | decide) only [sT_move, sT_assign, sT_bin, sT_nil, oK_some, q_o, binF_v, v_add, ↓reduceIte, q_b, q_f, Nat.reduceEqDiff]
              refine hK25 _ _ ⟨_, _, _, ?_, ⟨i + 1, by omega, rfl, rfl, rfl⟩, ?_⟩
              · first | omega | (simp only [List.length_cons]; omega) | (dsimp only; omega)
              · refine Rt.trans (Rt.gc (keep := [0,1,4]) (by decide) (by decide) (by simp [])) ?_
                refine Rt.end (less_cons (less_cons (less_cons (less_cons (less_cons (less_cons (less_cons (less_nil _) rfl) rfl) rfl) rfl) rfl) rfl) rfl) ?_
                simp only [intsD, gcH, gcO_c, gcVs_avs, gcVs, gcV, Nat.reduceAdd, posN, List.map_cons, List.map_nil, List.getD_cons_zero, List.getD_cons_succ, ↓reduceIte, Nat.reduceEqDiff, Option.map_some, wiresD]; rw [← hg2, range_s]; simp [iD, hgl2, hc0]; rw [show (2 + (n.ins.length : Int) + ((n.gates.length : Int) + 2 * i + 2) - 1) = 2 + n.ins.length + n.gates.length + 2 * i + 1 by omega]
            · have hie : i = n.drive.length := by simp at ht; omega
              subst hie
              rw [List.take_length, hc0]
              have htl := twN_len n
              have hBI2 := bin_of (n := twN n) (nodes := twD n) hnb.i1 (by rw [htl]; omega) hsh hsv (twN_ok hnb.g2 hdo) (twD_no n) (by rw [twD_len]; omega)
              refine awp_exit (hK17 _ _ ?_)
              have hgN : n.gates ++ twiL (2 + n.ins.length + n.gates.length) n.drive = (twN n).gates := rfl
              have hdN : ((List.range n.drive.length).map fun j => ((2 + n.ins.length + n.gates.length + 2 * j + 1 : Nat) : Int)) = twD n := rfl
              have hdl := twD_len n
              have hbc := built_c _ (twN n) sh (twD n) hBI2
              rw [show intsD (twD n) = .fs ((twD n).map iD) n.drive.length by unfold intsD; rw [hdl]] at hbc
              rw [hgN, hdN]
              refine awp_seq_s hp KT_ok hc rfl fun K26 hK26 => ?_
              simp -dsimp -implicitDefEqProofs (disch := first | assumption | omega | (simp only [maxLen, List.length_replicate, eq_self, true_and, and_true, and_self, avs_len, List.length_map, List.length_append, List.length_cons, List.length_nil, List.length_set, List.length_range, List.length_take, List.length_drop, r5s_len, r4s_len, gates_len, wires_len, shs_len, nds_len, erow_len] <;> omega) | decide | fail) only [sT_move, sT_load, sT_call0, oK_some, Option.map_some, loadF, ↓reduceIte, eq_self, ifp, frL_get, frL_put, evalA_tmp, evalA_func, List.map_cons, List.map_nil, List.length_cons, List.length_nil, List.getElem?_cons_zero, Nat.zero_add, Nat.reduceEqDiff, takeD_all, Nat.reduceAdd, sz_41, ag_41]
              refine kc_allr (hbc) (by simp (disch := first | assumption | omega | (simp only [maxLen, List.length_replicate, eq_self, true_and, and_true, and_self, avs_len, List.length_map, List.length_append, List.length_cons, List.length_nil, List.length_set, List.length_range, List.length_take, List.length_drop, r5s_len, r4s_len, gates_len, wires_len, shs_len, nds_len, erow_len] <;> omega) | decide | fail) only [deep_d, deep_agg, deepL_avs, deepL_nil, deepL_cons, lookH_eq, cellsOf_c, deep_os, Nat.reduceAdd, Nat.zero_add, takeD_all, fixm_i, D.fix, Option.map_some, Option.bind_some, Nat.mul_one, List.getElem?_cons_zero, List.getElem?_cons_succ, List.length_cons, List.length_nil, intsD, netD, netC, wiresD, gatesD, shD, gate_fix] <;> rfl) fun r hr1 => ?_
              obtain ⟨ns2, rs2, e2, rfl, hr1⟩ := hr1
              have hbt2 := hr1.blt (by show n.ins.length ≤ 100; omega) (twD_no n)
              simp -dsimp -implicitDefEqProofs (disch := first | assumption | omega | (simp [maxLen, avs_len, r5s_len, r4s_len, gates_len, wires_len, shs_len, nds_len, erow_len] <;> omega) | decide) only [sT_alloc, sT_store, deadH, sT_nil, oK_some, q_o, layF, storeF, ↓reduceIte, q_b, ifp, q_f, q_s, q_l, as_dagg, q_a, D.one, Value.oneCell', q_n, Nat.reduceEqDiff, map_d, avs_nil, avs_cons, iD, Nat.reduceAdd, deadH, bltD, bddC, sz_47, za_47]
              refine hK26 _ _ ?_
              refine awp_seq_k fun K27 hK27 => ?_
              refine awp_rt hp (τ' := frL [(5, .d (oD true)), (8, .d (.fp (bddC (erow us) rs ++ [iD 0]) 0)), (12, .d (.fp (bddC ns2 rs2 ++ [iD e2]) 0))]) (H' := []) ?_ ?_
              · refine Rt.trans (Rt.fz (id := 3) (l := bddC ns2 rs2 ++ [iD e2]) rfl) ?_
                refine Rt.trans (Rt.gc (keep := []) (by decide) (by decide) (by simp [fzH])) ?_
                refine Rt.end (less_cons (less_cons (less_cons (less_nil _) rfl) rfl) rfl) ?_
                first | rfl | (simp only [intsD, boolsD, bytesD, intssD, bytessD, gcH, gcO_c, gcO_de, gcO_fr, gc_m, fz_m, gcVs_avs, gcVs, gcV, gcV_d, fzH, fzO_c, fzO_de, fzO_fr, fzVs_avs, Nat.reduceAdd, fzVs, fzV, posN, avs_nil, avs_cons, List.map_cons, List.map_nil, List.getD_cons_zero, List.getD_cons_succ, ↓reduceIte, Nat.reduceEqDiff, Option.map_some, List.set_cons_zero, List.set_cons_succ, takeD_avs, takeD_all, Nat.mul_one, List.length_map, List.cons_append, List.nil_append, rawC, u8D, netD, netC, wiresD, gatesD, shD, bltD, bddC]; first | done | rfl)
              have hsame : e2 = 0 → ns2 = erow us ∧ rs2 = rs := fun h0 => by
                rcases hbt2 with h | ⟨_, fs2, us2, h1, hB2⟩
                · omega
                · have hroots := tw_roots hB.F hB2.F hnb.g2 hdo
                  have hu := hB2.us
                  have hr2 := hB2.rs
                  rw [hroots] at hu hr2
                  have huu : us2 = us := hu.trans hB.us.symm
                  rw [huu] at h1 hr2
                  exact ⟨h1, hr2.trans hrs.symm⟩
              have hs := same_c ((erow us).map toI) ((erow us).map toI) (rs.map fun (k : Nat) => (k : Int)) (rs.map fun (k : Nat) => (k : Int)) (by rw [erow_I]; omega) (by rw [erow_I]; omega) (by rw [List.length_map]; unfold maxLen; omega) (by rw [List.length_map]; unfold maxLen; omega)
              rw [decide_eq_true rfl, decide_eq_true rfl, ← bddD_I] at hs
              have he2 : e2 = 0 ∨ e2 = 2 := by rcases hbt2 with h | ⟨h, _⟩; exact .inr h; exact .inl h
              refine awp_seq_s hp KT_ok hc rfl fun K28 hK28 => ?_
              rcases he2 with rfl | rfl
              · obtain ⟨e1, e3⟩ := hsame rfl
                subst e1
                rw [e3]
                simp -dsimp -implicitDefEqProofs (disch := first | assumption | omega | (simp [maxLen, avs_len, r5s_len, r4s_len, gates_len, wires_len, shs_len, nds_len, erow_len] <;> omega) | decide) only [sT_move, sT_pick, sT_load, sT_fa, sT_bin, sT_call0, sT_g, oK_some, gK_t, gK_f, q_o, loadF, fieldAddrF, binF_v, v_eql, v_neq, ↓reduceIte, q_b, guardA_some, guardV_t, guardV_f, q_f, q_s, q_l, q_n, Nat.reduceEqDiff, takeD_zero, takeD_cs, iD, oD, bddC, beq_self_eq_true, bne_self_eq_false, fo_47_1, sz_45, ag_45, fo_47_0, sz_31, ag_31]
                refine kc_by (hs) rfl ?_
                simp -dsimp -implicitDefEqProofs (disch := first | assumption | omega | (simp [maxLen, avs_len, r5s_len, r4s_len, gates_len, wires_len, shs_len, nds_len, erow_len] <;> omega) | decide) only [sT_pick, sT_un, sT_nil, sT_g, oK_some, gK_t, q_o, u_not, ↓reduceIte, q_b, guardA_some, guardV_t, guardV_f, q_f, q_l, Nat.reduceEqDiff, oD]
                refine hK28 _ _ ?_
                refine awp_cond rfl (fun ht => ?_) (fun ht => ?_)
                · cases ht
                · refine awp_skip (hK27 _ _ ?_)
                  refine awp_seq_s hp KT_ok hc rfl fun K29 hK29 => ?_
                  simp -dsimp -implicitDefEqProofs (disch := first | assumption | omega | (simp [maxLen, avs_len, r5s_len, r4s_len, gates_len, wires_len, shs_len, nds_len, erow_len] <;> omega) | decide) only [sT_assign, sT_nil, q_f]
                  refine hK29 _ _ ?_
                  refine awp_seq_k fun K30 hK30 => ?_
                  refine awp_seq_s hp KT_ok hc rfl fun K31 hK31 => ?_
                  simp -dsimp -implicitDefEqProofs (disch := first | assumption | omega | (simp [maxLen, avs_len, r5s_len, r4s_len, gates_len, wires_len, shs_len, nds_len, erow_len] <;> omega) | decide) only [sT_assign, sT_nil, q_f]
                  refine hK31 _ _ ?_
                  refine awp_block ?_
                  refine awp_loop_rt hp (fun τ' H' mm => ∃ (i : Nat), (i ≤ rs.length) ∧ mm = rs.length - i ∧ H' = [] ∧ τ' = frL [(5, .d (oD true)), (8, .d (.fp (bddC (erow us) rs ++ [iD 0]) 0)), (13, .d (iD (2 + (expT ((rootsT fs n.drive).take i)).length))), (14, .d (iD i))]) (rs.length) ?_ ⟨0, Nat.zero_le _, rfl, rfl, rfl⟩ ?_
                  · refine Rt.end (less_cons (less_cons (less_cons (less_cons (less_nil _) rfl) rfl) rfl) rfl) ?_
                    first | rfl | (simp only [intsD, boolsD, bytesD, intssD, bytessD, gcH, gcO_c, gcO_de, gcO_fr, gc_m, fz_m, gcVs_avs, gcVs, gcV, gcV_d, fzH, fzO_c, fzO_de, fzO_fr, fzVs_avs, Nat.reduceAdd, fzVs, fzV, posN, avs_nil, avs_cons, List.map_cons, List.map_nil, List.getD_cons_zero, List.getD_cons_succ, ↓reduceIte, Nat.reduceEqDiff, Option.map_some, List.set_cons_zero, List.set_cons_succ, takeD_avs, takeD_all, Nat.mul_one, List.length_map, List.cons_append, List.nil_append, rawC, u8D, netD, netC, wiresD, gatesD, shD, bltD, bddC]; first | done | rfl)
                  rintro τ' H' mm ⟨i, hi, rfl, rfl, rfl⟩
                  refine awp_seq_k fun K32 hK32 => ?_
                  refine awp_seq_s hp KT_ok hc rfl fun K33 hK33 => ?_
                  simp -dsimp -implicitDefEqProofs (disch := first | assumption | omega | (simp [maxLen, avs_len, r5s_len, r4s_len, gates_len, wires_len, shs_len, nds_len, erow_len] <;> omega) | decide) only [sT_move, sT_load, sT_fa, sT_bin, sT_len, sT_nil, oK_some, q_o, loadF, fieldAddrF, binF_v, lenF, builtinF, v_lss, ↓reduceIte, q_b, q_f, q_s, q_l, q_n, Nat.reduceEqDiff, iD, oD, bddC, fo_47_0, fo_31_1, sz_29, ag_29, eo_29]
                  refine hK33 _ _ ?_
                  refine awp_cond rfl (fun ht => ?_) (fun ht => ?_)
                  · have hlt : i < rs.length := by simp at ht; omega
                    have hir : i < (rootsT fs n.drive).length := by rw [roots_len]; omega
                    have hri : ((nth rs i : Nat) : Int) = (num us (nth (rootsT fs n.drive) i) : Nat) := by rw [hrs, nth_map hir]
                    have hst := expT_step hir
                    have hpre : visT (nth (rootsT fs n.drive) i) (expT ((rootsT fs n.drive).take i)) <+: us := by
                      rw [← hst, hB.us]
                      have := expT_app ((rootsT fs n.drive).take (i + 1)) ((rootsT fs n.drive).drop (i + 1))
                      rwa [List.take_append_drop] at this
                    refine awp_skip (hK32 _ _ ?_)
                    refine awp_seq_k fun K34 hK34 => ?_
                    refine awp_block ?_
                    refine awp_se KT_ok hc mixed rfl (q := 0) (by kernel_rfl) (by kernel_rfl) fun K35 hK35 => ?_
                    simp -dsimp -implicitDefEqProofs (disch := first | assumption | omega | (simp [maxLen, avs_len, r5s_len, r4s_len, gates_len, wires_len, shs_len, nds_len, erow_len] <;> omega) | decide) only [sE_move, sE_load, sE_fa, sE_ia, sE_call0, oK_some, q_o, loadF, fieldAddrF, ixO, indexAddrF, ↓reduceIte, q_b, ifp, q_f, q_s, q_l, List.append_nil, List.replicate_zero, Int.toNat_natCast, q_n, Nat.reduceEqDiff, takeD_zero, takeD_cs, get_map, iD, Nat.reduceAdd, get_map, natD, fo_47_0, sz_31, ag_31, fo_31_1, sz_29, ag_29, eo_29, sz_3, ag_3]
                    refine kc_by (wlk_c _ us rs hrow hul _ (nth (rootsT fs n.drive) i) (Nat.le_refl _) (expT ((rootsT fs n.drive).take i)) _ _ hri rfl (hin _ (nth_mem hir)) hpre) rfl ?_
                    simp -dsimp -implicitDefEqProofs (disch := first | assumption | omega | (simp [maxLen, avs_len, r5s_len, r4s_len, gates_len, wires_len, shs_len, nds_len, erow_len] <;> omega) | decide) only [sE_assign, sE_nil, ↓reduceIte, q_b, q_f, killAll, iD, Nat.reduceAdd]
                    refine hK35 _ _ (hK34 _ _ ?_)
                    refine awp_s hp KT_ok hc rfl fun K36 hK36 => ?_
                    simp -dsimp -implicitDefEqProofs (disch := first | assumption | omega | (simp [maxLen, avs_len, r5s_len, r4s_len, gates_len, wires_len, shs_len, nds_len, erow_len] <;> omega) | decide) only [sT_move, sT_assign, sT_bin, sT_nil, oK_some, q_o, binF_v, v_add, ↓reduceIte, q_b, q_f, Nat.reduceEqDiff]
                    refine hK36 _ _ ⟨_, _, _, ?_, ⟨i + 1, by omega, rfl, rfl, rfl⟩, ?_⟩
                    · first | omega | (simp only [List.length_cons]; omega) | (dsimp only; omega)
                    · refine Rt.end (less_cons (less_cons (less_cons (less_cons (less_nil _) rfl) (by first | rfl | (simp [frL, iD]; done) | simp [frL, iD, *])) rfl) rfl) ?_
                      first | rfl | (simp only [intsD, boolsD, bytesD, intssD, bytessD, gcH, gcO_c, gcO_de, gcO_fr, gc_m, fz_m, gcVs_avs, gcVs, gcV, gcV_d, fzH, fzO_c, fzO_de, fzO_fr, fzVs_avs, Nat.reduceAdd, fzVs, fzV, posN, avs_nil, avs_cons, List.map_cons, List.map_nil, List.getD_cons_zero, List.getD_cons_succ, ↓reduceIte, Nat.reduceEqDiff, Option.map_some, List.set_cons_zero, List.set_cons_succ, takeD_avs, takeD_all, Nat.mul_one, List.length_map, List.cons_append, List.nil_append, rawC, u8D, netD, netC, wiresD, gatesD, shD, bltD, bddC]; first | done | rfl)
                  · have hie : i = rs.length := by simp at ht; omega
                    have hfin : (expT ((rootsT fs n.drive).take i)).length = us.length := by rw [List.take_of_length_le (by rw [roots_len]; omega), ← hB.us]
                    have hel := erow_len us
                    have hq : ((2 : Int) + (expT ((rootsT fs n.drive).take i)).length == 2 + (erow us).length) = true := by rw [hfin, hel]; simp
                    refine awp_exit (hK30 _ _ ?_)
                    refine awp_seq_s hp KT_ok hc rfl fun K37 hK37 => ?_
                    simp -dsimp -implicitDefEqProofs (disch := first | assumption | omega | (simp [maxLen, avs_len, r5s_len, r4s_len, gates_len, wires_len, shs_len, nds_len, erow_len] <;> omega) | decide) only [sT_move, sT_assign, sT_pick, sT_load, sT_fa, sT_bin, sT_len, sT_nil, sT_g, oK_some, gK_t, q_o, loadF, fieldAddrF, binF_v, lenF, builtinF, v_add, v_eql, ↓reduceIte, q_b, guardA_some, guardV_t, q_f, q_s, q_l, q_n, Nat.reduceEqDiff, hq, fo_47_0, fo_31_0, sz_28, ag_28, eo_28]
                    refine hK37 _ _ ?_
                    refine awp_ret ?_
                    show closeA _ _ = _
                    simp (disch := first | assumption | omega | (simp [maxLen, avs_len, r5s_len, r4s_len, gates_len, wires_len, shs_len, nds_len, erow_len] <;> omega) | decide) only [closeA, retV, deep_d, D.fix, frL_get, ↓reduceIte, Option.map_some, List.length_nil, oD]
              · simp -dsimp -implicitDefEqProofs (disch := first | assumption | omega | (simp [maxLen, avs_len, r5s_len, r4s_len, gates_len, wires_len, shs_len, nds_len, erow_len] <;> omega) | decide) only [sT_move, sT_pick, sT_load, sT_fa, sT_bin, sT_nil, sT_g, oK_some, gK_t, gK_f, q_o, loadF, fieldAddrF, binF_v, v_eql, v_neq, ↓reduceIte, q_b, guardA_some, guardV_t, guardV_f, q_f, q_l, q_s, q_n, Nat.reduceEqDiff, iD, oD, bddC, Int.reduceBEq, Int.reduceBNe, bne_self_eq_false, fo_47_1, sz_45, ag_45]
                refine hK28 _ _ ?_
                refine awp_cond rfl (fun ht => ?_) (fun ht => ?_)
                · cases ht
                · refine awp_skip (hK27 _ _ ?_)
                  refine awp_seq_s hp KT_ok hc rfl fun K38 hK38 => ?_
                  simp -dsimp -implicitDefEqProofs (disch := first | assumption | omega | (simp [maxLen, avs_len, r5s_len, r4s_len, gates_len, wires_len, shs_len, nds_len, erow_len] <;> omega) | decide) only [sT_assign, sT_nil, q_f]
                  refine hK38 _ _ ?_
                  refine awp_seq_k fun K39 hK39 => ?_
                  refine awp_seq_s hp KT_ok hc rfl fun K40 hK40 => ?_
                  simp -dsimp -implicitDefEqProofs (disch := first | assumption | omega | (simp [maxLen, avs_len, r5s_len, r4s_len, gates_len, wires_len, shs_len, nds_len, erow_len] <;> omega) | decide) only [sT_assign, sT_nil, q_f]
                  refine hK40 _ _ ?_
                  refine awp_block ?_
                  refine awp_loop_rt hp (fun τ' H' mm => ∃ (i : Nat), (i ≤ rs.length) ∧ mm = rs.length - i ∧ H' = [] ∧ τ' = frL [(5, .d (oD true)), (8, .d (.fp (bddC (erow us) rs ++ [iD 0]) 0)), (13, .d (iD (2 + (expT ((rootsT fs n.drive).take i)).length))), (14, .d (iD i))]) (rs.length) ?_ ⟨0, Nat.zero_le _, rfl, rfl, rfl⟩ ?_
                  · refine Rt.end (less_cons (less_cons (less_cons (less_cons (less_nil _) rfl) rfl) rfl) rfl) ?_
                    first | rfl | (simp only [intsD, boolsD, bytesD, intssD, bytessD, gcH, gcO_c, gcO_de, gcO_fr, gc_m, fz_m, gcVs_avs, gcVs, gcV, gcV_d, fzH, fzO_c, fzO_de, fzO_fr, fzVs_avs, Nat.reduceAdd, fzVs, fzV, posN, avs_nil, avs_cons, List.map_cons, List.map_nil, List.getD_cons_zero, List.getD_cons_succ, ↓reduceIte, Nat.reduceEqDiff, Option.map_some, List.set_cons_zero, List.set_cons_succ, takeD_avs, takeD_all, Nat.mul_one, List.length_map, List.cons_append, List.nil_append, rawC, u8D, netD, netC, wiresD, gatesD, shD, bltD, bddC]; first | done | rfl)
                  rintro τ' H' mm ⟨i, hi, rfl, rfl, rfl⟩
                  refine awp_seq_k fun K41 hK41 => ?_
                  refine awp_seq_s hp KT_ok hc rfl fun K42 hK42 => ?_
                  simp -dsimp -implicitDefEqProofs (disch := first | assumption | omega | (simp [maxLen, avs_len, r5s_len, r4s_len, gates_len, wires_len, shs_len, nds_len, erow_len] <;> omega) | decide) only [sT_move, sT_load, sT_fa, sT_bin, sT_len, sT_nil, oK_some, q_o, loadF, fieldAddrF, binF_v, lenF, builtinF, v_lss, ↓reduceIte, q_b, q_f, q_s, q_l, q_n, Nat.reduceEqDiff, iD, oD, bddC, fo_47_0, fo_31_1, sz_29, ag_29, eo_29]
                  refine hK42 _ _ ?_
                  refine awp_cond rfl (fun ht => ?_) (fun ht => ?_)
                  · have hlt : i < rs.length := by simp at ht; omega
                    have hir : i < (rootsT fs n.drive).length := by rw [roots_len]; omega
                    have hri : ((nth rs i : Nat) : Int) = (num us (nth (rootsT fs n.drive) i) : Nat) := by rw [hrs, nth_map hir]
                    have hst := expT_step hir
                    have hpre : visT (nth (rootsT fs n.drive) i) (expT ((rootsT fs n.drive).take i)) <+: us := by
                      rw [← hst, hB.us]
                      have := expT_app ((rootsT fs n.drive).take (i + 1)) ((rootsT fs n.drive).drop (i + 1))
                      rwa [List.take_append_drop] at this
                    refine awp_skip (hK41 _ _ ?_)
                    refine awp_seq_k fun K43 hK43 => ?_
                    refine awp_block ?_
                    refine awp_se KT_ok hc mixed rfl (q := 0) (by kernel_rfl) (by kernel_rfl) fun K44 hK44 => ?_
                    simp -dsimp -implicitDefEqProofs (disch := first | assumption | omega | (simp [maxLen, avs_len, r5s_len, r4s_len, gates_len, wires_len, shs_len, nds_len, erow_len] <;> omega) | decide) only [sE_move, sE_load, sE_fa, sE_ia, sE_call0, oK_some, q_o, loadF, fieldAddrF, ixO, indexAddrF, ↓reduceIte, q_b, ifp, q_f, q_s, q_l, List.append_nil, List.replicate_zero, Int.toNat_natCast, q_n, Nat.reduceEqDiff, takeD_zero, takeD_cs, get_map, iD, Nat.reduceAdd, get_map, natD, fo_47_0, sz_31, ag_31, fo_31_1, sz_29, ag_29, eo_29, sz_3, ag_3]
                    refine kc_by (wlk_c _ us rs hrow hul _ (nth (rootsT fs n.drive) i) (Nat.le_refl _) (expT ((rootsT fs n.drive).take i)) _ _ hri rfl (hin _ (nth_mem hir)) hpre) rfl ?_
                    simp -dsimp -implicitDefEqProofs (disch := first | assumption | omega | (simp [maxLen, avs_len, r5s_len, r4s_len, gates_len, wires_len, shs_len, nds_len, erow_len] <;> omega) | decide) only [sE_assign, sE_nil, ↓reduceIte, q_b, q_f, killAll, iD, Nat.reduceAdd]
                    refine hK44 _ _ (hK43 _ _ ?_)
                    refine awp_s hp KT_ok hc rfl fun K45 hK45 => ?_
                    simp -dsimp -implicitDefEqProofs (disch := first | assumption | omega | (simp [maxLen, avs_len, r5s_len, r4s_len, gates_len, wires_len, shs_len, nds_len, erow_len] <;> omega) | decide) only [sT_move, sT_assign, sT_bin, sT_nil, oK_some, q_o, binF_v, v_add, ↓reduceIte, q_b, q_f, Nat.reduceEqDiff]
                    refine hK45 _ _ ⟨_, _, _, ?_, ⟨i + 1, by omega, rfl, rfl, rfl⟩, ?_⟩
                    · first | omega | (simp only [List.length_cons]; omega) | (dsimp only; omega)
                    · refine Rt.end (less_cons (less_cons (less_cons (less_cons (less_nil _) rfl) (by first | rfl | (simp [frL, iD]; done) | simp [frL, iD, *])) rfl) rfl) ?_
                      first | rfl | (simp only [intsD, boolsD, bytesD, intssD, bytessD, gcH, gcO_c, gcO_de, gcO_fr, gc_m, fz_m, gcVs_avs, gcVs, gcV, gcV_d, fzH, fzO_c, fzO_de, fzO_fr, fzVs_avs, Nat.reduceAdd, fzVs, fzV, posN, avs_nil, avs_cons, List.map_cons, List.map_nil, List.getD_cons_zero, List.getD_cons_succ, ↓reduceIte, Nat.reduceEqDiff, Option.map_some, List.set_cons_zero, List.set_cons_succ, takeD_avs, takeD_all, Nat.mul_one, List.length_map, List.cons_append, List.nil_append, rawC, u8D, netD, netC, wiresD, gatesD, shD, bltD, bddC]; first | done | rfl)
                  · have hie : i = rs.length := by simp at ht; omega
                    have hfin : (expT ((rootsT fs n.drive).take i)).length = us.length := by rw [List.take_of_length_le (by rw [roots_len]; omega), ← hB.us]
                    have hel := erow_len us
                    have hq : ((2 : Int) + (expT ((rootsT fs n.drive).take i)).length == 2 + (erow us).length) = true := by rw [hfin, hel]; simp
                    refine awp_exit (hK39 _ _ ?_)
                    refine awp_seq_s hp KT_ok hc rfl fun K46 hK46 => ?_
                    simp -dsimp -implicitDefEqProofs (disch := first | assumption | omega | (simp [maxLen, avs_len, r5s_len, r4s_len, gates_len, wires_len, shs_len, nds_len, erow_len] <;> omega) | decide) only [sT_move, sT_assign, sT_pick, sT_load, sT_fa, sT_bin, sT_len, sT_nil, sT_g, oK_some, gK_t, q_o, loadF, fieldAddrF, binF_v, lenF, builtinF, v_add, v_eql, ↓reduceIte, q_b, guardA_some, guardV_t, q_f, q_s, q_l, q_n, Nat.reduceEqDiff, hq, fo_47_0, fo_31_0, sz_28, ag_28, eo_28]
                    refine hK46 _ _ ?_
                    refine awp_ret ?_
                    show closeA _ _ = _
                    simp (disch := first | assumption | omega | (simp [maxLen, avs_len, r5s_len, r4s_len, gates_len, wires_len, shs_len, nds_len, erow_len] <;> omega) | decide) only [closeA, retV, deep_d, D.fix, frL_get, ↓reduceIte, Option.map_some, List.length_nil, oD]
end Go.Proofs.Ytgfnpfchdlcoeaa
