/- The nets that bytes describe are valid (as netsim's laws have them). -/
import Derived.Test.YtgfnpfchdlcoeaaQ
import Derived.Test.YtgfnpfchdlcoeaaCv
set_option linter.unusedVariables false
set_option linter.unusedSimpArgs false
namespace Go.Proofs.Ytgfnpfchdlcoeaa
open Go Go.RowKit
def DriveOk (m : Nat) (l : List Int) : Prop := ∀ k, k < l.length → 0 ≤ nth l k ∧ nth l k < m
structure R5 where
  a : Int
  b : Int
  c : Int
  d : Int
  e : Int
instance : Inhabited R5 := ⟨⟨0, 0, 0, 0, 0⟩⟩
structure R4 where
  a : Int
  b : Int
  c : Int
  d : Int
instance : Inhabited R4 := ⟨⟨0, 0, 0, 0⟩⟩
def r5C (g : R5) : List D := [bD g.a, bD g.b, bD g.c, bD g.d, bD g.e]
def r4C (g : R4) : List D := [bD g.a, bD g.b, bD g.c, bD g.d]
theorem r5_w (g : R5) : (r5C g).length = 5 := rfl
theorem r4_w (g : R4) : (r4C g).length = 4 := rfl
theorem r5_row {l : List R5} {k : Nat} (h : k < l.length) : zd0 (l.flatMap r5C) (k * 5) 5 = some (r5C (nth l k)) := zja r5_w h
theorem r4_row {l : List R4} {k : Nat} (h : k < l.length) : zd0 (l.flatMap r4C) (k * 4) 4 = some (r4C (nth l k)) := zja r4_w h
structure RawN where
  ins : List Int
  gates : List R5
  out : List R4
def B1 (n : Int) : Prop := 0 ≤ n ∧ n < 256
structure RawOk (x : RawN) : Prop where
  ins : ∀ k, k < x.ins.length → B1 (nth x.ins k)
  gates : ∀ k, k < x.gates.length → B1 (nth x.gates k).a ∧ B1 (nth x.gates k).b ∧ B1 (nth x.gates k).c ∧ B1 (nth x.gates k).d ∧ B1 (nth x.gates k).e
  out : ∀ k, k < x.out.length → B1 (nth x.out k).a ∧ B1 (nth x.out k).b ∧ B1 (nth x.out k).c ∧ B1 (nth x.out k).d
def rawC (x : RawN) : List D := [zbp x.ins, .fs (x.gates.flatMap r5C) x.gates.length, .fs (x.out.flatMap r4C) x.out.length]
structure NetOk (n : Net) : Prop where
  i1 : 1 ≤ n.ins.length
  i2 : n.ins.length ≤ 9
  g1 : n.gates.length ≤ 60
  g2 : GatesOk (2 + n.ins.length) n.gates
  d0 : n.out.length = n.drive.length
  d1 : n.drive.length ≤ 9
  d2 : DriveOk (2 + n.ins.length + n.gates.length) n.drive
  d3 : 1 ≤ n.drive.length
theorem GatesOk.snoc {m : Nat} {l : List Gate} {g : Gate} (h : GatesOk m l) (hg : GateOk (m + l.length) g) : GatesOk m (l ++ [g]) := fun k hk => by
  by_cases hl : k < l.length
  · rw [zdu hl]; exact h k hl
  · have : k = l.length := by simp at hk; omega
    subst this
    rw [ze7]; exact hg
theorem DriveOk.snoc {m : Nat} {l : List Int} {d : Int} (h : DriveOk m l) (h0 : 0 ≤ d) (h1 : d < m) : DriveOk m (l ++ [d]) := fun k hk => by
  by_cases hl : k < l.length
  · rw [zdu hl]; exact h k hl
  · have : k = l.length := by simp at hk; omega
    subst this
    rw [ze7]; exact ⟨h0, h1⟩
theorem gates_nil (m : Nat) : GatesOk m [] := fun k hk => by simp at hk
theorem zt3 (m : Nat) : DriveOk m [] := fun k hk => by simp at hk
theorem and1023 (a : Int) : 0 ≤ bitV .and .i64 a 1023 := by
  have h : (BitVec.ofInt 64 a &&& BitVec.ofInt 64 1023).toNat ≤ 1023 := by
    rw [BitVec.toNat_and]
    exact Nat.le_trans Nat.and_le_right (by decide)
  show 0 ≤ IntKind.i64.wrap ((BitVec.ofInt 64 a &&& BitVec.ofInt 64 1023).toNat : Int)
  rw [zh2 (by omega) (by omega)]
  omega
theorem kinds_get {i : Nat} (h : i < 7) : ([.val (.int .i64 1), .val (.int .i64 5), .val (.int .i64 6), .val (.int .i64 7), .val (.int .i64 8), .val (.int .i64 9), .val (.int .i64 10)] : List D)[i]? = some (.val (.int .i64 (nth [1, 5, 6, 7, 8, 9, 10] i))) := by
  rcases (show i = 0 ∨ i = 1 ∨ i = 2 ∨ i = 3 ∨ i = 4 ∨ i = 5 ∨ i = 6 by omega) with rfl | rfl | rfl | rfl | rfl | rfl | rfl <;> rfl
theorem mkG {ws : List Wire} {gs : List Gate} {k : Nat} (hw : gs.length = k) {a b c d e : Int} (a0 : 0 ≤ a) (a1 : a < 256) (b0 : 0 ≤ b) (b1 : b < 256) (c0 : 0 ≤ c) (c1 : c < 256) (d0 : 0 ≤ d) (d1 : d < 256) (e0 : 0 ≤ e) (e1 : e < 256) {u v w : Int}
    (hu : u = 0 ∨ u = c % (2 + ws.length + k)) (hv : v = 0 ∨ v = d % (2 + ws.length + k)) (hn : w = 0 ∨ w = 8 * (e % 3) + e / 3 % 2) : GateOk (2 + ws.length + gs.length) ⟨1 + a % 7, b % (2 + ws.length + k), u, v, w⟩ := by
  have hpos : (0 : Int) < 2 + ws.length + k := by omega
  have m (z : Int) : 0 ≤ z % (2 + ws.length + k) ∧ z % (2 + ws.length + k) < 2 + ws.length + k := ⟨Int.emod_nonneg _ (Int.ne_of_gt hpos), Int.emod_lt_of_pos _ hpos⟩
  have mb := m b
  have mc := m c
  have md := m d
  generalize b % (2 + ws.length + k : Int) = B at *
  generalize c % (2 + ws.length + k : Int) = C at *
  generalize d % (2 + ws.length + k : Int) = D at *
  subst hw
  constructor <;> simp only <;> omega
set_option maxRecDepth 100000 in
set_option linter.unusedVariables false in
set_option maxHeartbeats 4000000 in
theorem made_c (x : RawN) (hx : RawOk x) : RCalls Try.prog 12 [.agg (rawC x)] (fun r => ∃ n, NetOk n ∧ r = .d (netD n)) := by
  refine zho (fn := Try.f12) (by kernel_rfl) Try.func12 rfl (Nat.le_of_ble_eq_true rfl) fun c hc hp => ?_
  refine zch (τ' := frL [(0, .d (.agg (rawC x)))]) (zaa (zaq _) rfl) ?_
  refine zac hp zao hc rfl fun K1 hK1 => ?_
  simp -dsimp -implicitDefEqProofs (disch := first | assumption | omega | (simp [maxLen, zab, zaf, zad] <;> omega) | decide) only [zdy, zcm, zbd, zaj, zae, q_o, layF, ↓reduceIte, q_b, q_f, q_s, q_l, zca, D.one, q_n, zdk, zav, zap, zbp, zbd, rawC, ztp]
  refine hK1 _ _ ?_
  refine zac hp zao hc rfl fun K2 hK2 => ?_
  simp -dsimp -implicitDefEqProofs (disch := first | assumption | omega | (simp [maxLen, zab, zaf, zad] <;> omega) | decide) only [zdd, zcm, zdw, zbu, zbd, zaj, zae, q_o, zdx, layF, zb4, ↓reduceIte, q_b, ifp, ifn, q_f, q_s, q_l, List.append_nil, List.replicate_zero, List.replicate_succ, zbv, q_a, zbn, zga, AV.one, D.one, Value.oneCell', q_n, Nat.reduceEqDiff, zdk, zav, zap, Nat.reduceAdd, zbd, Nat.zero_mul, Nat.reduceMul, List.flatten_cons, List.flatten_nil, pa_86, zr9, zc_86, mk_38, pa_41, pl_41_0, zes, ztp, zc_41]
  refine hK2 _ _ ?_
  refine zas fun K3 hK3 => ?_
  have hJ3 : ∀ τ' H', (∃ τ1 H1, ∃ (ws : List Wire), (1 ≤ ws.length ∧ ws.length ≤ 9) ∧ H1 = [.cells (avs (rawC x)), .cells [.d (.val (.slice none 0 0)), .d (.val (.slice none 0 0)), .d (.val (.slice none 0 0)), .d (.val (.slice none 0 0))], .cells [.os 3 3 0 ws.length, .d (.val (.slice none 0 0)), .d (.val (.slice none 0 0)), .d (.val (.slice none 0 0))], .cells (avs (ws.flatMap zg9))] ∧ τ1 = frL [(1, .op 0 0), (2, .op 1 0), (3, .op 2 0)] ∧ Rt [] τ' H' τ1 H1) → K3 τ' H' := by
    rintro τ' H' ⟨_, _, ws, ⟨w1, w2⟩, rfl, rfl, hrt⟩
    refine hK3 _ _ (zcx hp hrt ?_)
    clear hrt
    refine zas fun K4 hK4 => ?_
    have hJ4 : ∀ τ' H', (∃ τ1 H1, ∃ (gs : List Gate), (gs.length ≤ 60 ∧ GatesOk (2 + ws.length) gs) ∧ H1 = [.cells (avs (rawC x)), .cells [.d (.val (.slice none 0 0)), .d (.val (.slice none 0 0)), .d (.val (.slice none 0 0)), .d (.val (.slice none 0 0))], .cells [.os 3 3 0 ws.length, .os 5 4 0 gs.length, .d (.val (.slice none 0 0)), .d (.val (.slice none 0 0))], .cells (avs (ws.flatMap zg9)), .cells (avs (gs.flatMap zf3))] ∧ τ1 = frL [(1, .op 0 0), (2, .op 1 0), (3, .op 2 0)] ∧ Rt [] τ' H' τ1 H1) → K4 τ' H' := by
      rintro τ' H' ⟨_, _, gs, ⟨g1, g2⟩, rfl, rfl, hrt⟩
      refine hK4 _ _ (zcx hp hrt ?_)
      clear hrt
      refine zas fun K5 hK5 => ?_
      have hJ5 : ∀ τ' H', (∃ τ1 H1, ∃ (os : List Wire) (dr : List Int), (os.length = dr.length ∧ dr.length ≤ 9 ∧ DriveOk (2 + ws.length + gs.length) dr) ∧ H1 = [.cells (avs (rawC x)), .cells [.d (.val (.slice none 0 0)), .d (.val (.slice none 0 0)), .d (.val (.slice none 0 0)), .d (.val (.slice none 0 0))], .cells [.os 3 3 0 ws.length, .os 5 4 0 gs.length, .os 3 5 0 os.length, .os 1 6 0 dr.length], .cells (avs (ws.flatMap zg9)), .cells (avs (gs.flatMap zf3)), .cells (avs (os.flatMap zg9)), .cells (avs (dr.map iD))] ∧ τ1 = frL [(1, .op 0 0), (2, .op 1 0), (3, .op 2 0)] ∧ Rt [] τ' H' τ1 H1) → K5 τ' H' := by
        rintro τ' H' ⟨_, _, os, dr, ⟨ho, hd, hdr⟩, rfl, rfl, hrt⟩
        refine hK5 _ _ (zcx hp hrt ?_)
        clear hrt
        refine zas fun K6 hK6 => ?_
        refine zac hp zao hc rfl fun K7 hK7 => ?_
        simp -dsimp -implicitDefEqProofs (disch := first | assumption | omega | (simp [maxLen, zab, zaf, zad] <;> omega) | decide) only [zat, zb6, za1, zb8, zaj, zae, q_o, za8, zam, zay, lenF, zbe, zd9, ↓reduceIte, q_b, ifp, q_f, q_s, q_l, q_n, Nat.reduceEqDiff, zav, zap, zbp, Nat.reduceAdd, rawC, zuy, zkc, zkd, znp]
        refine hK7 _ _ ?_
        refine zau rfl (fun ht => ?_) (fun ht => ?_)
        · refine zac hp zao hc rfl fun K8 hK8 => ?_
          simp -dsimp -implicitDefEqProofs (disch := first | assumption | omega | (simp only [maxLen, List.length_replicate, eq_self, true_and, and_true, and_self, zab, List.length_map, List.length_append, List.length_cons, List.length_nil, List.length_set, List.length_range, List.length_take, List.length_drop, zaf, zad] <;> omega) | decide | fail) only [zat, zb6, zdd, zdw, zd6, zbu, zbd, zaj, zae, Option.map_some, za8, zam, zdx, layF, srcF, zb4, ↓reduceIte, Bool.false_eq_true, eq_self, ifp, ifn, zbi, zdq, zee, zc3, zdr, List.map_cons, List.map_nil, List.length_cons, List.length_nil, List.getElem?_cons_zero, List.getElem?_cons_succ, List.cons_append, List.nil_append, List.append_nil, List.set_cons_zero, List.set_cons_succ, List.replicate_zero, List.replicate_succ, List.all_cons, List.all_nil, zbv, zd7, zbn, zl1, zga, zgf, zd8, zds, AV.one, D.one, Value.oneCell', Bool.and_self, true_and, Nat.zero_add, Nat.reduceEqDiff, zab, zcv, zak, List.drop_zero, Nat.reduceAdd, List.nil_append, zbd, Nat.zero_mul, Nat.reduceMul, List.flatten_cons, List.flatten_nil, zuy, zkc, zkd, pa_86, zr9, zc_86, mk_38]
          refine hK8 _ _ ?_
          refine zcw hp zao hc rfl fun K9 hK9 => ?_
          simp -dsimp -implicitDefEqProofs (disch := first | assumption | omega | (simp [maxLen, zab, zaf, zad] <;> omega) | decide) only [zat, zb6, za1, zb8, zdw, zd6, zbu, zbd, zaj, zae, q_o, za8, zam, zay, lenF, zbe, layF, srcF, zb4, zcu, ↓reduceIte, q_b, ifp, ifn, q_f, q_s, q_l, List.append_nil, List.replicate_zero, List.replicate_succ, zbv, q_a, zbn, zga, q_n, Nat.reduceEqDiff, zab, zcv, zak, List.drop_zero, Nat.reduceAdd, zbd, List.length_map, fo_41_3, zfg, zfh, zgq, zkc, zkd, znp, zhe, znq, znr, zr2, zgp]
          refine hK9 _ _ (hK6 _ _ ?_)
          refine zac hp zao hc rfl fun K10 hK10 => ?_
          simp -dsimp -implicitDefEqProofs (disch := first | assumption | omega | (simp [maxLen, zab, zaf, zad] <;> omega) | decide) only [zat, zbu, zaj, zae, q_o, za8, zb4, ↓reduceIte, q_b, ifp, q_f, q_l, q_s, q_a, AV.one, q_n, Nat.reduceEqDiff, zak, Nat.reduceAdd, zes, zfi]
          refine hK10 _ _ ?_
          refine zbc ?_
          try dsimp only [zkw, zet]
          refine zg0 rfl ?_
          simp -dsimp -implicitDefEqProofs (disch := first | assumption | omega | (simp only [maxLen, List.length_replicate, eq_self, true_and, and_true, and_self, zab, List.length_map, List.length_append, List.length_cons, List.length_nil, List.length_set, List.length_range, List.length_take, List.length_drop, zaf, zad] <;> omega) | decide | fail) only [zae, Option.map_some, za8, ↓reduceIte, eq_self, ifp, zbi, List.length_cons, List.length_nil, List.getElem?_cons_zero, List.getElem?_cons_succ, Nat.zero_add, Nat.reduceEqDiff, zak, Nat.reduceAdd, zes, zfi]
          show ∃ r, za7 _ _ = some r ∧ _
          simp (disch := first | assumption | omega | (simp only [maxLen, List.length_replicate, eq_self, true_and, and_true, and_self, zab, List.length_map, List.length_append, List.length_cons, List.length_nil, List.length_set, List.length_range, List.length_take, List.length_drop, zaf, zad] <;> omega) | decide | fail) only [List.map_cons, List.map_nil, za7, zek, zc2, zb5, zb0, zcn, zcf, zc7, Nat.reduceAdd, Nat.zero_add, zak, zo9, D.fix, Option.map_some, Option.bind_some, Nat.mul_one, List.getElem?_cons_zero, List.getElem?_cons_succ, List.length_cons, List.length_nil, gate_fix, wire_fix, List.map_append]
          have h0 : os = [] := List.eq_nil_of_length_eq_zero (by simp at ht; simpa using ht)
          have h1 : dr = [] := List.eq_nil_of_length_eq_zero (by rw [← ho, h0]; rfl)
          subst h0 h1
          refine ⟨_, rfl, ⟨ws, gs, [⟨1, 0, 0⟩], [1 + ws.length + gs.length]⟩, ⟨w1, w2, g1, g2, rfl, by simp, (zt3 _).snoc (by omega) (by simp only; omega), by simp⟩, rfl⟩
        · refine zbb (hK6 _ _ ?_)
          refine zac hp zao hc rfl fun K11 hK11 => ?_
          simp -dsimp -implicitDefEqProofs (disch := first | assumption | omega | (simp [maxLen, zab, zaf, zad] <;> omega) | decide) only [zat, zbu, zaj, zae, q_o, za8, zb4, ↓reduceIte, q_b, ifp, q_f, q_l, q_s, q_a, AV.one, q_n, Nat.reduceEqDiff, zak, Nat.reduceAdd, zes, zfi]
          refine hK11 _ _ ?_
          refine zbc ?_
          try dsimp only [zkw, zet]
          refine zg0 rfl ?_
          simp -dsimp -implicitDefEqProofs (disch := first | assumption | omega | (simp [maxLen, zab, zaf, zad] <;> omega) | decide) only [zae, q_o, za8, ↓reduceIte, q_b, ifp, q_f, q_l, q_n, Nat.reduceEqDiff, zak, Nat.reduceAdd, zes, zfi]
          show ∃ r, za7 _ _ = some r ∧ _
          simp (disch := first | assumption | omega | (simp only [maxLen, List.length_replicate, eq_self, true_and, and_true, and_self, zab, List.length_map, List.length_append, List.length_cons, List.length_nil, List.length_set, List.length_range, List.length_take, List.length_drop, zaf, zad] <;> omega) | decide | fail) only [za7, zek, zc2, zb5, zb0, zcn, zcf, zc7, Nat.reduceAdd, Nat.zero_add, zak, zo9, Option.map_some, Option.bind_some, Nat.mul_one, List.getElem?_cons_zero, List.getElem?_cons_succ, List.length_cons, List.length_nil, gate_fix, wire_fix]
          have h0 : ¬ os.length = 0 := by simpa using ht
          refine ⟨_, rfl, ⟨ws, gs, os, dr⟩, ⟨w1, w2, g1, g2, ho, hd, hdr, by simp only; omega⟩, ?_⟩
          simp [netD, netC, zbw, zbx, zbj]
      refine zac hp zao hc rfl fun K12 hK12 => ?_
      simp -dsimp -implicitDefEqProofs (disch := first | assumption | omega | (simp [maxLen, zab, zaf, zad] <;> omega) | decide) only [zag, zaj, q_f, zav, zap, zbp, rawC]
      refine hK12 _ _ ?_
      refine zbg ?_
      refine zby hp (fun τ' H' mm => ∃ (k : Nat) (os : List Wire) (dr : List Int), (k ≤ 9 ∧ os.length = k ∧ dr.length = k ∧ DriveOk (2 + ws.length + gs.length) dr) ∧ mm = 9 - k ∧ H' = [.cells (avs (rawC x)), .cells [.d (.val (.slice none 0 0)), .d (.val (.slice none 0 0)), .d (.val (.slice none 0 0)), .d (.val (.slice none 0 0))], .cells [.os 3 3 0 ws.length, .os 5 4 0 gs.length, .os 3 5 0 os.length, .os 1 6 0 dr.length], .cells (avs (ws.flatMap zg9)), .cells (avs (gs.flatMap zf3)), .cells (avs (os.flatMap zg9)), .cells (avs (dr.map iD))] ∧ τ' = frL [(1, .op 0 0), (2, .op 1 0), (3, .op 2 0), (10, .d (iD k))]) (9) ?_ ⟨0, [], [], ⟨by omega, rfl, rfl, zt3 _⟩, rfl, rfl, rfl⟩ ?_
      · refine Rt.trans (Rt.nilc 2 2 3 rfl rfl) ?_
        refine Rt.trans (Rt.nilc 2 3 1 rfl rfl) ?_
        refine Rt.end (zaa (zaa (zaa (zaa (zaq _) rfl) rfl) rfl) rfl) ?_
        first | rfl | (simp only [zbj, za9, zbp, zbt, zbm, gcH, zb1, zcb, zcc, gc_m, fz_m, zaz, gcVs, gcV, zcy, fzH, zc0, zb9, zcd, zbl, Nat.reduceAdd, fzVs, fzV, posN, zav, zap, List.map_cons, List.map_nil, List.getD_cons_zero, List.getD_cons_succ, ↓reduceIte, Nat.reduceEqDiff, Option.map_some, List.set_cons_zero, List.set_cons_succ, zba, zak, Nat.mul_one, List.length_map, List.cons_append, List.nil_append, rawC, zg9, zf3, r5C, r4C, zkf, zk6]; first | done | rfl)
      rintro τ' H' mm ⟨k, os, dr, ⟨hk, ho, hd, hdr⟩, rfl, rfl, rfl⟩
      refine zas fun K13 hK13 => ?_
      refine zac hp zao hc rfl fun K14 hK14 => ?_
      by_cases q : (k : Int) < x.out.length
      · simp -dsimp -implicitDefEqProofs (disch := first | assumption | omega | (simp [maxLen, zab, zaf, zad] <;> omega) | decide) only [zal, zbq, zat, zb6, za1, zb8, zaj, sT_g, zae, gK_t, q_o, za8, zam, zay, lenF, zbe, zcz, ↓reduceIte, q_b, ifp, zar, zck, q_f, q_s, q_l, q_n, Nat.reduceEqDiff, zav, zap, iD, zbp, Nat.reduceAdd, rawC, q, decide_true, zm5, sz_24, ag_24, eo_24]
        refine hK14 _ _ ?_
        refine zau rfl (fun ht => ?_) (fun ht => ?_)
        · have hlt : k < 9 := by simp at ht; omega
          have hl : k < x.out.length := by omega
          obtain ⟨⟨a0, a1⟩, ⟨b0, b1⟩, ⟨c0, c1⟩, ⟨d0, d1⟩⟩ := hx.out k hl
          have hn := and1023 (1 + ws.length + gs.length - (nth x.out k).d)
          have hpos : (0 : Int) < 2 + ws.length + gs.length := by omega
          have hm0 := Int.emod_nonneg (bitV .and .i64 (1 + ws.length + gs.length - (nth x.out k).d) 1023) (Int.ne_of_gt hpos)
          have hm1 := Int.emod_lt_of_pos (bitV .and .i64 (1 + ws.length + gs.length - (nth x.out k).d) 1023) hpos
          refine zbb (hK13 _ _ ?_)
          refine zas fun K15 hK15 => ?_
          refine zbg ?_
          refine zac hp zao hc rfl fun K16 hK16 => ?_
          simp -dsimp -implicitDefEqProofs (disch := first | assumption | omega | (simp [maxLen, zab, zaf, zad] <;> omega) | decide) only [zal, zat, zb6, zdo, zcm, zbu, zbd, zaj, zae, q_o, za8, zam, ixO, za2, layF, zb4, ↓reduceIte, q_b, ifp, q_f, q_s, q_l, zca, q_a, D.one, Value.oneCell', Int.toNat_natCast, q_n, Nat.reduceEqDiff, zdk, zav, zap, bD, Nat.reduceAdd, zbd, r4C, r4_row, zm5, sz_24, ag_24, eo_24, sz_88, ag_88, za_88]
          refine hK16 _ _ ?_
          refine zcs zao hc mixed rfl (q := 2) (by kernel_rfl) (by kernel_rfl) fun K17 hK17 => ?_
          simp -dsimp -implicitDefEqProofs (disch := first | assumption | omega | (simp [maxLen, zab, zaf, zad] <;> omega) | decide) only [zcq, ze2, zdt, zi7, zi8, zfp, zrp, ze3, zc4, zae, q_o, za8, ixO, za2, zay, zgx, zdx, layF, zdl, zb4, zix, ↓reduceIte, q_b, ifp, ifn, q_f, q_s, q_l, List.replicate_zero, List.replicate_succ, zbv, q_a, zbn, AV.one, D.one, Value.oneCell', and_true, q_n, Nat.reduceEqDiff, shB, appB, killAll, zdk, zav, zap, zh2, Nat.reduceAdd, zdl, frzF, zjs, Int.toNat_zero, Int.reduceToNat, kinds_get, zea, zgp, eo_88, sz_5, ag_5, ik_5, sz_3, ag_3, ik_3, pa_86, zr9, pl_86_1, pl_86_2, sz_86, za_86, zc_86]
          refine hK17 _ _ ?_
          refine zac hp zao hc rfl fun K18 hK18 => ?_
          simp -dsimp -implicitDefEqProofs (disch := first | assumption | omega | (simp only [maxLen, List.length_replicate, eq_self, true_and, and_true, and_self, zab, List.length_map, List.length_append, List.length_cons, List.length_nil, List.length_set, List.length_range, List.length_take, List.length_drop, zaf, zad] <;> omega) | decide | fail) only [zat, zb6, zdw, zd6, zbu, zbd, zaj, zae, Option.map_some, za8, zam, layF, srcF, zb4, ↓reduceIte, Bool.false_eq_true, eq_self, ifp, ifn, zbi, zdq, zee, zc3, List.map_cons, List.map_nil, List.length_cons, List.length_nil, List.getElem?_cons_zero, List.getElem?_cons_succ, List.cons_append, List.nil_append, List.append_nil, List.set_cons_zero, List.set_cons_succ, List.replicate_zero, List.replicate_succ, List.all_cons, List.all_nil, zbv, zd7, zbn, zga, zgf, zd8, zds, AV.one, D.one, Value.oneCell', Bool.and_self, true_and, Nat.zero_add, Nat.reduceEqDiff, zab, zcv, zak, List.drop_zero, Nat.reduceAdd, List.nil_append, zbd, Nat.zero_mul, Nat.reduceMul, List.flatten_cons, List.flatten_nil, zuy, zkc, zkd, sz_86, ag_86, mk_38]
          refine hK18 _ _ ?_
          refine zv7 zao hc mixed rfl (q := 2) (by kernel_rfl) (by kernel_rfl) fun K19 hK19 => ?_
          simp -dsimp -implicitDefEqProofs (disch := first | assumption | omega | (simp [maxLen, zab, zaf, zad] <;> omega) | decide) only [zcq, zem, ze2, zdt, zi7, zl4, zrp, zo7, ze3, zc4, zae, q_o, za8, zam, ixO, za2, zay, zgx, lenF, zbe, layF, zdl, srcF, zb4, zcu, zg7, zix, zuo, ↓reduceIte, q_b, ifp, ifn, q_f, q_s, q_l, List.append_nil, List.replicate_zero, List.replicate_succ, zbv, q_a, zbn, zga, and_true, q_n, Nat.reduceEqDiff, shB, appB, zgy, zhw, killAll, zjr, zab, zcv, List.drop_zero, zh2, Nat.reduceAdd, List.length_map, zdl, frzF, zjs, Int.reduceToNat, Nat.reduceBNe, List.filterMap_nil, fo_41_3, zfg, zfh, zgq, zkc, zkd, znp, ik_3, zhe, znq, znr, zr2, eo_88, sz_5, ag_5, ik_5, zgp]
          refine hK19 _ _ (hK15 _ _ ?_)
          refine zcw hp zao hc rfl fun K20 hK20 => ?_
          simp -dsimp -implicitDefEqProofs (disch := first | assumption | omega | (simp [maxLen, zab, zaf, zad] <;> omega) | decide) only [zal, zag, za1, zaj, zae, q_o, zay, zcu, ↓reduceIte, q_b, q_f, Nat.reduceEqDiff]
          refine hK20 _ _ ⟨_, _, _, ?_, ⟨k + 1, os ++ [⟨nth [1, 5, 6, 7, 8, 9, 10] ((nth x.out k).a % 7).toNat, (nth x.out k).b % 3, (nth x.out k).c % 3⟩], dr ++ [bitV .and .i64 (1 + ws.length + gs.length - (nth x.out k).d) 1023 % (2 + ws.length + gs.length)], ⟨by omega, by simp [ho], by simp [hd], hdr.snoc hm0 (by omega)⟩, rfl, rfl, rfl⟩, ?_⟩
          · first | omega | (simp only [List.length_cons]; omega) | (dsimp only; omega)
          · refine Rt.trans (Rt.gc (keep := [0,1,2,3,4,11,13]) (by decide) (by decide) (by simp [])) ?_
            refine Rt.end (zaa (zaa (zaa (zaa (zaq _) rfl) rfl) rfl) rfl) ?_
            simp only [zbp, gcH, zb1, zaz, gcVs, gcV, Nat.reduceAdd, posN, zav, zap, List.map_cons, List.map_nil, List.getD_cons_zero, List.getD_cons_succ, ↓reduceIte, Nat.reduceEqDiff, Option.map_some, rawC]; simp [zg9, iD]
        · refine zcl (hJ5 _ _ ⟨_, _, os, dr, ⟨by omega, by omega, hdr⟩, rfl, rfl, ?_⟩)
          refine Rt.end (zaa (zaa (zaa (zaq _) rfl) rfl) rfl) ?_
          first | rfl | (simp only [zbj, za9, zbp, zbt, zbm, gcH, zb1, zcb, zcc, gc_m, fz_m, zaz, gcVs, gcV, zcy, fzH, zc0, zb9, zcd, zbl, Nat.reduceAdd, fzVs, fzV, posN, zav, zap, List.map_cons, List.map_nil, List.getD_cons_zero, List.getD_cons_succ, ↓reduceIte, Nat.reduceEqDiff, Option.map_some, List.set_cons_zero, List.set_cons_succ, zba, zak, Nat.mul_one, List.length_map, List.cons_append, List.nil_append, rawC, zg9, zf3, r5C, r4C, zkf, zk6]; first | done | rfl)
      · simp -dsimp -implicitDefEqProofs (disch := first | assumption | omega | (simp [maxLen, zab, zaf, zad] <;> omega) | decide) only [zal, zbq, zat, zb6, za1, zb8, zaj, sT_g, zae, gK_f, q_o, za8, zam, zay, lenF, zbe, zcz, ↓reduceIte, q_b, ifp, zar, zck, q_f, q_s, q_l, q_n, Nat.reduceEqDiff, zav, zap, iD, zbp, Nat.reduceAdd, rawC, q, decide_false, zm5, sz_24, ag_24, eo_24]
        refine hK14 _ _ ?_
        refine zau rfl (fun ht => ?_) (fun ht => ?_)
        · cases ht
        · refine zcl (hJ5 _ _ ⟨_, _, os, dr, ⟨by omega, by omega, hdr⟩, rfl, rfl, ?_⟩)
          refine Rt.end (zaa (zaa (zaa (zaq _) rfl) rfl) rfl) ?_
          first | rfl | (simp only [zbj, za9, zbp, zbt, zbm, gcH, zb1, zcb, zcc, gc_m, fz_m, zaz, gcVs, gcV, zcy, fzH, zc0, zb9, zcd, zbl, Nat.reduceAdd, fzVs, fzV, posN, zav, zap, List.map_cons, List.map_nil, List.getD_cons_zero, List.getD_cons_succ, ↓reduceIte, Nat.reduceEqDiff, Option.map_some, List.set_cons_zero, List.set_cons_succ, zba, zak, Nat.mul_one, List.length_map, List.cons_append, List.nil_append, rawC, zg9, zf3, r5C, r4C, zkf, zk6]; first | done | rfl)
    refine zac hp zao hc rfl fun K21 hK21 => ?_
    simp -dsimp -implicitDefEqProofs (disch := first | assumption | omega | (simp [maxLen, zab, zaf, zad] <;> omega) | decide) only [zag, zaj, q_f, zav, zap, zbp, rawC]
    refine hK21 _ _ ?_
    refine zbg ?_
    refine zby hp (fun τ' H' mm => ∃ (k : Nat) (gs : List Gate), (k ≤ 60 ∧ gs.length = k ∧ GatesOk (2 + ws.length) gs) ∧ mm = 60 - k ∧ H' = [.cells (avs (rawC x)), .cells [.d (.val (.slice none 0 0)), .d (.val (.slice none 0 0)), .d (.val (.slice none 0 0)), .d (.val (.slice none 0 0))], .cells [.os 3 3 0 ws.length, .os 5 4 0 gs.length, .d (.val (.slice none 0 0)), .d (.val (.slice none 0 0))], .cells (avs (ws.flatMap zg9)), .cells (avs (gs.flatMap zf3))] ∧ τ' = frL [(1, .op 0 0), (2, .op 1 0), (3, .op 2 0), (6, .d (iD k))]) (60) ?_ ⟨0, [], ⟨by omega, rfl, gates_nil _⟩, rfl, rfl, rfl⟩ ?_
    · refine Rt.trans (Rt.nilc 2 1 5 rfl rfl) ?_
      refine Rt.end (zaa (zaa (zaa (zaa (zaq _) rfl) rfl) rfl) rfl) ?_
      first | rfl | (simp only [zbj, za9, zbp, zbt, zbm, gcH, zb1, zcb, zcc, gc_m, fz_m, zaz, gcVs, gcV, zcy, fzH, zc0, zb9, zcd, zbl, Nat.reduceAdd, fzVs, fzV, posN, zav, zap, List.map_cons, List.map_nil, List.getD_cons_zero, List.getD_cons_succ, ↓reduceIte, Nat.reduceEqDiff, Option.map_some, List.set_cons_zero, List.set_cons_succ, zba, zak, Nat.mul_one, List.length_map, List.cons_append, List.nil_append, rawC, zg9, zf3, r5C, r4C, zkf, zk6]; first | done | rfl)
    rintro τ' H' mm ⟨k, gs, ⟨hk, hw, hgs⟩, rfl, rfl, rfl⟩
    refine zas fun K22 hK22 => ?_
    refine zac hp zao hc rfl fun K23 hK23 => ?_
    by_cases q : (k : Int) < x.gates.length
    · simp -dsimp -implicitDefEqProofs (disch := first | assumption | omega | (simp [maxLen, zab, zaf, zad] <;> omega) | decide) only [zal, zbq, zat, zb6, za1, zb8, zaj, sT_g, zae, gK_t, q_o, za8, zam, zay, lenF, zbe, zcz, ↓reduceIte, q_b, ifp, zar, zck, q_f, q_s, q_l, q_n, Nat.reduceEqDiff, zav, zap, iD, zbp, Nat.reduceAdd, rawC, q, decide_true, zm4, sz_23, ag_23, eo_23]
      refine hK23 _ _ ?_
      refine zau rfl (fun ht => ?_) (fun ht => ?_)
      · have hlt : k < 60 := by simp at ht; omega
        have hl : k < x.gates.length := by omega
        obtain ⟨⟨a0, a1⟩, ⟨b0, b1⟩, ⟨c0, c1⟩, ⟨d0, d1⟩, ⟨e0, e1⟩⟩ := hx.gates k hl
        refine zbb (hK22 _ _ ?_)
        refine zas fun K24 hK24 => ?_
        refine zbg ?_
        refine zcs zao hc mixed rfl (q := 1) (by kernel_rfl) (by kernel_rfl) fun K25 hK25 => ?_
        simp -dsimp -implicitDefEqProofs (disch := first | assumption | omega | (simp [maxLen, zab, zaf, zad] <;> omega) | decide) only [zco, zdh, zcq, zem, ze2, zdt, zl4, zfp, ze3, zc4, zae, q_o, za8, zam, ixO, za2, zay, lenF, zbe, layF, zdl, zb4, zcu, ↓reduceIte, q_b, ifp, q_f, q_s, q_l, List.replicate_zero, List.replicate_succ, zca, q_a, D.one, Value.oneCell', and_self, Int.toNat_natCast, q_n, Nat.reduceEqDiff, shB, appB, killAll, zdk, zav, zap, bD, Nat.reduceAdd, zdl, frzF, r5C, r5_row, zm4, sz_23, ag_23, eo_23, sz_87, ag_87, zgq, zkc, zkd, znp, za_87]
        refine hK25 _ _ ?_
        refine zcs zao hc mixed rfl (q := 1) (by kernel_rfl) (by kernel_rfl) fun K26 hK26 => ?_
        simp -dsimp -implicitDefEqProofs (disch := first | assumption | omega | (simp [maxLen, zab, zaf, zad] <;> omega) | decide) only [zco, zcq, ze2, zdt, zi7, zi8, zfp, ze3, zc4, zae, q_o, za8, ixO, za2, zay, zgx, zdx, layF, zdl, zb4, zcu, zix, ↓reduceIte, q_b, ifp, ifn, q_f, q_s, q_l, List.replicate_zero, List.replicate_succ, q_a, zbn, AV.one, D.one, Value.oneCell', q_n, Nat.reduceEqDiff, shB, appB, killAll, zdk, zav, zap, zh2, Nat.reduceAdd, zdl, frzF, Int.toNat_zero, Int.reduceToNat, eo_87, sz_5, ag_5, ik_5, ik_3, pa_64, pl_64_0, pl_64_1, zr4, za_64, zc_64]
        refine hK26 _ _ ?_
        refine zas fun K27 hK27 => ?_
        refine zac hp zao hc rfl fun K28 hK28 => ?_
        simp -dsimp -implicitDefEqProofs (disch := first | assumption | omega | (simp [maxLen, zab, zaf, zad] <;> omega) | decide) only [zat, zb6, za1, zaj, zae, q_o, za8, zam, zay, zff, ↓reduceIte, q_b, ifp, q_f, q_l, q_n, Nat.reduceAdd, zke, sz_3, ag_3]
        refine hK28 _ _ ?_
        refine zau rfl (fun ht => ?_) (fun ht => ?_)
        · have f1 : ¬ 1 + (nth x.gates k).a % 7 = 1 := by simpa using ht
          refine zcw hp zao hc rfl fun K29 hK29 => ?_
          simp -dsimp -implicitDefEqProofs (disch := first | assumption | omega | (simp [maxLen, zab, zaf, zad] <;> omega) | decide) only [zal, zat, zb6, zdo, za1, ze8, zbu, zaj, zae, q_o, za8, zam, ixO, za2, zay, zgx, zb4, zix, ↓reduceIte, q_b, ifp, q_f, q_l, q_s, q_a, q_n, Nat.reduceEqDiff, zh2, Nat.reduceAdd, Int.reduceToNat, eo_87, sz_5, ag_5, ik_5, sz_3, ik_3, zr5]
          refine hK29 _ _ (hK27 _ _ ?_)
          refine zas fun K30 hK30 => ?_
          refine zac hp zao hc rfl fun K31 hK31 => ?_
          simp -dsimp -implicitDefEqProofs (disch := first | assumption | omega | (simp [maxLen, zab, zaf, zad] <;> omega) | decide) only [zat, zb6, za1, zaj, zae, q_o, za8, zam, zay, zeb, ↓reduceIte, q_b, ifp, q_f, q_l, q_n, Nat.reduceEqDiff, Nat.reduceAdd, zke, sz_3, ag_3]
          refine hK31 _ _ ?_
          refine zau rfl (fun ht => ?_) (fun ht => ?_)
          · have f2 : 5 ≤ 1 + (nth x.gates k).a % 7 := by simpa using ht
            refine zcw hp zao hc rfl fun K32 hK32 => ?_
            simp -dsimp -implicitDefEqProofs (disch := first | assumption | omega | (simp [maxLen, zab, zaf, zad] <;> omega) | decide) only [zal, zat, zb6, zdo, za1, ze8, zbu, zaj, zae, q_o, za8, zam, ixO, za2, zay, zgx, zb4, zix, ↓reduceIte, q_b, ifp, q_f, q_l, q_s, q_a, q_n, Nat.reduceEqDiff, zh2, Nat.reduceAdd, Int.reduceToNat, eo_87, sz_5, ag_5, ik_5, sz_3, ik_3, zr6]
            refine hK32 _ _ (hK30 _ _ ?_)
            refine zas fun K33 hK33 => ?_
            refine zac hp zao hc rfl fun K34 hK34 => ?_
            simp -dsimp -implicitDefEqProofs (disch := first | assumption | omega | (simp [maxLen, zab, zaf, zad] <;> omega) | decide) only [zat, zb6, za1, zaj, zae, q_o, za8, zam, zay, zd9, ↓reduceIte, q_b, ifp, q_f, q_l, q_n, Nat.reduceEqDiff, Nat.reduceAdd, zke, sz_3, ag_3]
            refine hK34 _ _ ?_
            refine zau rfl (fun ht => ?_) (fun ht => ?_)
            · have f3 : 1 + (nth x.gates k).a % 7 = 7 := by simpa using ht
              refine zcw hp zao hc rfl fun K35 hK35 => ?_
              simp -dsimp -implicitDefEqProofs (disch := first | assumption | omega | (simp [maxLen, zab, zaf, zad] <;> omega) | decide) only [zat, zb6, zdo, za1, ze8, zbu, zaj, zae, q_o, za8, zam, ixO, za2, zay, zgx, zb4, zcu, znl, zix, ↓reduceIte, q_b, ifp, q_f, q_l, q_s, q_a, q_n, Nat.reduceEqDiff, zh2, zl5, Nat.reduceAdd, Int.reduceToNat, eo_87, sz_5, ag_5, ik_5, sz_3, ik_3, zu2]
              refine hK35 _ _ (hK33 _ _ ?_)
              refine zcw hp zao hc rfl fun K36 hK36 => ?_
              simp -dsimp -implicitDefEqProofs (disch := first | assumption | omega | (simp only [maxLen, List.length_replicate, eq_self, true_and, and_true, and_self, zab, List.length_map, List.length_append, List.length_cons, List.length_nil, List.length_set, List.length_range, List.length_take, List.length_drop, zaf, zad] <;> omega) | decide | fail) only [zat, zb6, zdw, zd6, zbu, zbd, zaj, zae, Option.map_some, za8, zam, layF, srcF, zb4, ↓reduceIte, Bool.false_eq_true, eq_self, ifp, ifn, zbi, zdq, zee, zc3, List.map_cons, List.map_nil, List.length_cons, List.length_nil, List.getElem?_cons_zero, List.getElem?_cons_succ, List.cons_append, List.nil_append, List.append_nil, List.set_cons_zero, List.set_cons_succ, List.replicate_zero, List.replicate_succ, List.all_cons, List.all_nil, zbv, zd7, zbn, zga, zgf, zd8, zds, AV.one, D.one, Value.oneCell', Bool.and_self, true_and, Nat.zero_add, Nat.reduceEqDiff, zab, zcv, zak, List.drop_zero, Nat.reduceAdd, List.nil_append, zbd, Nat.zero_mul, Nat.reduceMul, List.flatten_cons, List.flatten_nil, zhe, znq, znr, zr4, ztr, mk_39]
              refine hK36 _ _ (hK24 _ _ ?_)
              refine zcw hp zao hc rfl fun K37 hK37 => ?_
              simp -dsimp -implicitDefEqProofs (disch := first | assumption | omega | (simp [maxLen, zab, zaf, zad] <;> omega) | decide) only [zal, zag, za1, zaj, zae, q_o, zay, zcu, ↓reduceIte, q_b, q_f, Nat.reduceEqDiff]
              refine hK37 _ _ ⟨_, _, _, ?_, ⟨k + 1, gs ++ [⟨1 + (nth x.gates k).a % 7, (nth x.gates k).b % (2 + ws.length + k), (nth x.gates k).c % (2 + ws.length + k), (nth x.gates k).d % (2 + ws.length + k), 8 * ((nth x.gates k).e % 3) + (nth x.gates k).e / 3 % 2⟩], ⟨by omega, by simp [hw], hgs.snoc (mkG hw a0 a1 b0 b1 c0 c1 d0 d1 e0 e1 (.inr rfl) (.inr rfl) (.inr rfl))⟩, rfl, rfl, rfl⟩, ?_⟩
              · first | omega | (simp only [List.length_cons]; omega) | (dsimp only; omega)
              · refine Rt.trans (Rt.gc (keep := [0,1,2,3,8]) (by decide) (by decide) (by simp [])) ?_
                refine Rt.end (zaa (zaa (zaa (zaa (zaq _) rfl) rfl) rfl) rfl) ?_
                simp only [zbp, gcH, zb1, zaz, gcVs, gcV, Nat.reduceAdd, posN, zav, zap, List.map_cons, List.map_nil, List.getD_cons_zero, List.getD_cons_succ, ↓reduceIte, Nat.reduceEqDiff, Option.map_some, rawC]; simp [zf3, iD]
            · have f3 : ¬ 1 + (nth x.gates k).a % 7 = 7 := by simpa using ht
              refine zbb (hK33 _ _ ?_)
              refine zcw hp zao hc rfl fun K38 hK38 => ?_
              simp -dsimp -implicitDefEqProofs (disch := first | assumption | omega | (simp only [maxLen, List.length_replicate, eq_self, true_and, and_true, and_self, zab, List.length_map, List.length_append, List.length_cons, List.length_nil, List.length_set, List.length_range, List.length_take, List.length_drop, zaf, zad] <;> omega) | decide | fail) only [zat, zb6, zdw, zd6, zbu, zbd, zaj, zae, Option.map_some, za8, zam, layF, srcF, zb4, ↓reduceIte, Bool.false_eq_true, eq_self, ifp, ifn, zbi, zdq, zee, zc3, List.map_cons, List.map_nil, List.length_cons, List.length_nil, List.getElem?_cons_zero, List.getElem?_cons_succ, List.cons_append, List.nil_append, List.append_nil, List.set_cons_zero, List.set_cons_succ, List.replicate_zero, List.replicate_succ, List.all_cons, List.all_nil, zbv, zd7, zbn, zga, zgf, zd8, zds, AV.one, D.one, Value.oneCell', Bool.and_self, true_and, Nat.zero_add, Nat.reduceEqDiff, zab, zcv, zak, List.drop_zero, Nat.reduceAdd, List.nil_append, zbd, Nat.zero_mul, Nat.reduceMul, List.flatten_cons, List.flatten_nil, zhe, znq, znr, zr4, ztr, mk_39]
              refine hK38 _ _ (hK24 _ _ ?_)
              refine zcw hp zao hc rfl fun K39 hK39 => ?_
              simp -dsimp -implicitDefEqProofs (disch := first | assumption | omega | (simp [maxLen, zab, zaf, zad] <;> omega) | decide) only [zal, zag, za1, zaj, zae, q_o, zay, zcu, ↓reduceIte, q_b, q_f, Nat.reduceEqDiff]
              refine hK39 _ _ ⟨_, _, _, ?_, ⟨k + 1, gs ++ [⟨1 + (nth x.gates k).a % 7, (nth x.gates k).b % (2 + ws.length + k), (nth x.gates k).c % (2 + ws.length + k), (nth x.gates k).d % (2 + ws.length + k), 0⟩], ⟨by omega, by simp [hw], hgs.snoc (mkG hw a0 a1 b0 b1 c0 c1 d0 d1 e0 e1 (.inr rfl) (.inr rfl) (.inl rfl))⟩, rfl, rfl, rfl⟩, ?_⟩
              · first | omega | (simp only [List.length_cons]; omega) | (dsimp only; omega)
              · refine Rt.trans (Rt.gc (keep := [0,1,2,3,8]) (by decide) (by decide) (by simp [])) ?_
                refine Rt.end (zaa (zaa (zaa (zaa (zaq _) rfl) rfl) rfl) rfl) ?_
                simp only [zbp, gcH, zb1, zaz, gcVs, gcV, Nat.reduceAdd, posN, zav, zap, List.map_cons, List.map_nil, List.getD_cons_zero, List.getD_cons_succ, ↓reduceIte, Nat.reduceEqDiff, Option.map_some, rawC]; simp [zf3, iD]
          · have f2 : ¬ 5 ≤ 1 + (nth x.gates k).a % 7 := by simpa using ht
            refine zbb (hK30 _ _ ?_)
            refine zas fun K40 hK40 => ?_
            refine zac hp zao hc rfl fun K41 hK41 => ?_
            simp -dsimp -implicitDefEqProofs (disch := first | assumption | omega | (simp [maxLen, zab, zaf, zad] <;> omega) | decide) only [zat, zb6, za1, zaj, zae, q_o, za8, zam, zay, zd9, ↓reduceIte, q_b, ifp, q_f, q_l, q_n, Nat.reduceEqDiff, Nat.reduceAdd, zke, sz_3, ag_3]
            refine hK41 _ _ ?_
            refine zau rfl (fun ht => ?_) (fun ht => ?_)
            · exfalso
              simp at ht
              omega
            · refine zbb (hK40 _ _ ?_)
              refine zcw hp zao hc rfl fun K42 hK42 => ?_
              simp -dsimp -implicitDefEqProofs (disch := first | assumption | omega | (simp only [maxLen, List.length_replicate, eq_self, true_and, and_true, and_self, zab, List.length_map, List.length_append, List.length_cons, List.length_nil, List.length_set, List.length_range, List.length_take, List.length_drop, zaf, zad] <;> omega) | decide | fail) only [zat, zb6, zdw, zd6, zbu, zbd, zaj, zae, Option.map_some, za8, zam, layF, srcF, zb4, ↓reduceIte, Bool.false_eq_true, eq_self, ifp, ifn, zbi, zdq, zee, zc3, List.map_cons, List.map_nil, List.length_cons, List.length_nil, List.getElem?_cons_zero, List.getElem?_cons_succ, List.cons_append, List.nil_append, List.append_nil, List.set_cons_zero, List.set_cons_succ, List.replicate_zero, List.replicate_succ, List.all_cons, List.all_nil, zbv, zd7, zbn, zga, zgf, zd8, zds, AV.one, D.one, Value.oneCell', Bool.and_self, true_and, Nat.zero_add, Nat.reduceEqDiff, zab, zcv, zak, List.drop_zero, Nat.reduceAdd, List.nil_append, zbd, Nat.zero_mul, Nat.reduceMul, List.flatten_cons, List.flatten_nil, zhe, znq, znr, zr4, ztr, mk_39]
              refine hK42 _ _ (hK24 _ _ ?_)
              refine zcw hp zao hc rfl fun K43 hK43 => ?_
              simp -dsimp -implicitDefEqProofs (disch := first | assumption | omega | (simp [maxLen, zab, zaf, zad] <;> omega) | decide) only [zal, zag, za1, zaj, zae, q_o, zay, zcu, ↓reduceIte, q_b, q_f, Nat.reduceEqDiff]
              refine hK43 _ _ ⟨_, _, _, ?_, ⟨k + 1, gs ++ [⟨1 + (nth x.gates k).a % 7, (nth x.gates k).b % (2 + ws.length + k), (nth x.gates k).c % (2 + ws.length + k), 0, 0⟩], ⟨by omega, by simp [hw], hgs.snoc (mkG hw a0 a1 b0 b1 c0 c1 d0 d1 e0 e1 (.inr rfl) (.inl rfl) (.inl rfl))⟩, rfl, rfl, rfl⟩, ?_⟩
              · first | omega | (simp only [List.length_cons]; omega) | (dsimp only; omega)
              · refine Rt.trans (Rt.gc (keep := [0,1,2,3,8]) (by decide) (by decide) (by simp [])) ?_
                refine Rt.end (zaa (zaa (zaa (zaa (zaq _) rfl) rfl) rfl) rfl) ?_
                simp only [zbp, gcH, zb1, zaz, gcVs, gcV, Nat.reduceAdd, posN, zav, zap, List.map_cons, List.map_nil, List.getD_cons_zero, List.getD_cons_succ, ↓reduceIte, Nat.reduceEqDiff, Option.map_some, rawC]; simp [zf3, iD]
        · have f1 : 1 + (nth x.gates k).a % 7 = 1 := by simpa using ht
          refine zbb (hK27 _ _ ?_)
          refine zas fun K44 hK44 => ?_
          refine zac hp zao hc rfl fun K45 hK45 => ?_
          simp -dsimp -implicitDefEqProofs (disch := first | assumption | omega | (simp [maxLen, zab, zaf, zad] <;> omega) | decide) only [zat, zb6, za1, zaj, zae, q_o, za8, zam, zay, zeb, ↓reduceIte, q_b, ifp, q_f, q_l, q_n, Nat.reduceEqDiff, Nat.reduceAdd, zke, sz_3, ag_3]
          refine hK45 _ _ ?_
          refine zau rfl (fun ht => ?_) (fun ht => ?_)
          · exfalso
            simp at ht
            omega
          · refine zbb (hK44 _ _ ?_)
            refine zas fun K46 hK46 => ?_
            refine zac hp zao hc rfl fun K47 hK47 => ?_
            simp -dsimp -implicitDefEqProofs (disch := first | assumption | omega | (simp [maxLen, zab, zaf, zad] <;> omega) | decide) only [zat, zb6, za1, zaj, zae, q_o, za8, zam, zay, zd9, ↓reduceIte, q_b, ifp, q_f, q_l, q_n, Nat.reduceEqDiff, Nat.reduceAdd, zke, sz_3, ag_3]
            refine hK47 _ _ ?_
            refine zau rfl (fun ht => ?_) (fun ht => ?_)
            · exfalso
              simp at ht
              omega
            · refine zbb (hK46 _ _ ?_)
              refine zcw hp zao hc rfl fun K48 hK48 => ?_
              simp -dsimp -implicitDefEqProofs (disch := first | assumption | omega | (simp only [maxLen, List.length_replicate, eq_self, true_and, and_true, and_self, zab, List.length_map, List.length_append, List.length_cons, List.length_nil, List.length_set, List.length_range, List.length_take, List.length_drop, zaf, zad] <;> omega) | decide | fail) only [zat, zb6, zdw, zd6, zbu, zbd, zaj, zae, Option.map_some, za8, zam, layF, srcF, zb4, ↓reduceIte, Bool.false_eq_true, eq_self, ifp, ifn, zbi, zdq, zee, zc3, List.map_cons, List.map_nil, List.length_cons, List.length_nil, List.getElem?_cons_zero, List.getElem?_cons_succ, List.cons_append, List.nil_append, List.append_nil, List.set_cons_zero, List.set_cons_succ, List.replicate_zero, List.replicate_succ, List.all_cons, List.all_nil, zbv, zd7, zbn, zga, zgf, zd8, zds, AV.one, D.one, Value.oneCell', Bool.and_self, true_and, Nat.zero_add, Nat.reduceEqDiff, zab, zcv, zak, List.drop_zero, Nat.reduceAdd, List.nil_append, zbd, Nat.zero_mul, Nat.reduceMul, List.flatten_cons, List.flatten_nil, zhe, znq, znr, zr4, ztr, mk_39]
              refine hK48 _ _ (hK24 _ _ ?_)
              refine zcw hp zao hc rfl fun K49 hK49 => ?_
              simp -dsimp -implicitDefEqProofs (disch := first | assumption | omega | (simp [maxLen, zab, zaf, zad] <;> omega) | decide) only [zal, zag, za1, zaj, zae, q_o, zay, zcu, ↓reduceIte, q_b, q_f, Nat.reduceEqDiff]
              refine hK49 _ _ ⟨_, _, _, ?_, ⟨k + 1, gs ++ [⟨1 + (nth x.gates k).a % 7, (nth x.gates k).b % (2 + ws.length + k), 0, 0, 0⟩], ⟨by omega, by simp [hw], hgs.snoc (mkG hw a0 a1 b0 b1 c0 c1 d0 d1 e0 e1 (.inl rfl) (.inl rfl) (.inl rfl))⟩, rfl, rfl, rfl⟩, ?_⟩
              · first | omega | (simp only [List.length_cons]; omega) | (dsimp only; omega)
              · refine Rt.trans (Rt.gc (keep := [0,1,2,3,8]) (by decide) (by decide) (by simp [])) ?_
                refine Rt.end (zaa (zaa (zaa (zaa (zaq _) rfl) rfl) rfl) rfl) ?_
                simp only [zbp, gcH, zb1, zaz, gcVs, gcV, Nat.reduceAdd, posN, zav, zap, List.map_cons, List.map_nil, List.getD_cons_zero, List.getD_cons_succ, ↓reduceIte, Nat.reduceEqDiff, Option.map_some, rawC]; simp [zf3, iD]
      · refine zcl (hJ4 _ _ ⟨_, _, gs, ⟨by omega, hgs⟩, rfl, rfl, ?_⟩)
        refine Rt.end (zaa (zaa (zaa (zaq _) rfl) rfl) rfl) ?_
        first | rfl | (simp only [zbj, za9, zbp, zbt, zbm, gcH, zb1, zcb, zcc, gc_m, fz_m, zaz, gcVs, gcV, zcy, fzH, zc0, zb9, zcd, zbl, Nat.reduceAdd, fzVs, fzV, posN, zav, zap, List.map_cons, List.map_nil, List.getD_cons_zero, List.getD_cons_succ, ↓reduceIte, Nat.reduceEqDiff, Option.map_some, List.set_cons_zero, List.set_cons_succ, zba, zak, Nat.mul_one, List.length_map, List.cons_append, List.nil_append, rawC, zg9, zf3, r5C, r4C, zkf, zk6]; first | done | rfl)
    · simp -dsimp -implicitDefEqProofs (disch := first | assumption | omega | (simp [maxLen, zab, zaf, zad] <;> omega) | decide) only [zal, zbq, zat, zb6, za1, zb8, zaj, sT_g, zae, gK_f, q_o, za8, zam, zay, lenF, zbe, zcz, ↓reduceIte, q_b, ifp, zar, zck, q_f, q_s, q_l, q_n, Nat.reduceEqDiff, zav, zap, iD, zbp, Nat.reduceAdd, rawC, q, decide_false, zm4, sz_23, ag_23, eo_23]
      refine hK23 _ _ ?_
      refine zau rfl (fun ht => ?_) (fun ht => ?_)
      · cases ht
      · refine zcl (hJ4 _ _ ⟨_, _, gs, ⟨by omega, hgs⟩, rfl, rfl, ?_⟩)
        refine Rt.end (zaa (zaa (zaa (zaq _) rfl) rfl) rfl) ?_
        first | rfl | (simp only [zbj, za9, zbp, zbt, zbm, gcH, zb1, zcb, zcc, gc_m, fz_m, zaz, gcVs, gcV, zcy, fzH, zc0, zb9, zcd, zbl, Nat.reduceAdd, fzVs, fzV, posN, zav, zap, List.map_cons, List.map_nil, List.getD_cons_zero, List.getD_cons_succ, ↓reduceIte, Nat.reduceEqDiff, Option.map_some, List.set_cons_zero, List.set_cons_succ, zba, zak, Nat.mul_one, List.length_map, List.cons_append, List.nil_append, rawC, zg9, zf3, r5C, r4C, zkf, zk6]; first | done | rfl)
  refine zac hp zao hc rfl fun K50 hK50 => ?_
  simp -dsimp -implicitDefEqProofs (disch := first | assumption | omega | (simp [maxLen, zab, zaf, zad] <;> omega) | decide) only [zag, zaj, q_f]
  refine hK50 _ _ ?_
  refine zbg ?_
  refine zby hp (fun τ' H' mm => ∃ (k : Nat) (ws : List Wire), (k ≤ 8 ∧ ws.length = k + 1) ∧ mm = 8 - k ∧ H' = [.cells (avs (rawC x)), .cells [.d (.val (.slice none 0 0)), .d (.val (.slice none 0 0)), .d (.val (.slice none 0 0)), .d (.val (.slice none 0 0))], .cells [.os 3 3 0 ws.length, .d (.val (.slice none 0 0)), .d (.val (.slice none 0 0)), .d (.val (.slice none 0 0))], .cells (avs (ws.flatMap zg9))] ∧ τ' = frL [(1, .op 0 0), (2, .op 1 0), (3, .op 2 0), (4, .d (iD k))]) (8) ?_ ⟨0, [⟨1, 0, 0⟩], ⟨by omega, rfl⟩, rfl, rfl, rfl⟩ ?_
  · refine Rt.trans (Rt.gc (keep := [0,1,3,2]) (by decide) (by decide) (by simp [])) ?_
    refine Rt.end (zaa (zaa (zaa (zaa (zaq _) rfl) rfl) rfl) rfl) ?_
    first | rfl | (simp only [zbj, za9, zbp, zbt, zbm, gcH, zb1, zcb, zcc, gc_m, fz_m, zaz, gcVs, gcV, zcy, fzH, zc0, zb9, zcd, zbl, Nat.reduceAdd, fzVs, fzV, posN, zav, zap, List.map_cons, List.map_nil, List.getD_cons_zero, List.getD_cons_succ, ↓reduceIte, Nat.reduceEqDiff, Option.map_some, List.set_cons_zero, List.set_cons_succ, zba, zak, Nat.mul_one, List.length_map, List.cons_append, List.nil_append, rawC, zg9, zf3, r5C, r4C, zkf, zk6]; first | done | rfl)
  rintro τ' H' mm ⟨k, ws, ⟨hk, hw⟩, rfl, rfl, rfl⟩
  refine zas fun K51 hK51 => ?_
  refine zac hp zao hc rfl fun K52 hK52 => ?_
  by_cases q : (k : Int) < x.ins.length
  · simp -dsimp -implicitDefEqProofs (disch := first | assumption | omega | (simp [maxLen, zab, zaf, zad] <;> omega) | decide) only [zal, zbq, zat, zb6, za1, zb8, zaj, sT_g, zae, gK_t, q_o, za8, zam, zay, lenF, zbe, zcz, ↓reduceIte, q_b, ifp, zar, zck, q_f, q_s, q_l, q_n, Nat.reduceEqDiff, zav, zap, iD, zbp, Nat.reduceAdd, rawC, q, decide_true, zkb, ztk, ztl, ztm]
    refine hK52 _ _ ?_
    refine zau rfl (fun ht => ?_) (fun ht => ?_)
    · have hlt : k < 8 := by simp at ht; omega
      have hl : k < x.ins.length := by omega
      obtain ⟨b0, b1⟩ := hx.ins k hl
      refine zbb (hK51 _ _ ?_)
      refine zas fun K53 hK53 => ?_
      refine zbg ?_
      refine zcs zao hc mixed rfl (q := 1) (by kernel_rfl) (by kernel_rfl) fun K54 hK54 => ?_
      simp -dsimp -implicitDefEqProofs (disch := first | assumption | omega | (simp [maxLen, zab, zaf, zad] <;> omega) | decide) only [zco, zcq, zem, ze2, zdt, zi7, zi8, zfp, ze3, zc4, zae, q_o, za8, zam, ixO, za2, zay, zgx, zdx, layF, zdl, zb4, zcu, zix, ↓reduceIte, q_b, ifp, ifn, q_f, q_s, q_l, List.replicate_zero, List.replicate_succ, q_a, zbn, AV.one, D.one, Value.oneCell', Int.toNat_natCast, q_n, Nat.reduceEqDiff, shB, appB, killAll, zdk, zav, zap, zcg, zh2, zl5, bD, Nat.reduceAdd, zdl, frzF, zkb, ztk, ztl, ztm, sz_5, ag_5, ik_5, ik_3, pa_86, zr9, pl_86_1, sz_86, za_86, zc_86]
      refine hK54 _ _ ?_
      refine zas fun K55 hK55 => ?_
      refine zac hp zao hc rfl fun K56 hK56 => ?_
      rcases tf (1 + nth x.ins k % 4 == 1) with e1 | e1
      rotate_left
      rcases tf (1 + nth x.ins k % 4 == 2) with e2 | e2
      rotate_left 2
      · have e2 := e1
        simp -dsimp -implicitDefEqProofs (disch := first | assumption | omega | (simp [maxLen, zab, zaf, zad] <;> omega) | decide) only [zal, zbq, zat, zb6, za1, zaj, sT_g, zae, gK_f, q_o, za8, zam, zay, zd9, ↓reduceIte, q_b, ifp, zar, zbk, q_f, q_l, q_n, Nat.reduceEqDiff, Nat.reduceAdd, e1, zu5, sz_3, ag_3]
        refine hK56 _ _ ?_
        refine zau rfl (fun ht => ?_) (fun ht => ?_)
        · refine zcw hp zao hc rfl fun K57 hK57 => ?_
          simp -dsimp -implicitDefEqProofs (disch := first | assumption | omega | (simp [maxLen, zab, zaf, zad] <;> omega) | decide) only [zal, zat, zb6, zdo, za1, ze8, zbu, zaj, zae, q_o, za8, zam, ixO, za2, zay, zgx, zb4, zix, ↓reduceIte, q_b, ifp, q_f, q_l, q_s, q_a, Int.toNat_natCast, q_n, Nat.reduceEqDiff, zcg, zh2, zl5, bD, Nat.reduceAdd, zkb, ztk, ztl, ztm, sz_5, ag_5, ik_5, sz_3, ik_3, fo_86_2]
          refine hK57 _ _ (hK55 _ _ ?_)
          refine zcw hp zao hc rfl fun K58 hK58 => ?_
          simp -dsimp -implicitDefEqProofs (disch := first | assumption | omega | (simp only [maxLen, List.length_replicate, eq_self, true_and, and_true, and_self, zab, List.length_map, List.length_append, List.length_cons, List.length_nil, List.length_set, List.length_range, List.length_take, List.length_drop, zaf, zad] <;> omega) | decide | fail) only [zat, zb6, zdw, zd6, zbu, zbd, zaj, zae, Option.map_some, za8, zam, layF, srcF, zb4, ↓reduceIte, Bool.false_eq_true, eq_self, ifp, ifn, zbi, zdq, zee, zc3, List.map_cons, List.map_nil, List.length_cons, List.length_nil, List.getElem?_cons_zero, List.getElem?_cons_succ, List.cons_append, List.nil_append, List.append_nil, List.set_cons_zero, List.set_cons_succ, List.replicate_zero, List.replicate_succ, List.all_cons, List.all_nil, zbv, zd7, zbn, zga, zgf, zd8, zds, AV.one, D.one, Value.oneCell', Bool.and_self, true_and, Nat.zero_add, Nat.add_zero, Nat.reduceEqDiff, zab, zcv, zak, List.drop_zero, Nat.reduceAdd, List.nil_append, zbd, Nat.zero_mul, Nat.reduceMul, List.flatten_cons, List.flatten_nil, zgq, zkc, zkd, sz_86, ag_86, mk_38]
          refine hK58 _ _ (hK53 _ _ ?_)
          refine zcw hp zao hc rfl fun K59 hK59 => ?_
          simp -dsimp -implicitDefEqProofs (disch := first | assumption | omega | (simp [maxLen, zab, zaf, zad] <;> omega) | decide) only [zal, zag, za1, zaj, zae, q_o, zay, zcu, ↓reduceIte, q_b, q_f, Nat.reduceEqDiff]
          refine hK59 _ _ ⟨_, _, _, ?_, ⟨k + 1, ws ++ [⟨1 + nth x.ins k % 4, nth x.ins k / 4 % 3, nth x.ins k / 12 % 3⟩], ⟨by omega, by simp [hw]⟩, rfl, rfl, rfl⟩, ?_⟩
          · first | omega | (simp only [List.length_cons]; omega) | (dsimp only; omega)
          · refine Rt.trans (Rt.gc (keep := [0,1,2,6]) (by decide) (by decide) (by simp [])) ?_
            refine Rt.end (zaa (zaa (zaa (zaa (zaq _) rfl) rfl) rfl) rfl) ?_
            simp only [zbp, gcH, zb1, zaz, gcVs, gcV, Nat.reduceAdd, posN, zav, zap, List.map_cons, List.map_nil, List.getD_cons_zero, List.getD_cons_succ, ↓reduceIte, Nat.reduceEqDiff, Option.map_some, rawC]; simp [zg9, iD]
        · cases ht
      · simp -dsimp -implicitDefEqProofs (disch := first | assumption | omega | (simp [maxLen, zab, zaf, zad] <;> omega) | decide) only [zal, zbq, zat, zb6, za1, zaj, sT_g, zae, gK_t, q_o, za8, zam, zay, zd9, ↓reduceIte, q_b, ifp, zar, zbk, q_f, q_l, q_n, Nat.reduceEqDiff, Nat.reduceAdd, e1, e2, zu5, sz_3, ag_3]
        refine hK56 _ _ ?_
        refine zau rfl (fun ht => ?_) (fun ht => ?_)
        · refine zcw hp zao hc rfl fun K60 hK60 => ?_
          simp -dsimp -implicitDefEqProofs (disch := first | assumption | omega | (simp [maxLen, zab, zaf, zad] <;> omega) | decide) only [zal, zat, zb6, zdo, za1, ze8, zbu, zaj, zae, q_o, za8, zam, ixO, za2, zay, zgx, zb4, zix, ↓reduceIte, q_b, ifp, q_f, q_l, q_s, q_a, Int.toNat_natCast, q_n, Nat.reduceEqDiff, zcg, zh2, zl5, bD, Nat.reduceAdd, zkb, ztk, ztl, ztm, sz_5, ag_5, ik_5, sz_3, ik_3, fo_86_2]
          refine hK60 _ _ (hK55 _ _ ?_)
          refine zcw hp zao hc rfl fun K61 hK61 => ?_
          simp -dsimp -implicitDefEqProofs (disch := first | assumption | omega | (simp only [maxLen, List.length_replicate, eq_self, true_and, and_true, and_self, zab, List.length_map, List.length_append, List.length_cons, List.length_nil, List.length_set, List.length_range, List.length_take, List.length_drop, zaf, zad] <;> omega) | decide | fail) only [zat, zb6, zdw, zd6, zbu, zbd, zaj, zae, Option.map_some, za8, zam, layF, srcF, zb4, ↓reduceIte, Bool.false_eq_true, eq_self, ifp, ifn, zbi, zdq, zee, zc3, List.map_cons, List.map_nil, List.length_cons, List.length_nil, List.getElem?_cons_zero, List.getElem?_cons_succ, List.cons_append, List.nil_append, List.append_nil, List.set_cons_zero, List.set_cons_succ, List.replicate_zero, List.replicate_succ, List.all_cons, List.all_nil, zbv, zd7, zbn, zga, zgf, zd8, zds, AV.one, D.one, Value.oneCell', Bool.and_self, true_and, Nat.zero_add, Nat.add_zero, Nat.reduceEqDiff, zab, zcv, zak, List.drop_zero, Nat.reduceAdd, List.nil_append, zbd, Nat.zero_mul, Nat.reduceMul, List.flatten_cons, List.flatten_nil, zgq, zkc, zkd, sz_86, ag_86, mk_38]
          refine hK61 _ _ (hK53 _ _ ?_)
          refine zcw hp zao hc rfl fun K62 hK62 => ?_
          simp -dsimp -implicitDefEqProofs (disch := first | assumption | omega | (simp [maxLen, zab, zaf, zad] <;> omega) | decide) only [zal, zag, za1, zaj, zae, q_o, zay, zcu, ↓reduceIte, q_b, q_f, Nat.reduceEqDiff]
          refine hK62 _ _ ⟨_, _, _, ?_, ⟨k + 1, ws ++ [⟨1 + nth x.ins k % 4, nth x.ins k / 4 % 3, nth x.ins k / 12 % 3⟩], ⟨by omega, by simp [hw]⟩, rfl, rfl, rfl⟩, ?_⟩
          · first | omega | (simp only [List.length_cons]; omega) | (dsimp only; omega)
          · refine Rt.trans (Rt.gc (keep := [0,1,2,6]) (by decide) (by decide) (by simp [])) ?_
            refine Rt.end (zaa (zaa (zaa (zaa (zaq _) rfl) rfl) rfl) rfl) ?_
            simp only [zbp, gcH, zb1, zaz, gcVs, gcV, Nat.reduceAdd, posN, zav, zap, List.map_cons, List.map_nil, List.getD_cons_zero, List.getD_cons_succ, ↓reduceIte, Nat.reduceEqDiff, Option.map_some, rawC]; simp [zg9, iD]
        · cases ht
      · simp -dsimp -implicitDefEqProofs (disch := first | assumption | omega | (simp [maxLen, zab, zaf, zad] <;> omega) | decide) only [zal, zbq, zat, zb6, za1, zaj, sT_g, zae, gK_t, q_o, za8, zam, zay, zd9, ↓reduceIte, q_b, ifp, zar, zbk, q_f, q_l, q_n, Nat.reduceEqDiff, Nat.reduceAdd, e1, e2, zu5, sz_3, ag_3]
        refine hK56 _ _ ?_
        refine zau rfl (fun ht => ?_) (fun ht => ?_)
        · cases ht
        · refine zbb (hK55 _ _ ?_)
          refine zcw hp zao hc rfl fun K63 hK63 => ?_
          simp -dsimp -implicitDefEqProofs (disch := first | assumption | omega | (simp only [maxLen, List.length_replicate, eq_self, true_and, and_true, and_self, zab, List.length_map, List.length_append, List.length_cons, List.length_nil, List.length_set, List.length_range, List.length_take, List.length_drop, zaf, zad] <;> omega) | decide | fail) only [zat, zb6, zdw, zd6, zbu, zbd, zaj, zae, Option.map_some, za8, zam, layF, srcF, zb4, ↓reduceIte, Bool.false_eq_true, eq_self, ifp, ifn, zbi, zdq, zee, zc3, List.map_cons, List.map_nil, List.length_cons, List.length_nil, List.getElem?_cons_zero, List.getElem?_cons_succ, List.cons_append, List.nil_append, List.append_nil, List.set_cons_zero, List.set_cons_succ, List.replicate_zero, List.replicate_succ, List.all_cons, List.all_nil, zbv, zd7, zbn, zga, zgf, zd8, zds, AV.one, D.one, Value.oneCell', Bool.and_self, true_and, Nat.zero_add, Nat.add_zero, Nat.reduceEqDiff, zab, zcv, zak, List.drop_zero, Nat.reduceAdd, List.nil_append, zbd, Nat.zero_mul, Nat.reduceMul, List.flatten_cons, List.flatten_nil, zgq, zkc, zkd, sz_86, ag_86, mk_38]
          refine hK63 _ _ (hK53 _ _ ?_)
          refine zcw hp zao hc rfl fun K64 hK64 => ?_
          simp -dsimp -implicitDefEqProofs (disch := first | assumption | omega | (simp [maxLen, zab, zaf, zad] <;> omega) | decide) only [zal, zag, za1, zaj, zae, q_o, zay, zcu, ↓reduceIte, q_b, q_f, Nat.reduceEqDiff]
          refine hK64 _ _ ⟨_, _, _, ?_, ⟨k + 1, ws ++ [⟨1 + nth x.ins k % 4, nth x.ins k / 4 % 3, 0⟩], ⟨by omega, by simp [hw]⟩, rfl, rfl, rfl⟩, ?_⟩
          · first | omega | (simp only [List.length_cons]; omega) | (dsimp only; omega)
          · refine Rt.trans (Rt.gc (keep := [0,1,2,6]) (by decide) (by decide) (by simp [])) ?_
            refine Rt.end (zaa (zaa (zaa (zaa (zaq _) rfl) rfl) rfl) rfl) ?_
            simp only [zbp, gcH, zb1, zaz, gcVs, gcV, Nat.reduceAdd, posN, zav, zap, List.map_cons, List.map_nil, List.getD_cons_zero, List.getD_cons_succ, ↓reduceIte, Nat.reduceEqDiff, Option.map_some, rawC]; simp [zg9, iD]
    · refine zcl (hJ3 _ _ ⟨_, _, ws, by omega, rfl, rfl, ?_⟩)
      refine Rt.end (zaa (zaa (zaa (zaq _) rfl) rfl) rfl) ?_
      first | rfl | (simp only [zbj, za9, zbp, zbt, zbm, gcH, zb1, zcb, zcc, gc_m, fz_m, zaz, gcVs, gcV, zcy, fzH, zc0, zb9, zcd, zbl, Nat.reduceAdd, fzVs, fzV, posN, zav, zap, List.map_cons, List.map_nil, List.getD_cons_zero, List.getD_cons_succ, ↓reduceIte, Nat.reduceEqDiff, Option.map_some, List.set_cons_zero, List.set_cons_succ, zba, zak, Nat.mul_one, List.length_map, List.cons_append, List.nil_append, rawC, zg9, zf3, r5C, r4C, zkf, zk6]; first | done | rfl)
  · simp -dsimp -implicitDefEqProofs (disch := first | assumption | omega | (simp [maxLen, zab, zaf, zad] <;> omega) | decide) only [zal, zbq, zat, zb6, za1, zb8, zaj, sT_g, zae, gK_f, q_o, za8, zam, zay, lenF, zbe, zcz, ↓reduceIte, q_b, ifp, zar, zck, q_f, q_s, q_l, q_n, Nat.reduceEqDiff, zav, zap, iD, zbp, Nat.reduceAdd, rawC, q, decide_false, zkb, ztk, ztl, ztm]
    refine hK52 _ _ ?_
    refine zau rfl (fun ht => ?_) (fun ht => ?_)
    · cases ht
    · skip
      refine zcl (hJ3 _ _ ⟨_, _, ws, by omega, rfl, rfl, ?_⟩)
      refine Rt.end (zaa (zaa (zaa (zaq _) rfl) rfl) rfl) ?_
      first | rfl | (simp only [zbj, za9, zbp, zbt, zbm, gcH, zb1, zcb, zcc, gc_m, fz_m, zaz, gcVs, gcV, zcy, fzH, zc0, zb9, zcd, zbl, Nat.reduceAdd, fzVs, fzV, posN, zav, zap, List.map_cons, List.map_nil, List.getD_cons_zero, List.getD_cons_succ, ↓reduceIte, Nat.reduceEqDiff, Option.map_some, List.set_cons_zero, List.set_cons_succ, zba, zak, Nat.mul_one, List.length_map, List.cons_append, List.nil_append, rawC, zg9, zf3, r5C, r4C, zkf, zk6]; first | done | rfl)
theorem za3 {l : List R5} : (l.flatMap r5C).length = l.length * 5 := zgl r5_w l
theorem za4 {l : List R4} : (l.flatMap r4C).length = l.length * 4 := zgl r4_w l
end Go.Proofs.Ytgfnpfchdlcoeaa
