/- The nets that bytes describe are valid (as netsim's laws have them). -/
import Derived.Test.YtgfnpfchdlcoeaaQr
import Derived.Test.YtgfnpfchdlcoeaaQ
import Derived.Test.YtgfnpfchdlcoeaaCv
set_option linter.unusedVariables false
set_option linter.unusedSimpArgs false
set_option maxRecDepth 100000
set_option maxHeartbeats 4000000
namespace Go.Proofs.Ytgfnpfchdlcoeaa
open Go Go.RowKit
def DriveOk (m : Nat) (l : List Int) : Prop := ∀ k, k < l.length → 0 ≤ nth l k ∧ nth l k < m
structure R5 where
 a : Int
 b : Int
 c : Int
 d : Int
 e : Int
instance : Inhabited R5 := ⟨⟨0, 0, 0, 0, 0⟩⟩
structure R4 where
 a : Int
 b : Int
 c : Int
 d : Int
instance : Inhabited R4 := ⟨⟨0, 0, 0, 0⟩⟩
def r5C (g : R5) : List D := [bD g.a, bD g.b, bD g.c, bD g.d, bD g.e]
def r4C (g : R4) : List D := [bD g.a, bD g.b, bD g.c, bD g.d]
theorem jsk (g : R5) : (r5C g).length = 5 := rfl
theorem jsl (g : R4) : (r4C g).length = 4 := rfl
theorem jpo {l : List R5} {k : Nat} (h : k < l.length) : zc9 (l.flatMap r5C) (k * 5) 5 = some (r5C (nth l k)) := zg9 jsk h
theorem jpp {l : List R4} {k : Nat} (h : k < l.length) : zc9 (l.flatMap r4C) (k * 4) 4 = some (r4C (nth l k)) := zg9 jsl h
structure RawN where
 ins : List Int
 gates : List R5
 out : List R4
def B1 (n : Int) : Prop := 0 ≤ n ∧ n < 256
structure RawOk (x : RawN) : Prop where
 ins : ∀ k, k < x.ins.length → B1 (nth x.ins k)
 gates : ∀ k, k < x.gates.length → B1 (nth x.gates k).a ∧ B1 (nth x.gates k).b ∧ B1 (nth x.gates k).c ∧ B1 (nth x.gates k).d ∧ B1 (nth x.gates k).e
 out : ∀ k, k < x.out.length → B1 (nth x.out k).a ∧ B1 (nth x.out k).b ∧ B1 (nth x.out k).c ∧ B1 (nth x.out k).d
def ziq (x : RawN) : List D := [zbm x.ins, .fs (x.gates.flatMap r5C) x.gates.length, .fs (x.out.flatMap r4C) x.out.length]
structure NetOk (n : Net) : Prop where
 i1 : 1 ≤ n.ins.length
 i2 : n.ins.length ≤ 9
 g1 : n.gates.length ≤ 60
 g2 : GatesOk (2 + n.ins.length) n.gates
 d0 : n.out.length = n.drive.length
 d1 : n.drive.length ≤ 9
 d2 : DriveOk (2 + n.ins.length + n.gates.length) n.drive
 d3 : 1 ≤ n.drive.length
theorem GatesOk.snoc {m : Nat} {l : List Gate} {g : Gate} (h : GatesOk m l) (hg : GateOk (m + l.length) g) : GatesOk m (l ++ [g]) := fun k hk => by
 by_cases hl : k < l.length
 ·rw [zda hl]; exact h k hl
 ·have : k = l.length := by simp at hk; omega
  subst this
  rw [zf2]; exact hg
theorem DriveOk.snoc {m : Nat} {l : List Int} {d : Int} (h : DriveOk m l) (h0 : 0 ≤ d) (h1 : d < m) : DriveOk m (l ++ [d]) := fun k hk => by
 by_cases hl : k < l.length
 ·rw [zda hl]; exact h k hl
 ·have : k = l.length := by simp at hk; omega
  subst this
  rw [zf2]; exact ⟨h0, h1⟩
theorem jfo (m : Nat) : GatesOk m [] := fun k hk => by simp at hk
theorem zwe (m : Nat) : DriveOk m [] := fun k hk => by simp at hk
theorem jl5 (a : Int) : 0 ≤ jcl .and .i64 a 1023 := by
 have h : (BitVec.ofInt 64 a &&& BitVec.ofInt 64 1023).toNat ≤ 1023 := by
  rw [BitVec.toNat_and]
  exact Nat.le_trans Nat.and_le_right (by decide)
 show 0 ≤ IntKind.i64.wrap ((BitVec.ofInt 64 a &&& BitVec.ofInt 64 1023).toNat : Int)
 rw [ztn (by omega) (by omega)]
 omega
theorem jfp {i : Nat} (h : i < 7) : ([.val (.int .i64 1), .val (.int .i64 5), .val (.int .i64 6), .val (.int .i64 7), .val (.int .i64 8), .val (.int .i64 9), .val (.int .i64 10)] : List D)[i]? = some (.val (.int .i64 (nth [1, 5, 6, 7, 8, 9, 10] i))) := by
 rcases (show i = 0 ∨ i = 1 ∨ i = 2 ∨ i = 3 ∨ i = 4 ∨ i = 5 ∨ i = 6 by omega) with rfl | rfl | rfl | rfl | rfl | rfl | rfl <;> rfl
theorem mkG {ws : List Wire} {gs : List Gate} {k : Nat} (hw : gs.length = k) {a b c d e : Int} (a0 : 0 ≤ a) (a1 : a < 256) (b0 : 0 ≤ b) (b1 : b < 256) (c0 : 0 ≤ c) (c1 : c < 256) (d0 : 0 ≤ d) (d1 : d < 256) (e0 : 0 ≤ e) (e1 : e < 256) {u v w : Int}
  (hu : u = 0 ∨ u = c % (2 + ws.length + k)) (hv : v = 0 ∨ v = d % (2 + ws.length + k)) (hn : w = 0 ∨ w = 8 * (e % 3) + e / 3 % 2) : GateOk (2 + ws.length + gs.length) ⟨1 + a % 7, b % (2 + ws.length + k), u, v, w⟩ := by
 have hpos : (0 : Int) < 2 + ws.length + k := by omega
 have m (z : Int) : 0 ≤ z % (2 + ws.length + k) ∧ z % (2 + ws.length + k) < 2 + ws.length + k := ⟨Int.emod_nonneg _ (Int.ne_of_gt hpos), Int.emod_lt_of_pos _ hpos⟩
 have mb := m b
 have mc := m c
 have md := m d
 generalize b % (2 + ws.length + k : Int) = B at *
 generalize c % (2 + ws.length + k : Int) = C at *
 generalize d % (2 + ws.length + k : Int) = D at *
 subst hw
 constructor <;> simp only <;> omega
theorem zsz : (type_of% @zah) ∧ (type_of% @zby) ∧ (type_of% @zbe) := ⟨@zah, @zby, @zbe⟩
theorem jpq (x : RawN) (hx : RawOk x) : RCalls Try.prog 12 [.agg (ziq x)] (fun r => ∃ n, NetOk n ∧ r = .d (zf1 n)) := by
 refine zgr (fn := Try.f12) (by kernel_rfl) Try.func12 rfl (Nat.le_of_ble_eq_true rfl) fun c hc hp => ?_
 refine zba (τ' := frL [(0, .d (.agg (ziq x)))]) (zaa (zae _) rfl) ?_
 refine zab hp zad hc rfl fun K1 hK1 => ?_
 simp -dsimp -implicitDefEqProofs (disch := first | omega | decide) only [q_r, zau, zb0, ↓reduceIte, D.one, zbm, zau, ziq, jg9]
 refine hK1 _ _ ?_
 refine zab hp zad hc rfl fun K2 hK2 => ?_
 simp -dsimp -implicitDefEqProofs (disch := first | omega | decide) only [q_r, zau, zb7, zb0, za6, ↓reduceIte, List.append_nil, List.replicate_zero, List.replicate_succ, AV.one, D.one, Value.oneCell', Nat.reduceEqDiff, Nat.reduceAdd, zau, Nat.zero_mul, Nat.reduceMul, List.flatten_cons, List.flatten_nil, jhl, ztz, jhk, jb3, jra, jk2, zf0, jg9, jq9]
 refine hK2 _ _ ?_
 refine zaf fun K3 hK3 => ?_
 have hJ3 : ∀ τ' H', (∃ τ1 H1, ∃ (ws : List Wire), (1 ≤ ws.length ∧ ws.length ≤ 9) ∧ H1 = [.cells (avs (ziq x)), .cells [.d (.val (.slice none 0 0)), .d (.val (.slice none 0 0)), .d (.val (.slice none 0 0)), .d (.val (.slice none 0 0))], .cells [.os 3 3 0 ws.length, .d (.val (.slice none 0 0)), .d (.val (.slice none 0 0)), .d (.val (.slice none 0 0))], .cells (avs (ws.flatMap zjr))] ∧ τ1 = frL [(1, .op 0 0), (2, .op 1 0), (3, .op 2 0)] ∧ Rt [] τ' H' τ1 H1) → K3 τ' H' := by
  rintro τ' H' ⟨_, _, ws, ⟨w1, w2⟩, rfl, rfl, hrt⟩
  refine hK3 _ _ (zbx hp hrt ?_)
  clear hrt
  refine zaf fun K4 hK4 => ?_
  have hJ4 : ∀ τ' H', (∃ τ1 H1, ∃ (gs : List Gate), (gs.length ≤ 60 ∧ GatesOk (2 + ws.length) gs) ∧ H1 = [.cells (avs (ziq x)), .cells [.d (.val (.slice none 0 0)), .d (.val (.slice none 0 0)), .d (.val (.slice none 0 0)), .d (.val (.slice none 0 0))], .cells [.os 3 3 0 ws.length, .os 5 4 0 gs.length, .d (.val (.slice none 0 0)), .d (.val (.slice none 0 0))], .cells (avs (ws.flatMap zjr)), .cells (avs (gs.flatMap zd4))] ∧ τ1 = frL [(1, .op 0 0), (2, .op 1 0), (3, .op 2 0)] ∧ Rt [] τ' H' τ1 H1) → K4 τ' H' := by
   rintro τ' H' ⟨_, _, gs, ⟨g1, g2⟩, rfl, rfl, hrt⟩
   refine hK4 _ _ (zbx hp hrt ?_)
   clear hrt
   refine zaf fun K5 hK5 => ?_
   have hJ5 : ∀ τ' H', (∃ τ1 H1, ∃ (os : List Wire) (dr : List Int), (os.length = dr.length ∧ dr.length ≤ 9 ∧ DriveOk (2 + ws.length + gs.length) dr) ∧ H1 = [.cells (avs (ziq x)), .cells [.d (.val (.slice none 0 0)), .d (.val (.slice none 0 0)), .d (.val (.slice none 0 0)), .d (.val (.slice none 0 0))], .cells [.os 3 3 0 ws.length, .os 5 4 0 gs.length, .os 3 5 0 os.length, .os 1 6 0 dr.length], .cells (avs (ws.flatMap zjr)), .cells (avs (gs.flatMap zd4)), .cells (avs (os.flatMap zjr)), .cells (avs (dr.map iD))] ∧ τ1 = frL [(1, .op 0 0), (2, .op 1 0), (3, .op 2 0)] ∧ Rt [] τ' H' τ1 H1) → K5 τ' H' := by
    rintro τ' H' ⟨_, _, os, dr, ⟨ho, hd, hdr⟩, rfl, rfl, hrt⟩
    refine hK5 _ _ (zbx hp hrt ?_)
    clear hrt
    refine zaf fun K6 hK6 => ?_
    refine zab hp zad hc rfl fun K7 hK7 => ?_
    simp -dsimp -implicitDefEqProofs (disch := first | assumption | omega | (simp [maxLen, zsz] <;> omega) | decide) only [q_r, zam, zac, zc1, zar, ↓reduceIte, Nat.reduceEqDiff, zbm, Nat.reduceAdd, ziq, zxe, zjo, zjp, zof]
    refine hK7 _ _ ?_
    refine zag rfl (fun ht => ?_) (fun ht => ?_)
    ·refine zab hp zad hc rfl fun K8 hK8 => ?_
     simp -dsimp -implicitDefEqProofs (disch := first | assumption | omega | (simp only [maxLen, List.length_replicate, eq_self, true_and, and_true, and_self, zah, List.length_map, List.length_append, List.length_cons, List.length_nil, List.length_set, List.length_range, List.length_take, List.length_drop, zby, zbe] <;> omega) | decide | fail) only [q_r, zau, Option.map_some, zam, zac, zb7, zb0, zic, za6, ↓reduceIte, Bool.false_eq_true, eq_self, zat, zcw, zdo, zb2, zc5, List.map_cons, List.map_nil, List.length_cons, List.length_nil, List.getElem?_cons_zero, List.getElem?_cons_succ, List.cons_append, List.nil_append, List.append_nil, List.set_cons_zero, List.set_cons_succ, List.replicate_zero, List.replicate_succ, List.all_cons, List.all_nil, zdg, zl2, zfh, zdh, zcx, AV.one, D.one, Value.oneCell', Bool.and_self, true_and, Nat.zero_add, Nat.reduceEqDiff, List.drop_zero, Nat.reduceAdd, List.nil_append, zau, Nat.zero_mul, Nat.reduceMul, List.flatten_cons, List.flatten_nil, zxe, zjo, zjp, jhl, ztz, jhk, jb3]
     refine hK8 _ _ ?_
     refine zbs hp zad hc rfl fun K9 hK9 => ?_
     simp -dsimp -implicitDefEqProofs (disch := first | assumption | omega | (simp [maxLen, zsz] <;> omega) | decide) only [q_r, zau, zam, zac, zc1, zar, zb0, zic, za6, ↓reduceIte, List.append_nil, List.replicate_zero, List.replicate_succ, Nat.reduceEqDiff, List.drop_zero, Nat.reduceAdd, zau, List.length_map, znt, zea, zeb, zfm, zjo, zjp, zof, zge, zog, zoh, ztu, zgb]
     refine hK9 _ _ (hK6 _ _ ?_)
     refine zab hp zad hc rfl fun K10 hK10 => ?_
     simp -dsimp -implicitDefEqProofs (disch := first | assumption | omega | (simp [maxLen, zsz] <;> omega) | decide) only [q_r, zam, za6, ↓reduceIte, AV.one, Nat.reduceEqDiff, Nat.reduceAdd, zf0, zgm]
     refine hK10 _ _ ?_
     refine zao ?_
     try dsimp only [zfd, zcc]
     refine zch rfl ?_
     simp -dsimp -implicitDefEqProofs (disch := first | assumption | omega | (simp only [maxLen, List.length_replicate, eq_self, true_and, and_true, and_self, zah, List.length_map, List.length_append, List.length_cons, List.length_nil, List.length_set, List.length_range, List.length_take, List.length_drop, zby, zbe] <;> omega) | decide | fail) only [q_r, Option.map_some, zam, ↓reduceIte, eq_self, zat, List.length_cons, List.length_nil, List.getElem?_cons_zero, List.getElem?_cons_succ, Nat.zero_add, Nat.reduceEqDiff, Nat.reduceAdd, zf0, zgm]
     show ∃ r, zaj _ _ = some r ∧ _
     simp (disch := first | assumption | omega | (simp only [maxLen, List.length_replicate, eq_self, true_and, and_true, and_self, zah, List.length_map, List.length_append, List.length_cons, List.length_nil, List.length_set, List.length_range, List.length_take, List.length_drop, zby, zbe] <;> omega) | decide | fail) only [List.map_cons, List.map_nil, zaj, zcr, zce, za9, za7, zbt, zbl, zcg, Nat.reduceAdd, Nat.zero_add, zax, zpg, D.fix, Option.map_some, Option.bind_some, Nat.mul_one, List.getElem?_cons_zero, List.getElem?_cons_succ, List.length_cons, List.length_nil, zzf, zzg, List.map_append]
     have h0 : os = [] := List.eq_nil_of_length_eq_zero (by simp at ht; simpa using ht)
     have h1 : dr = [] := List.eq_nil_of_length_eq_zero (by rw [← ho, h0]; rfl)
     subst h0 h1
     refine ⟨_, rfl, ⟨ws, gs, [⟨1, 0, 0⟩], [1 + ws.length + gs.length]⟩, ⟨w1, w2, g1, g2, rfl, by simp, (zwe _).snoc (by omega) (by simp only; omega), by simp⟩, rfl⟩
    ·refine zan (hK6 _ _ ?_)
     refine zab hp zad hc rfl fun K11 hK11 => ?_
     simp -dsimp -implicitDefEqProofs (disch := first | assumption | omega | (simp [maxLen, zsz] <;> omega) | decide) only [q_r, zam, za6, ↓reduceIte, AV.one, Nat.reduceEqDiff, Nat.reduceAdd, zf0, zgm]
     refine hK11 _ _ ?_
     refine zao ?_
     try dsimp only [zfd, zcc]
     refine zch rfl ?_
     simp -dsimp -implicitDefEqProofs (disch := first | assumption | omega | (simp [maxLen, zsz] <;> omega) | decide) only [q_r, zam, ↓reduceIte, Nat.reduceEqDiff, Nat.reduceAdd, zf0, zgm]
     show ∃ r, zaj _ _ = some r ∧ _
     simp (disch := first | assumption | omega | (simp only [maxLen, List.length_replicate, eq_self, true_and, and_true, and_self, zah, List.length_map, List.length_append, List.length_cons, List.length_nil, List.length_set, List.length_range, List.length_take, List.length_drop, zby, zbe] <;> omega) | decide | fail) only [zaj, zcr, zce, za9, za7, zbt, zbl, zcg, Nat.reduceAdd, Nat.zero_add, zax, zpg, Option.map_some, Option.bind_some, Nat.mul_one, List.getElem?_cons_zero, List.getElem?_cons_succ, List.length_cons, List.length_nil, zzf, zzg]
     have h0 : ¬ os.length = 0 := by simpa using ht
     refine ⟨_, rfl, ⟨ws, gs, os, dr⟩, ⟨w1, w2, g1, g2, ho, hd, hdr, by simp only; omega⟩, ?_⟩
     simp [zf1, zc2, zbh, zbg, zay]
   refine zab hp zad hc rfl fun K12 hK12 => ?_
   simp -dsimp -implicitDefEqProofs (disch := first | omega | decide) only [q_r, zbm, ziq]
   refine hK12 _ _ ?_
   refine zaq ?_
   refine za4 hp (fun τ' H' mm => ∃ (k : Nat) (os : List Wire) (dr : List Int), (k ≤ 9 ∧ os.length = k ∧ dr.length = k ∧ DriveOk (2 + ws.length + gs.length) dr) ∧ mm = 9 - k ∧ H' = [.cells (avs (ziq x)), .cells [.d (.val (.slice none 0 0)), .d (.val (.slice none 0 0)), .d (.val (.slice none 0 0)), .d (.val (.slice none 0 0))], .cells [.os 3 3 0 ws.length, .os 5 4 0 gs.length, .os 3 5 0 os.length, .os 1 6 0 dr.length], .cells (avs (ws.flatMap zjr)), .cells (avs (gs.flatMap zd4)), .cells (avs (os.flatMap zjr)), .cells (avs (dr.map iD))] ∧ τ' = frL [(1, .op 0 0), (2, .op 1 0), (3, .op 2 0), (10, .d (iD k))]) (9) ?_ ⟨0, [], [], ⟨by omega, rfl, rfl, zwe _⟩, rfl, rfl, rfl⟩ ?_
   ·refine Rt.trans (Rt.nilc 2 2 3 rfl rfl) ?_
    refine Rt.trans (Rt.nilc 2 3 1 rfl rfl) ?_
    refine Rt.end (zaa (zaa (zaa (zaa (zae _) rfl) rfl) rfl) rfl) ?_
    rfl
   rintro τ' H' mm ⟨k, os, dr, ⟨hk, ho, hd, hdr⟩, rfl, rfl, rfl⟩
   refine zaf fun K13 hK13 => ?_
   refine zab hp zad hc rfl fun K14 hK14 => ?_
   by_cases q : (k : Int) < x.out.length
   ·simp -dsimp -implicitDefEqProofs (disch := first | omega | decide) only [q_r, zam, zac, zc1, zar, ↓reduceIte, Nat.reduceEqDiff, iD, zbm, Nat.reduceAdd, ziq, q, decide_true, zns, jbz, jb0, jb1]
    refine hK14 _ _ ?_
    refine zag rfl (fun ht => ?_) (fun ht => ?_)
    ·have hlt : k < 9 := by simp at ht; omega
     have hl : k < x.out.length := by omega
     obtain ⟨⟨a0, a1⟩, ⟨b0, b1⟩, ⟨c0, c1⟩, ⟨d0, d1⟩⟩ := hx.out k hl
     have hn := jl5 (1 + ws.length + gs.length - (nth x.out k).d)
     have hpos : (0 : Int) < 2 + ws.length + gs.length := by omega
     have hm0 := Int.emod_nonneg (jcl .and .i64 (1 + ws.length + gs.length - (nth x.out k).d) 1023) (Int.ne_of_gt hpos)
     have hm1 := Int.emod_lt_of_pos (jcl .and .i64 (1 + ws.length + gs.length - (nth x.out k).d) 1023) hpos
     refine zan (hK13 _ _ ?_)
     refine zaf fun K15 hK15 => ?_
     refine zaq ?_
     refine zab hp zad hc rfl fun K16 hK16 => ?_
     simp -dsimp -implicitDefEqProofs (disch := first | omega | decide) only [q_r, zau, zam, zac, ixO, zai, zb0, za6, ↓reduceIte, D.one, Value.oneCell', Int.toNat_natCast, Nat.reduceEqDiff, bD, Nat.reduceAdd, zau, r4C, jpp, zns, jbz, jb0, jb1, jrh, jri, jrj]
     refine hK16 _ _ ?_
     refine zbo zad hc mixed rfl (q := 2) (by kernel_rfl) (by kernel_rfl) fun K17 hK17 => ?_
     simp -dsimp -implicitDefEqProofs (disch := first | omega | decide) only [q_r, zam, ixO, zai, zf9, zb7, zb0, zc6, za6, ↓reduceIte, List.replicate_zero, List.replicate_succ, AV.one, D.one, Value.oneCell', and_true, Nat.reduceEqDiff, shB, zqn, killAll, Nat.reduceAdd, zc6, zpe, zll, Int.toNat_zero, Int.reduceToNat, jfp, zc3, zgb, joh, jeq, jer, jes, zci, zcn, zsk, jhl, ztz, je0, jld, jca, jog, jhk]
     refine hK17 _ _ ?_
     refine zab hp zad hc rfl fun K18 hK18 => ?_
     simp -dsimp -implicitDefEqProofs (disch := first | assumption | omega | (simp only [maxLen, List.length_replicate, eq_self, true_and, and_true, and_self, zah, List.length_map, List.length_append, List.length_cons, List.length_nil, List.length_set, List.length_range, List.length_take, List.length_drop, zby, zbe] <;> omega) | decide | fail) only [q_r, zau, Option.map_some, zam, zac, zb0, zic, za6, ↓reduceIte, Bool.false_eq_true, eq_self, zat, zcw, zdo, zb2, List.map_cons, List.map_nil, List.length_cons, List.length_nil, List.getElem?_cons_zero, List.getElem?_cons_succ, List.cons_append, List.nil_append, List.append_nil, List.set_cons_zero, List.set_cons_succ, List.replicate_zero, List.replicate_succ, List.all_cons, List.all_nil, zdg, zfh, zdh, zcx, AV.one, D.one, Value.oneCell', Bool.and_self, true_and, Nat.zero_add, Nat.reduceEqDiff, List.drop_zero, Nat.reduceAdd, List.nil_append, zau, Nat.zero_mul, Nat.reduceMul, List.flatten_cons, List.flatten_nil, zxe, zjo, zjp, jca, jhj, jb3]
     refine hK18 _ _ ?_
     refine zvf zad hc mixed rfl (q := 2) (by kernel_rfl) (by kernel_rfl) fun K19 hK19 => ?_
     simp -dsimp -implicitDefEqProofs (disch := first | assumption | omega | (simp [maxLen, zsz] <;> omega) | decide) only [q_r, zam, zac, ixO, zai, zf9, zc1, zar, zb0, zc6, zic, za6, ↓reduceIte, List.append_nil, List.replicate_zero, List.replicate_succ, and_true, Nat.reduceEqDiff, shB, zqn, killAll, zjb, List.drop_zero, Nat.reduceAdd, List.length_map, zc6, zpe, zll, Int.reduceToNat, Nat.reduceBNe, List.filterMap_nil, znt, zea, zeb, zfm, zjo, zjp, zof, zsk, zge, zog, zoh, ztu, joh, jeq, jer, jes, zgb]
     refine hK19 _ _ (hK15 _ _ ?_)
     refine zbs hp zad hc rfl fun K20 hK20 => ?_
     simp -dsimp -implicitDefEqProofs (disch := first | omega | decide) only [q_r, ↓reduceIte, Nat.reduceEqDiff]
     refine hK20 _ _ ⟨_, _, _, ?_, ⟨k + 1, os ++ [⟨nth [1, 5, 6, 7, 8, 9, 10] ((nth x.out k).a % 7).toNat, (nth x.out k).b % 3, (nth x.out k).c % 3⟩], dr ++ [jcl .and .i64 (1 + ws.length + gs.length - (nth x.out k).d) 1023 % (2 + ws.length + gs.length)], ⟨by omega, by simp [ho], by simp [hd], hdr.snoc hm0 (by omega)⟩, rfl, rfl, rfl⟩, ?_⟩
     ·first | omega | (simp only [List.length_cons]; omega) | (dsimp only; omega)
     ·refine Rt.trans (Rt.gc (keep := [0,1,2,3,4,11,13]) (by decide) (by decide) (by simp [])) ?_
      refine Rt.end (zaa (zaa (zaa (zaa (zae _) rfl) rfl) rfl) rfl) ?_
      simp only [zbm, gcH, zbb, zap, zcb, gcV, Nat.reduceAdd, zcp, za2, zav, List.map_cons, List.map_nil, List.getD_cons_zero, List.getD_cons_succ, ↓reduceIte, Nat.reduceEqDiff, Option.map_some, ziq]; simp [zjr, iD]
    ·refine zbd (hJ5 _ _ ⟨_, _, os, dr, ⟨by omega, by omega, hdr⟩, rfl, rfl, ?_⟩)
     refine Rt.end (zaa (zaa (zaa (zae _) rfl) rfl) rfl) ?_
     rfl
   ·simp -dsimp -implicitDefEqProofs (disch := first | omega | decide) only [q_r, zam, zac, zc1, zar, ↓reduceIte, Nat.reduceEqDiff, iD, zbm, Nat.reduceAdd, ziq, q, decide_false, zns, jbz, jb0, jb1]
    refine hK14 _ _ ?_
    refine zag rfl (fun ht => ?_) (fun ht => ?_)
    ·cases ht
    ·refine zbd (hJ5 _ _ ⟨_, _, os, dr, ⟨by omega, by omega, hdr⟩, rfl, rfl, ?_⟩)
     refine Rt.end (zaa (zaa (zaa (zae _) rfl) rfl) rfl) ?_
     rfl
  refine zab hp zad hc rfl fun K21 hK21 => ?_
  simp -dsimp -implicitDefEqProofs (disch := first | omega | decide) only [q_r, zbm, ziq]
  refine hK21 _ _ ?_
  refine zaq ?_
  refine za4 hp (fun τ' H' mm => ∃ (k : Nat) (gs : List Gate), (k ≤ 60 ∧ gs.length = k ∧ GatesOk (2 + ws.length) gs) ∧ mm = 60 - k ∧ H' = [.cells (avs (ziq x)), .cells [.d (.val (.slice none 0 0)), .d (.val (.slice none 0 0)), .d (.val (.slice none 0 0)), .d (.val (.slice none 0 0))], .cells [.os 3 3 0 ws.length, .os 5 4 0 gs.length, .d (.val (.slice none 0 0)), .d (.val (.slice none 0 0))], .cells (avs (ws.flatMap zjr)), .cells (avs (gs.flatMap zd4))] ∧ τ' = frL [(1, .op 0 0), (2, .op 1 0), (3, .op 2 0), (6, .d (iD k))]) (60) ?_ ⟨0, [], ⟨by omega, rfl, jfo _⟩, rfl, rfl, rfl⟩ ?_
  ·refine Rt.trans (Rt.nilc 2 1 5 rfl rfl) ?_
   refine Rt.end (zaa (zaa (zaa (zaa (zae _) rfl) rfl) rfl) rfl) ?_
   rfl
  rintro τ' H' mm ⟨k, gs, ⟨hk, hw, hgs⟩, rfl, rfl, rfl⟩
  refine zaf fun K22 hK22 => ?_
  refine zab hp zad hc rfl fun K23 hK23 => ?_
  by_cases q : (k : Int) < x.gates.length
  ·simp -dsimp -implicitDefEqProofs (disch := first | omega | decide) only [q_r, zam, zac, zc1, zar, ↓reduceIte, Nat.reduceEqDiff, iD, zbm, Nat.reduceAdd, ziq, q, decide_true, znr, jbw, jbx, jby]
   refine hK23 _ _ ?_
   refine zag rfl (fun ht => ?_) (fun ht => ?_)
   ·have hlt : k < 60 := by simp at ht; omega
    have hl : k < x.gates.length := by omega
    obtain ⟨⟨a0, a1⟩, ⟨b0, b1⟩, ⟨c0, c1⟩, ⟨d0, d1⟩, ⟨e0, e1⟩⟩ := hx.gates k hl
    refine zan (hK22 _ _ ?_)
    refine zaf fun K24 hK24 => ?_
    refine zaq ?_
    refine zbo zad hc mixed rfl (q := 1) (by kernel_rfl) (by kernel_rfl) fun K25 hK25 => ?_
    simp -dsimp -implicitDefEqProofs (disch := first | omega | decide) only [q_r, zam, zac, ixO, zai, zc1, zar, zb0, zc6, za6, ↓reduceIte, List.replicate_zero, List.replicate_succ, D.one, Value.oneCell', and_self, Int.toNat_natCast, Nat.reduceEqDiff, shB, zqn, killAll, bD, Nat.reduceAdd, zc6, zpe, r5C, jpo, znr, jbw, jbx, jby, jre, jrf, zfm, zjo, zjp, zof, jrg]
    refine hK25 _ _ ?_
    refine zbo zad hc mixed rfl (q := 1) (by kernel_rfl) (by kernel_rfl) fun K26 hK26 => ?_
    simp -dsimp -implicitDefEqProofs (disch := first | omega | decide) only [q_r, zam, ixO, zai, zf9, zb7, zb0, zc6, za6, ↓reduceIte, List.replicate_zero, List.replicate_succ, AV.one, D.one, Value.oneCell', Nat.reduceEqDiff, shB, zqn, killAll, Nat.reduceAdd, zc6, zpe, Int.toNat_zero, Int.reduceToNat, jhm, jeq, jer, jes, zsk, jrc, jk9, jla, ztw, jk8, jrb]
    refine hK26 _ _ ?_
    refine zaf fun K27 hK27 => ?_
    refine zab hp zad hc rfl fun K28 hK28 => ?_
    simp -dsimp -implicitDefEqProofs (disch := first | omega | decide) only [q_r, zam, zac, ↓reduceIte, Nat.reduceAdd, zjq, zci, zcn]
    refine hK28 _ _ ?_
    refine zag rfl (fun ht => ?_) (fun ht => ?_)
    ·have f1 : ¬ 1 + (nth x.gates k).a % 7 = 1 := by simpa using ht
     refine zbs hp zad hc rfl fun K29 hK29 => ?_
     simp -dsimp -implicitDefEqProofs (disch := first | omega | decide) only [q_r, zam, zac, ixO, zai, zf9, za6, ↓reduceIte, Nat.reduceEqDiff, Nat.reduceAdd, Int.reduceToNat, jhm, jeq, jer, jes, zci, zsk, ztx]
     refine hK29 _ _ (hK27 _ _ ?_)
     refine zaf fun K30 hK30 => ?_
     refine zab hp zad hc rfl fun K31 hK31 => ?_
     simp -dsimp -implicitDefEqProofs (disch := first | omega | decide) only [q_r, zam, zac, ↓reduceIte, Nat.reduceEqDiff, Nat.reduceAdd, zjq, zci, zcn]
     refine hK31 _ _ ?_
     refine zag rfl (fun ht => ?_) (fun ht => ?_)
     ·have f2 : 5 ≤ 1 + (nth x.gates k).a % 7 := by simpa using ht
      refine zbs hp zad hc rfl fun K32 hK32 => ?_
      simp -dsimp -implicitDefEqProofs (disch := first | omega | decide) only [q_r, zam, zac, ixO, zai, zf9, za6, ↓reduceIte, Nat.reduceEqDiff, Nat.reduceAdd, Int.reduceToNat, jhm, jeq, jer, jes, zci, zsk, zty]
      refine hK32 _ _ (hK30 _ _ ?_)
      refine zaf fun K33 hK33 => ?_
      refine zab hp zad hc rfl fun K34 hK34 => ?_
      simp -dsimp -implicitDefEqProofs (disch := first | omega | decide) only [q_r, zam, zac, ↓reduceIte, Nat.reduceEqDiff, Nat.reduceAdd, zjq, zci, zcn]
      refine hK34 _ _ ?_
      refine zag rfl (fun ht => ?_) (fun ht => ?_)
      ·have f3 : 1 + (nth x.gates k).a % 7 = 7 := by simpa using ht
       refine zbs hp zad hc rfl fun K35 hK35 => ?_
       simp -dsimp -implicitDefEqProofs (disch := first | omega | decide) only [q_r, zam, zac, ixO, zai, zf9, za6, ↓reduceIte, Nat.reduceEqDiff, Nat.reduceAdd, Int.reduceToNat, jhm, jeq, jer, jes, zci, zsk, zxj]
       refine hK35 _ _ (hK33 _ _ ?_)
       refine zbs hp zad hc rfl fun K36 hK36 => ?_
       simp -dsimp -implicitDefEqProofs (disch := first | assumption | omega | (simp only [maxLen, List.length_replicate, eq_self, true_and, and_true, and_self, zah, List.length_map, List.length_append, List.length_cons, List.length_nil, List.length_set, List.length_range, List.length_take, List.length_drop, zby, zbe] <;> omega) | decide | fail) only [q_r, zau, Option.map_some, zam, zac, zb0, zic, za6, ↓reduceIte, Bool.false_eq_true, eq_self, zat, zcw, zdo, zb2, List.map_cons, List.map_nil, List.length_cons, List.length_nil, List.getElem?_cons_zero, List.getElem?_cons_succ, List.cons_append, List.nil_append, List.append_nil, List.set_cons_zero, List.set_cons_succ, List.replicate_zero, List.replicate_succ, List.all_cons, List.all_nil, zdg, zfh, zdh, zcx, AV.one, D.one, Value.oneCell', Bool.and_self, true_and, Nat.zero_add, Nat.reduceEqDiff, List.drop_zero, Nat.reduceAdd, List.nil_append, zau, Nat.zero_mul, Nat.reduceMul, List.flatten_cons, List.flatten_nil, zge, zog, zoh, ztw, zv5, jg8]
       refine hK36 _ _ (hK24 _ _ ?_)
       refine zbs hp zad hc rfl fun K37 hK37 => ?_
       simp -dsimp -implicitDefEqProofs (disch := first | omega | decide) only [q_r, ↓reduceIte, Nat.reduceEqDiff]
       refine hK37 _ _ ⟨_, _, _, ?_, ⟨k + 1, gs ++ [⟨1 + (nth x.gates k).a % 7, (nth x.gates k).b % (2 + ws.length + k), (nth x.gates k).c % (2 + ws.length + k), (nth x.gates k).d % (2 + ws.length + k), 8 * ((nth x.gates k).e % 3) + (nth x.gates k).e / 3 % 2⟩], ⟨by omega, by simp [hw], hgs.snoc (mkG hw a0 a1 b0 b1 c0 c1 d0 d1 e0 e1 (.inr rfl) (.inr rfl) (.inr rfl))⟩, rfl, rfl, rfl⟩, ?_⟩
       ·first | omega | (simp only [List.length_cons]; omega) | (dsimp only; omega)
       ·refine Rt.trans (Rt.gc (keep := [0,1,2,3,8]) (by decide) (by decide) (by simp [])) ?_
        refine Rt.end (zaa (zaa (zaa (zaa (zae _) rfl) rfl) rfl) rfl) ?_
        simp only [zbm, gcH, zbb, zap, zcb, gcV, Nat.reduceAdd, zcp, za2, zav, List.map_cons, List.map_nil, List.getD_cons_zero, List.getD_cons_succ, ↓reduceIte, Nat.reduceEqDiff, Option.map_some, ziq]; simp [zd4, iD]
      ·have f3 : ¬ 1 + (nth x.gates k).a % 7 = 7 := by simpa using ht
       refine zan (hK33 _ _ ?_)
       refine zbs hp zad hc rfl fun K38 hK38 => ?_
       simp -dsimp -implicitDefEqProofs (disch := first | assumption | omega | (simp only [maxLen, List.length_replicate, eq_self, true_and, and_true, and_self, zah, List.length_map, List.length_append, List.length_cons, List.length_nil, List.length_set, List.length_range, List.length_take, List.length_drop, zby, zbe] <;> omega) | decide | fail) only [q_r, zau, Option.map_some, zam, zac, zb0, zic, za6, ↓reduceIte, Bool.false_eq_true, eq_self, zat, zcw, zdo, zb2, List.map_cons, List.map_nil, List.length_cons, List.length_nil, List.getElem?_cons_zero, List.getElem?_cons_succ, List.cons_append, List.nil_append, List.append_nil, List.set_cons_zero, List.set_cons_succ, List.replicate_zero, List.replicate_succ, List.all_cons, List.all_nil, zdg, zfh, zdh, zcx, AV.one, D.one, Value.oneCell', Bool.and_self, true_and, Nat.zero_add, Nat.reduceEqDiff, List.drop_zero, Nat.reduceAdd, List.nil_append, zau, Nat.zero_mul, Nat.reduceMul, List.flatten_cons, List.flatten_nil, zge, zog, zoh, ztw, zv5, jg8]
       refine hK38 _ _ (hK24 _ _ ?_)
       refine zbs hp zad hc rfl fun K39 hK39 => ?_
       simp -dsimp -implicitDefEqProofs (disch := first | omega | decide) only [q_r, ↓reduceIte, Nat.reduceEqDiff]
       refine hK39 _ _ ⟨_, _, _, ?_, ⟨k + 1, gs ++ [⟨1 + (nth x.gates k).a % 7, (nth x.gates k).b % (2 + ws.length + k), (nth x.gates k).c % (2 + ws.length + k), (nth x.gates k).d % (2 + ws.length + k), 0⟩], ⟨by omega, by simp [hw], hgs.snoc (mkG hw a0 a1 b0 b1 c0 c1 d0 d1 e0 e1 (.inr rfl) (.inr rfl) (.inl rfl))⟩, rfl, rfl, rfl⟩, ?_⟩
       ·first | omega | (simp only [List.length_cons]; omega) | (dsimp only; omega)
       ·refine Rt.trans (Rt.gc (keep := [0,1,2,3,8]) (by decide) (by decide) (by simp [])) ?_
        refine Rt.end (zaa (zaa (zaa (zaa (zae _) rfl) rfl) rfl) rfl) ?_
        simp only [zbm, gcH, zbb, zap, zcb, gcV, Nat.reduceAdd, zcp, za2, zav, List.map_cons, List.map_nil, List.getD_cons_zero, List.getD_cons_succ, ↓reduceIte, Nat.reduceEqDiff, Option.map_some, ziq]; simp [zd4, iD]
     ·have f2 : ¬ 5 ≤ 1 + (nth x.gates k).a % 7 := by simpa using ht
      refine zan (hK30 _ _ ?_)
      refine zaf fun K40 hK40 => ?_
      refine zab hp zad hc rfl fun K41 hK41 => ?_
      simp -dsimp -implicitDefEqProofs (disch := first | omega | decide) only [q_r, zam, zac, ↓reduceIte, Nat.reduceEqDiff, Nat.reduceAdd, zjq, zci, zcn]
      refine hK41 _ _ ?_
      refine zag rfl (fun ht => ?_) (fun ht => ?_)
      ·exfalso
       simp at ht
       omega
      ·refine zan (hK40 _ _ ?_)
       refine zbs hp zad hc rfl fun K42 hK42 => ?_
       simp -dsimp -implicitDefEqProofs (disch := first | assumption | omega | (simp only [maxLen, List.length_replicate, eq_self, true_and, and_true, and_self, zah, List.length_map, List.length_append, List.length_cons, List.length_nil, List.length_set, List.length_range, List.length_take, List.length_drop, zby, zbe] <;> omega) | decide | fail) only [q_r, zau, Option.map_some, zam, zac, zb0, zic, za6, ↓reduceIte, Bool.false_eq_true, eq_self, zat, zcw, zdo, zb2, List.map_cons, List.map_nil, List.length_cons, List.length_nil, List.getElem?_cons_zero, List.getElem?_cons_succ, List.cons_append, List.nil_append, List.append_nil, List.set_cons_zero, List.set_cons_succ, List.replicate_zero, List.replicate_succ, List.all_cons, List.all_nil, zdg, zfh, zdh, zcx, AV.one, D.one, Value.oneCell', Bool.and_self, true_and, Nat.zero_add, Nat.reduceEqDiff, List.drop_zero, Nat.reduceAdd, List.nil_append, zau, Nat.zero_mul, Nat.reduceMul, List.flatten_cons, List.flatten_nil, zge, zog, zoh, ztw, zv5, jg8]
       refine hK42 _ _ (hK24 _ _ ?_)
       refine zbs hp zad hc rfl fun K43 hK43 => ?_
       simp -dsimp -implicitDefEqProofs (disch := first | omega | decide) only [q_r, ↓reduceIte, Nat.reduceEqDiff]
       refine hK43 _ _ ⟨_, _, _, ?_, ⟨k + 1, gs ++ [⟨1 + (nth x.gates k).a % 7, (nth x.gates k).b % (2 + ws.length + k), (nth x.gates k).c % (2 + ws.length + k), 0, 0⟩], ⟨by omega, by simp [hw], hgs.snoc (mkG hw a0 a1 b0 b1 c0 c1 d0 d1 e0 e1 (.inr rfl) (.inl rfl) (.inl rfl))⟩, rfl, rfl, rfl⟩, ?_⟩
       ·first | omega | (simp only [List.length_cons]; omega) | (dsimp only; omega)
       ·refine Rt.trans (Rt.gc (keep := [0,1,2,3,8]) (by decide) (by decide) (by simp [])) ?_
        refine Rt.end (zaa (zaa (zaa (zaa (zae _) rfl) rfl) rfl) rfl) ?_
        simp only [zbm, gcH, zbb, zap, zcb, gcV, Nat.reduceAdd, zcp, za2, zav, List.map_cons, List.map_nil, List.getD_cons_zero, List.getD_cons_succ, ↓reduceIte, Nat.reduceEqDiff, Option.map_some, ziq]; simp [zd4, iD]
    ·have f1 : 1 + (nth x.gates k).a % 7 = 1 := by simpa using ht
     refine zan (hK27 _ _ ?_)
     refine zaf fun K44 hK44 => ?_
     refine zab hp zad hc rfl fun K45 hK45 => ?_
     simp -dsimp -implicitDefEqProofs (disch := first | omega | decide) only [q_r, zam, zac, ↓reduceIte, Nat.reduceEqDiff, Nat.reduceAdd, zjq, zci, zcn]
     refine hK45 _ _ ?_
     refine zag rfl (fun ht => ?_) (fun ht => ?_)
     ·exfalso
      simp at ht
      omega
     ·refine zan (hK44 _ _ ?_)
      refine zaf fun K46 hK46 => ?_
      refine zab hp zad hc rfl fun K47 hK47 => ?_
      simp -dsimp -implicitDefEqProofs (disch := first | omega | decide) only [q_r, zam, zac, ↓reduceIte, Nat.reduceEqDiff, Nat.reduceAdd, zjq, zci, zcn]
      refine hK47 _ _ ?_
      refine zag rfl (fun ht => ?_) (fun ht => ?_)
      ·exfalso
       simp at ht
       omega
      ·refine zan (hK46 _ _ ?_)
       refine zbs hp zad hc rfl fun K48 hK48 => ?_
       simp -dsimp -implicitDefEqProofs (disch := first | assumption | omega | (simp only [maxLen, List.length_replicate, eq_self, true_and, and_true, and_self, zah, List.length_map, List.length_append, List.length_cons, List.length_nil, List.length_set, List.length_range, List.length_take, List.length_drop, zby, zbe] <;> omega) | decide | fail) only [q_r, zau, Option.map_some, zam, zac, zb0, zic, za6, ↓reduceIte, Bool.false_eq_true, eq_self, zat, zcw, zdo, zb2, List.map_cons, List.map_nil, List.length_cons, List.length_nil, List.getElem?_cons_zero, List.getElem?_cons_succ, List.cons_append, List.nil_append, List.append_nil, List.set_cons_zero, List.set_cons_succ, List.replicate_zero, List.replicate_succ, List.all_cons, List.all_nil, zdg, zfh, zdh, zcx, AV.one, D.one, Value.oneCell', Bool.and_self, true_and, Nat.zero_add, Nat.reduceEqDiff, List.drop_zero, Nat.reduceAdd, List.nil_append, zau, Nat.zero_mul, Nat.reduceMul, List.flatten_cons, List.flatten_nil, zge, zog, zoh, ztw, zv5, jg8]
       refine hK48 _ _ (hK24 _ _ ?_)
       refine zbs hp zad hc rfl fun K49 hK49 => ?_
       simp -dsimp -implicitDefEqProofs (disch := first | omega | decide) only [q_r, ↓reduceIte, Nat.reduceEqDiff]
       refine hK49 _ _ ⟨_, _, _, ?_, ⟨k + 1, gs ++ [⟨1 + (nth x.gates k).a % 7, (nth x.gates k).b % (2 + ws.length + k), 0, 0, 0⟩], ⟨by omega, by simp [hw], hgs.snoc (mkG hw a0 a1 b0 b1 c0 c1 d0 d1 e0 e1 (.inl rfl) (.inl rfl) (.inl rfl))⟩, rfl, rfl, rfl⟩, ?_⟩
       ·first | omega | (simp only [List.length_cons]; omega) | (dsimp only; omega)
       ·refine Rt.trans (Rt.gc (keep := [0,1,2,3,8]) (by decide) (by decide) (by simp [])) ?_
        refine Rt.end (zaa (zaa (zaa (zaa (zae _) rfl) rfl) rfl) rfl) ?_
        simp only [zbm, gcH, zbb, zap, zcb, gcV, Nat.reduceAdd, zcp, za2, zav, List.map_cons, List.map_nil, List.getD_cons_zero, List.getD_cons_succ, ↓reduceIte, Nat.reduceEqDiff, Option.map_some, ziq]; simp [zd4, iD]
   ·refine zbd (hJ4 _ _ ⟨_, _, gs, ⟨by omega, hgs⟩, rfl, rfl, ?_⟩)
    refine Rt.end (zaa (zaa (zaa (zae _) rfl) rfl) rfl) ?_
    rfl
  ·simp -dsimp -implicitDefEqProofs (disch := first | omega | decide) only [q_r, zam, zac, zc1, zar, ↓reduceIte, Nat.reduceEqDiff, iD, zbm, Nat.reduceAdd, ziq, q, decide_false, znr, jbw, jbx, jby]
   refine hK23 _ _ ?_
   refine zag rfl (fun ht => ?_) (fun ht => ?_)
   ·cases ht
   ·refine zbd (hJ4 _ _ ⟨_, _, gs, ⟨by omega, hgs⟩, rfl, rfl, ?_⟩)
    refine Rt.end (zaa (zaa (zaa (zae _) rfl) rfl) rfl) ?_
    rfl
 refine zab hp zad hc rfl fun K50 hK50 => ?_
 simp -dsimp -implicitDefEqProofs (disch := first | omega | decide) only [q_r]
 refine hK50 _ _ ?_
 refine zaq ?_
 refine za4 hp (fun τ' H' mm => ∃ (k : Nat) (ws : List Wire), (k ≤ 8 ∧ ws.length = k + 1) ∧ mm = 8 - k ∧ H' = [.cells (avs (ziq x)), .cells [.d (.val (.slice none 0 0)), .d (.val (.slice none 0 0)), .d (.val (.slice none 0 0)), .d (.val (.slice none 0 0))], .cells [.os 3 3 0 ws.length, .d (.val (.slice none 0 0)), .d (.val (.slice none 0 0)), .d (.val (.slice none 0 0))], .cells (avs (ws.flatMap zjr))] ∧ τ' = frL [(1, .op 0 0), (2, .op 1 0), (3, .op 2 0), (4, .d (iD k))]) (8) ?_ ⟨0, [⟨1, 0, 0⟩], ⟨by omega, rfl⟩, rfl, rfl, rfl⟩ ?_
 ·refine Rt.trans (Rt.gc (keep := [0,1,3,2]) (by decide) (by decide) (by simp [])) ?_
  refine Rt.end (zaa (zaa (zaa (zaa (zae _) rfl) rfl) rfl) rfl) ?_
  rfl
 rintro τ' H' mm ⟨k, ws, ⟨hk, hw⟩, rfl, rfl, rfl⟩
 refine zaf fun K51 hK51 => ?_
 refine zab hp zad hc rfl fun K52 hK52 => ?_
 by_cases q : (k : Int) < x.ins.length
 ·simp -dsimp -implicitDefEqProofs (disch := first | omega | decide) only [q_r, zam, zac, zc1, zar, ↓reduceIte, Nat.reduceEqDiff, iD, zbm, Nat.reduceAdd, ziq, q, decide_true, zjm, zvu, zvv, zvw]
  refine hK52 _ _ ?_
  refine zag rfl (fun ht => ?_) (fun ht => ?_)
  ·have hlt : k < 8 := by simp at ht; omega
   have hl : k < x.ins.length := by omega
   obtain ⟨b0, b1⟩ := hx.ins k hl
   refine zan (hK51 _ _ ?_)
   refine zaf fun K53 hK53 => ?_
   refine zaq ?_
   refine zbo zad hc mixed rfl (q := 1) (by kernel_rfl) (by kernel_rfl) fun K54 hK54 => ?_
   simp -dsimp -implicitDefEqProofs (disch := first | omega | decide) only [q_r, zam, zac, ixO, zai, zf9, zb7, zb0, zc6, za6, ↓reduceIte, List.replicate_zero, List.replicate_succ, AV.one, D.one, Value.oneCell', Int.toNat_natCast, Nat.reduceEqDiff, shB, zqn, killAll, bD, Nat.reduceAdd, zc6, zpe, zjm, zvu, zvv, zvw, jeq, jer, jes, zsk, jhl, ztz, je0, jca, jog, jhk]
   refine hK54 _ _ ?_
   refine zaf fun K55 hK55 => ?_
   refine zab hp zad hc rfl fun K56 hK56 => ?_
   rcases tf (1 + nth x.ins k % 4 == 1) with e1 | e1
   rotate_left
   rcases tf (1 + nth x.ins k % 4 == 2) with e2 | e2
   rotate_left 2
   ·have e2 := e1
    simp -dsimp -implicitDefEqProofs (disch := first | omega | decide) only [q_r, zam, zac, ↓reduceIte, Nat.reduceEqDiff, Nat.reduceAdd, e1, zxm, zci, zcn]
    refine hK56 _ _ ?_
    refine zag rfl (fun ht => ?_) (fun ht => ?_)
    ·refine zbs hp zad hc rfl fun K57 hK57 => ?_
     simp -dsimp -implicitDefEqProofs (disch := first | omega | decide) only [q_r, zam, zac, ixO, zai, zf9, za6, ↓reduceIte, Int.toNat_natCast, Nat.reduceEqDiff, bD, Nat.reduceAdd, zjm, zvu, zvv, zvw, jeq, jer, jes, zci, zsk, je1]
     refine hK57 _ _ (hK55 _ _ ?_)
     refine zbs hp zad hc rfl fun K58 hK58 => ?_
     simp -dsimp -implicitDefEqProofs (disch := first | assumption | omega | (simp only [maxLen, List.length_replicate, eq_self, true_and, and_true, and_self, zah, List.length_map, List.length_append, List.length_cons, List.length_nil, List.length_set, List.length_range, List.length_take, List.length_drop, zby, zbe] <;> omega) | decide | fail) only [q_r, zau, Option.map_some, zam, zac, zb0, zic, za6, ↓reduceIte, Bool.false_eq_true, eq_self, zat, zcw, zdo, zb2, List.map_cons, List.map_nil, List.length_cons, List.length_nil, List.getElem?_cons_zero, List.getElem?_cons_succ, List.cons_append, List.nil_append, List.append_nil, List.set_cons_zero, List.set_cons_succ, List.replicate_zero, List.replicate_succ, List.all_cons, List.all_nil, zdg, zfh, zdh, zcx, AV.one, D.one, Value.oneCell', Bool.and_self, true_and, Nat.zero_add, Nat.add_zero, Nat.reduceEqDiff, List.drop_zero, Nat.reduceAdd, List.nil_append, zau, Nat.zero_mul, Nat.reduceMul, List.flatten_cons, List.flatten_nil, zfm, zjo, zjp, jca, jhj, jb3]
     refine hK58 _ _ (hK53 _ _ ?_)
     refine zbs hp zad hc rfl fun K59 hK59 => ?_
     simp -dsimp -implicitDefEqProofs (disch := first | omega | decide) only [q_r, ↓reduceIte, Nat.reduceEqDiff]
     refine hK59 _ _ ⟨_, _, _, ?_, ⟨k + 1, ws ++ [⟨1 + nth x.ins k % 4, nth x.ins k / 4 % 3, nth x.ins k / 12 % 3⟩], ⟨by omega, by simp [hw]⟩, rfl, rfl, rfl⟩, ?_⟩
     ·first | omega | (simp only [List.length_cons]; omega) | (dsimp only; omega)
     ·refine Rt.trans (Rt.gc (keep := [0,1,2,6]) (by decide) (by decide) (by simp [])) ?_
      refine Rt.end (zaa (zaa (zaa (zaa (zae _) rfl) rfl) rfl) rfl) ?_
      simp only [zbm, gcH, zbb, zap, zcb, gcV, Nat.reduceAdd, zcp, za2, zav, List.map_cons, List.map_nil, List.getD_cons_zero, List.getD_cons_succ, ↓reduceIte, Nat.reduceEqDiff, Option.map_some, ziq]; simp [zjr, iD]
    ·cases ht
   ·simp -dsimp -implicitDefEqProofs (disch := first | omega | decide) only [q_r, zam, zac, ↓reduceIte, Nat.reduceEqDiff, Nat.reduceAdd, e1, e2, zxm, zci, zcn]
    refine hK56 _ _ ?_
    refine zag rfl (fun ht => ?_) (fun ht => ?_)
    ·refine zbs hp zad hc rfl fun K60 hK60 => ?_
     simp -dsimp -implicitDefEqProofs (disch := first | omega | decide) only [q_r, zam, zac, ixO, zai, zf9, za6, ↓reduceIte, Int.toNat_natCast, Nat.reduceEqDiff, bD, Nat.reduceAdd, zjm, zvu, zvv, zvw, jeq, jer, jes, zci, zsk, je1]
     refine hK60 _ _ (hK55 _ _ ?_)
     refine zbs hp zad hc rfl fun K61 hK61 => ?_
     simp -dsimp -implicitDefEqProofs (disch := first | assumption | omega | (simp only [maxLen, List.length_replicate, eq_self, true_and, and_true, and_self, zah, List.length_map, List.length_append, List.length_cons, List.length_nil, List.length_set, List.length_range, List.length_take, List.length_drop, zby, zbe] <;> omega) | decide | fail) only [q_r, zau, Option.map_some, zam, zac, zb0, zic, za6, ↓reduceIte, Bool.false_eq_true, eq_self, zat, zcw, zdo, zb2, List.map_cons, List.map_nil, List.length_cons, List.length_nil, List.getElem?_cons_zero, List.getElem?_cons_succ, List.cons_append, List.nil_append, List.append_nil, List.set_cons_zero, List.set_cons_succ, List.replicate_zero, List.replicate_succ, List.all_cons, List.all_nil, zdg, zfh, zdh, zcx, AV.one, D.one, Value.oneCell', Bool.and_self, true_and, Nat.zero_add, Nat.add_zero, Nat.reduceEqDiff, List.drop_zero, Nat.reduceAdd, List.nil_append, zau, Nat.zero_mul, Nat.reduceMul, List.flatten_cons, List.flatten_nil, zfm, zjo, zjp, jca, jhj, jb3]
     refine hK61 _ _ (hK53 _ _ ?_)
     refine zbs hp zad hc rfl fun K62 hK62 => ?_
     simp -dsimp -implicitDefEqProofs (disch := first | omega | decide) only [q_r, ↓reduceIte, Nat.reduceEqDiff]
     refine hK62 _ _ ⟨_, _, _, ?_, ⟨k + 1, ws ++ [⟨1 + nth x.ins k % 4, nth x.ins k / 4 % 3, nth x.ins k / 12 % 3⟩], ⟨by omega, by simp [hw]⟩, rfl, rfl, rfl⟩, ?_⟩
     ·first | omega | (simp only [List.length_cons]; omega) | (dsimp only; omega)
     ·refine Rt.trans (Rt.gc (keep := [0,1,2,6]) (by decide) (by decide) (by simp [])) ?_
      refine Rt.end (zaa (zaa (zaa (zaa (zae _) rfl) rfl) rfl) rfl) ?_
      simp only [zbm, gcH, zbb, zap, zcb, gcV, Nat.reduceAdd, zcp, za2, zav, List.map_cons, List.map_nil, List.getD_cons_zero, List.getD_cons_succ, ↓reduceIte, Nat.reduceEqDiff, Option.map_some, ziq]; simp [zjr, iD]
    ·cases ht
   ·simp -dsimp -implicitDefEqProofs (disch := first | omega | decide) only [q_r, zam, zac, ↓reduceIte, Nat.reduceEqDiff, Nat.reduceAdd, e1, e2, zxm, zci, zcn]
    refine hK56 _ _ ?_
    refine zag rfl (fun ht => ?_) (fun ht => ?_)
    ·cases ht
    ·refine zan (hK55 _ _ ?_)
     refine zbs hp zad hc rfl fun K63 hK63 => ?_
     simp -dsimp -implicitDefEqProofs (disch := first | assumption | omega | (simp only [maxLen, List.length_replicate, eq_self, true_and, and_true, and_self, zah, List.length_map, List.length_append, List.length_cons, List.length_nil, List.length_set, List.length_range, List.length_take, List.length_drop, zby, zbe] <;> omega) | decide | fail) only [q_r, zau, Option.map_some, zam, zac, zb0, zic, za6, ↓reduceIte, Bool.false_eq_true, eq_self, zat, zcw, zdo, zb2, List.map_cons, List.map_nil, List.length_cons, List.length_nil, List.getElem?_cons_zero, List.getElem?_cons_succ, List.cons_append, List.nil_append, List.append_nil, List.set_cons_zero, List.set_cons_succ, List.replicate_zero, List.replicate_succ, List.all_cons, List.all_nil, zdg, zfh, zdh, zcx, AV.one, D.one, Value.oneCell', Bool.and_self, true_and, Nat.zero_add, Nat.add_zero, Nat.reduceEqDiff, List.drop_zero, Nat.reduceAdd, List.nil_append, zau, Nat.zero_mul, Nat.reduceMul, List.flatten_cons, List.flatten_nil, zfm, zjo, zjp, jca, jhj, jb3]
     refine hK63 _ _ (hK53 _ _ ?_)
     refine zbs hp zad hc rfl fun K64 hK64 => ?_
     simp -dsimp -implicitDefEqProofs (disch := first | omega | decide) only [q_r, ↓reduceIte, Nat.reduceEqDiff]
     refine hK64 _ _ ⟨_, _, _, ?_, ⟨k + 1, ws ++ [⟨1 + nth x.ins k % 4, nth x.ins k / 4 % 3, 0⟩], ⟨by omega, by simp [hw]⟩, rfl, rfl, rfl⟩, ?_⟩
     ·first | omega | (simp only [List.length_cons]; omega) | (dsimp only; omega)
     ·refine Rt.trans (Rt.gc (keep := [0,1,2,6]) (by decide) (by decide) (by simp [])) ?_
      refine Rt.end (zaa (zaa (zaa (zaa (zae _) rfl) rfl) rfl) rfl) ?_
      simp only [zbm, gcH, zbb, zap, zcb, gcV, Nat.reduceAdd, zcp, za2, zav, List.map_cons, List.map_nil, List.getD_cons_zero, List.getD_cons_succ, ↓reduceIte, Nat.reduceEqDiff, Option.map_some, ziq]; simp [zjr, iD]
  ·refine zbd (hJ3 _ _ ⟨_, _, ws, by omega, rfl, rfl, ?_⟩)
   refine Rt.end (zaa (zaa (zaa (zae _) rfl) rfl) rfl) ?_
   rfl
 ·simp -dsimp -implicitDefEqProofs (disch := first | omega | decide) only [q_r, zam, zac, zc1, zar, ↓reduceIte, Nat.reduceEqDiff, iD, zbm, Nat.reduceAdd, ziq, q, decide_false, zjm, zvu, zvv, zvw]
  refine hK52 _ _ ?_
  refine zag rfl (fun ht => ?_) (fun ht => ?_)
  ·cases ht
  ·skip
   refine zbd (hJ3 _ _ ⟨_, _, ws, by omega, rfl, rfl, ?_⟩)
   refine Rt.end (zaa (zaa (zaa (zae _) rfl) rfl) rfl) ?_
   rfl
theorem zir {l : List R5} : (l.flatMap r5C).length = l.length * 5 := zez jsk l
theorem zis {l : List R4} : (l.flatMap r4C).length = l.length * 4 := zez jsl l
end Go.Proofs.Ytgfnpfchdlcoeaa
