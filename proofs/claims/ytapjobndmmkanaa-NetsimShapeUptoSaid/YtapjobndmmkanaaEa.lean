/- The nets that bytes describe are valid (as netsim's laws have them). -/
import Derived.Test.YtapjobndmmkanaaQr
import Derived.Test.YtapjobndmmkanaaBa
import Derived.Test.YtapjobndmmkanaaTy
import Derived.Test.YtapjobndmmkanaaDa
import Derived.Test.YtapjobndmmkanaaSa
import Derived.Test.YtapjobndmmkanaaDb
set_option linter.unusedVariables false
set_option linter.unusedSimpArgs false
set_option maxRecDepth 100000
set_option maxHeartbeats 4000000
namespace Go.Proofs.Ytapjobndmmkanaa
open Go Go.RowKit
theorem zbj : (((((((type_of% @zvs) ∧ ((type_of% @zvt) ∧ (type_of% @ze9))) ∧ ((type_of% @zfa) ∧ ((type_of% @zv3) ∧ (type_of% @zv2)))) ∧ (((type_of% @jdk) ∧ ((type_of% @zt1) ∧ (type_of% @zt2))) ∧ ((type_of% @zt3) ∧ ((type_of% @zl3) ∧ (type_of% @zl4))))) ∧ ((((type_of% @zqg) ∧ ((type_of% @zqf) ∧ (type_of% @zlz))) ∧ ((type_of% @zl0) ∧ ((type_of% @zl1) ∧ (type_of% @zl2)))) ∧ (((type_of% @jav) ∧ ((type_of% @jaw) ∧ (type_of% @jdg))) ∧ ((type_of% @ztl) ∧ ((type_of% @ztm) ∧ (type_of% @ztn)))))) ∧ (((((type_of% @zto) ∧ ((type_of% @zfq) ∧ (type_of% @zfr))) ∧ ((type_of% @zo8) ∧ ((type_of% @zo9) ∧ (type_of% @zpa)))) ∧ (((type_of% @zjw) ∧ ((type_of% @zjx) ∧ (type_of% @ze5))) ∧ ((type_of% @ze6) ∧ ((type_of% @ze7) ∧ (type_of% @zjs))))) ∧ ((((type_of% @zjt) ∧ ((type_of% @zju) ∧ (type_of% @zjv))) ∧ ((type_of% @zvy) ∧ ((type_of% @zvz) ∧ (type_of% @zv0)))) ∧ (((type_of% @zv1) ∧ ((type_of% @ze8) ∧ (type_of% @zth))) ∧ (((type_of% @zti) ∧ (type_of% @jdc)) ∧ ((type_of% @jdd) ∧ (type_of% @jde))))))) ∧ ((((((type_of% @jdf) ∧ ((type_of% @jdp) ∧ (type_of% @jdq))) ∧ ((type_of% @jdr) ∧ ((type_of% @jdt) ∧ (type_of% @jds)))) ∧ (((type_of% @jf5) ∧ ((type_of% @jf6) ∧ (type_of% @jf2))) ∧ ((type_of% @jf3) ∧ ((type_of% @jf4) ∧ (type_of% @ztf))))) ∧ ((((type_of% @ztg) ∧ ((type_of% @jc8) ∧ (type_of% @jc9))) ∧ ((type_of% @jda) ∧ ((type_of% @jdb) ∧ (type_of% @zyp)))) ∧ (((type_of% @zyq) ∧ ((type_of% @zyr) ∧ (type_of% @zyt))) ∧ (((type_of% @zys) ∧ (type_of% @jdo)) ∧ ((type_of% @zt6) ∧ (type_of% @zt9)))))) ∧ (((((type_of% @zua) ∧ ((type_of% @zub) ∧ (type_of% @zuc))) ∧ ((type_of% @zv7) ∧ ((type_of% @zv8) ∧ (type_of% @zwa)))) ∧ (((type_of% @zv9) ∧ ((type_of% @zka) ∧ (type_of% @zkb))) ∧ ((type_of% @zkc) ∧ ((type_of% @zkd) ∧ (type_of% @zke))))) ∧ ((((type_of% @zkf) ∧ ((type_of% @zkg) ∧ (type_of% @zkh))) ∧ ((type_of% @ztd) ∧ ((type_of% @zte) ∧ (type_of% @zvo)))) ∧ (((type_of% @zvp) ∧ ((type_of% @zvq) ∧ (type_of% @zvr))) ∧ (((type_of% @zd5) ∧ (type_of% @zd6)) ∧ ((type_of% @zfu) ∧ (type_of% @zfv)))))))) := ⟨⟨⟨⟨⟨⟨@zvs, ⟨@zvt, @ze9⟩⟩, ⟨@zfa, ⟨@zv3, @zv2⟩⟩⟩, ⟨⟨@jdk, ⟨@zt1, @zt2⟩⟩, ⟨@zt3, ⟨@zl3, @zl4⟩⟩⟩⟩, ⟨⟨⟨@zqg, ⟨@zqf, @zlz⟩⟩, ⟨@zl0, ⟨@zl1, @zl2⟩⟩⟩, ⟨⟨@jav, ⟨@jaw, @jdg⟩⟩, ⟨@ztl, ⟨@ztm, @ztn⟩⟩⟩⟩⟩, ⟨⟨⟨⟨@zto, ⟨@zfq, @zfr⟩⟩, ⟨@zo8, ⟨@zo9, @zpa⟩⟩⟩, ⟨⟨@zjw, ⟨@zjx, @ze5⟩⟩, ⟨@ze6, ⟨@ze7, @zjs⟩⟩⟩⟩, ⟨⟨⟨@zjt, ⟨@zju, @zjv⟩⟩, ⟨@zvy, ⟨@zvz, @zv0⟩⟩⟩, ⟨⟨@zv1, ⟨@ze8, @zth⟩⟩, ⟨⟨@zti, @jdc⟩, ⟨@jdd, @jde⟩⟩⟩⟩⟩⟩, ⟨⟨⟨⟨⟨@jdf, ⟨@jdp, @jdq⟩⟩, ⟨@jdr, ⟨@jdt, @jds⟩⟩⟩, ⟨⟨@jf5, ⟨@jf6, @jf2⟩⟩, ⟨@jf3, ⟨@jf4, @ztf⟩⟩⟩⟩, ⟨⟨⟨@ztg, ⟨@jc8, @jc9⟩⟩, ⟨@jda, ⟨@jdb, @zyp⟩⟩⟩, ⟨⟨@zyq, ⟨@zyr, @zyt⟩⟩, ⟨⟨@zys, @jdo⟩, ⟨@zt6, @zt9⟩⟩⟩⟩⟩, ⟨⟨⟨⟨@zua, ⟨@zub, @zuc⟩⟩, ⟨@zv7, ⟨@zv8, @zwa⟩⟩⟩, ⟨⟨@zv9, ⟨@zka, @zkb⟩⟩, ⟨@zkc, ⟨@zkd, @zke⟩⟩⟩⟩, ⟨⟨⟨@zkf, ⟨@zkg, @zkh⟩⟩, ⟨@ztd, ⟨@zte, @zvo⟩⟩⟩, ⟨⟨@zvp, ⟨@zvq, @zvr⟩⟩, ⟨⟨@zd5, @zd6⟩, ⟨@zfu, @zfv⟩⟩⟩⟩⟩⟩⟩
def DriveOk (m : Nat) (l : List Int) : Prop := ∀ k, k < l.length → 0 ≤ nth l k ∧ nth l k < m
structure R5 where
 a : Int
 b : Int
 c : Int
 d : Int
 e : Int
instance : Inhabited R5 := ⟨⟨0, 0, 0, 0, 0⟩⟩
structure R4 where
 a : Int
 b : Int
 c : Int
 d : Int
instance : Inhabited R4 := ⟨⟨0, 0, 0, 0⟩⟩
def r5C (g : R5) : List D := [bD g.a, bD g.b, bD g.c, bD g.d, bD g.e]
def r4C (g : R4) : List D := [bD g.a, bD g.b, bD g.c, bD g.d]
theorem jfe (g : R5) : (r5C g).length = 5 := rfl
theorem jff (g : R4) : (r4C g).length = 4 := rfl
theorem jd5 {l : List R5} {k : Nat} (h : k < l.length) : zbk (l.flatMap r5C) (k * 5) 5 = some (r5C (nth l k)) := zgm jfe h
theorem jd6 {l : List R4} {k : Nat} (h : k < l.length) : zbk (l.flatMap r4C) (k * 4) 4 = some (r4C (nth l k)) := zgm jff h
structure RawN where
 ins : List Int
 gates : List R5
 out : List R4
def B1 (n : Int) : Prop := 0 ≤ n ∧ n < 256
structure RawOk (x : RawN) : Prop where
 ins : ∀ k, k < x.ins.length → B1 (nth x.ins k)
 gates : ∀ k, k < x.gates.length → B1 (nth x.gates k).a ∧ B1 (nth x.gates k).b ∧ B1 (nth x.gates k).c ∧ B1 (nth x.gates k).d ∧ B1 (nth x.gates k).e
 out : ∀ k, k < x.out.length → B1 (nth x.out k).a ∧ B1 (nth x.out k).b ∧ B1 (nth x.out k).c ∧ B1 (nth x.out k).d
def zbb (x : RawN) : List D := [bytesD x.ins, .fs (x.gates.flatMap r5C) x.gates.length, .fs (x.out.flatMap r4C) x.out.length]
structure WireIn (w : Wire) : Prop where
 k1 : 1 ≤ w.kind
 k4 : w.kind ≤ 4
 i0 : 0 ≤ w.i
 b0 : 0 ≤ w.bit
 b7 : w.bit ≤ 7
 i2 : w.i ≤ 1000000
structure WireOut (w : Wire) : Prop where
 k : w.kind = 1 ∨ (5 ≤ w.kind ∧ w.kind ≤ 10)
 i0 : 0 ≤ w.i
 b0 : 0 ≤ w.bit
 b7 : w.bit ≤ 7
 i2 : w.i ≤ 1000000
structure GateV (g : Gate) : Prop where
 c : g.op ≤ 4 → g.c = 0
 b : g.op = 1 → g.b = 0
 n : g.op ≠ 7 → g.n = 0
 m : g.n ≤ 63
theorem zcl {α : Type} {P : α → Prop} {l : List α} {a : α} (h : ∀ x ∈ l, P x) (ha : P a) : ∀ x ∈ l ++ [a], P x := fun x hx => by
 rcases List.mem_append.1 hx with hx | hx
 ·exact h x hx
 ·rw [List.mem_singleton.1 hx]; exact ha
theorem zgo {α : Type} {P : α → Prop} : ∀ x ∈ ([] : List α), P x := fun x hx => by cases hx
theorem zwc {i : Nat} (h : i < 7) : nth ([1, 5, 6, 7, 8, 9, 10] : List Int) i = 1 ∨ (5 ≤ nth ([1, 5, 6, 7, 8, 9, 10] : List Int) i ∧ nth ([1, 5, 6, 7, 8, 9, 10] : List Int) i ≤ 10) := by
 rcases (show i = 0 ∨ i = 1 ∨ i = 2 ∨ i = 3 ∨ i = 4 ∨ i = 5 ∨ i = 6 by omega) with rfl | rfl | rfl | rfl | rfl | rfl | rfl <;> decide
structure NetOk (n : Net) : Prop where
 i1 : 1 ≤ n.ins.length
 i2 : n.ins.length ≤ 9
 g1 : n.gates.length ≤ 60
 g2 : GatesOk (2 + n.ins.length) n.gates
 d0 : n.out.length = n.drive.length
 d1 : n.drive.length ≤ 9
 d2 : DriveOk (2 + n.ins.length + n.gates.length) n.drive
 d3 : 1 ≤ n.drive.length
 wi : ∀ w ∈ n.ins, WireIn w
 wo : ∀ w ∈ n.out, WireOut w
 gv : ∀ g ∈ n.gates, GateV g
theorem GatesOk.snoc {m : Nat} {l : List Gate} {g : Gate} (h : GatesOk m l) (hg : GateOk (m + l.length) g) : GatesOk m (l ++ [g]) := fun k hk => by
 by_cases hl : k < l.length
 ·rw [zd0 hl]; exact h k hl
 ·have : k = l.length := by simp at hk; omega
  subst this
  rw [zeg]; exact hg
theorem DriveOk.snoc {m : Nat} {l : List Int} {d : Int} (h : DriveOk m l) (h0 : 0 ≤ d) (h1 : d < m) : DriveOk m (l ++ [d]) := fun k hk => by
 by_cases hl : k < l.length
 ·rw [zd0 hl]; exact h k hl
 ·have : k = l.length := by simp at hk; omega
  subst this
  rw [zeg]; exact ⟨h0, h1⟩
theorem zuh (m : Nat) : GatesOk m [] := fun k hk => by simp at hk
theorem zl6 (m : Nat) : DriveOk m [] := fun k hk => by simp at hk
theorem jal (a : Int) : 0 ≤ zpu .and .i64 a 1023 := by
 have h : (BitVec.ofInt 64 a &&& BitVec.ofInt 64 1023).toNat ≤ 1023 := by
  rw [BitVec.toNat_and]
  exact Nat.le_trans Nat.and_le_right (by decide)
 show 0 ≤ IntKind.i64.wrap ((BitVec.ofInt 64 a &&& BitVec.ofInt 64 1023).toNat : Int)
 rw [zvl (by omega) (by omega)]
 omega
theorem zui {i : Nat} (h : i < 7) : ([.val (.int .i64 1), .val (.int .i64 5), .val (.int .i64 6), .val (.int .i64 7), .val (.int .i64 8), .val (.int .i64 9), .val (.int .i64 10)] : List D)[i]? = some (.val (.int .i64 (nth [1, 5, 6, 7, 8, 9, 10] i))) := by
 rcases (show i = 0 ∨ i = 1 ∨ i = 2 ∨ i = 3 ∨ i = 4 ∨ i = 5 ∨ i = 6 by omega) with rfl | rfl | rfl | rfl | rfl | rfl | rfl <;> rfl
theorem mkG {ws : List Wire} {gs : List Gate} {k : Nat} (hw : gs.length = k) {a b c d e : Int} (a0 : 0 ≤ a) (a1 : a < 256) (b0 : 0 ≤ b) (b1 : b < 256) (c0 : 0 ≤ c) (c1 : c < 256) (d0 : 0 ≤ d) (d1 : d < 256) (e0 : 0 ≤ e) (e1 : e < 256) {u v w : Int}
  (hu : u = 0 ∨ u = c % (2 + ws.length + k)) (hv : v = 0 ∨ v = d % (2 + ws.length + k)) (hn : w = 0 ∨ w = 8 * (e % 3) + e / 3 % 2) : GateOk (2 + ws.length + gs.length) ⟨1 + a % 7, b % (2 + ws.length + k), u, v, w⟩ := by
 have hpos : (0 : Int) < 2 + ws.length + k := by omega
 have m (z : Int) : 0 ≤ z % (2 + ws.length + k) ∧ z % (2 + ws.length + k) < 2 + ws.length + k := ⟨Int.emod_nonneg _ (Int.ne_of_gt hpos), Int.emod_lt_of_pos _ hpos⟩
 have mb := m b
 have mc := m c
 have md := m d
 generalize b % (2 + ws.length + k : Int) = B at *
 generalize c % (2 + ws.length + k : Int) = C at *
 generalize d % (2 + ws.length + k : Int) = D at *
 subst hw
 constructor <;> simp only <;> omega
theorem jd7 (x : RawN) (hx : RawOk x) : zgw Try.prog 12 [.agg (zbb x)] (fun r => ∃ n, NetOk n ∧ r = .d (za1 n)) := by
 refine zp7 (fn := Try.f12) (by kernel_rfl) Try.func12 rfl (Nat.le_of_ble_eq_true rfl) fun c hc hp => ?_
 refine zb8 (τ' := frL [(0, .d (.agg (zbb x)))]) (by repeat (first | exact zat _ | refine zap ?_ (by first | rfl | (simp [r_f, zaa, zab]; done) | simp [r_f, zaa, zab, *]))) ?_
 refine zah hp zar hc rfl fun K1 hK1 => ?_
 simp -dsimp -implicitDefEqProofs (disch := first | assumption | omega | (simp only [r_z, zaa, zab] <;> omega) | decide) only [r_r, ↓reduceIte, Nat.reduceEqDiff, Nat.reduceAdd, D.fix, Int.reduceToNat, Nat.reduceMul, Nat.reduceBNe, Nat.reduceBEq, zbb, zao, za0, r5C, r4C, zau, zaf, zbj]
 refine hK1 _ _ ?_
 refine zah hp zar hc rfl fun K2 hK2 => ?_
 simp -dsimp -implicitDefEqProofs (disch := first | assumption | omega | (simp only [r_z, zaa, zab] <;> omega) | decide) only [r_r, ↓reduceIte, Nat.reduceEqDiff, Nat.reduceAdd, D.fix, Int.reduceToNat, Nat.reduceMul, Nat.reduceBNe, Nat.reduceBEq, zbb, zao, za0, r5C, r4C, zau, zaf, zbj]
 refine hK2 _ _ ?_
 refine zav fun K3 hK3 => ?_
 have hJ3 : ∀ τ' H', (∃ τ1 H1, ∃ (ws : List Wire), (1 ≤ ws.length ∧ ws.length ≤ 9 ∧ ∀ w ∈ ws, WireIn w) ∧ H1 = [.cells (avs (zbb x)), .cells [.d (.val (.slice none 0 0)), .d (.val (.slice none 0 0)), .d (.val (.slice none 0 0)), .d (.val (.slice none 0 0))], .cells [.os 3 3 0 ws.length, .d (.val (.slice none 0 0)), .d (.val (.slice none 0 0)), .d (.val (.slice none 0 0))], .cells (avs (ws.flatMap zao))] ∧ τ1 = frL [(1, .op 0 0), (2, .op 1 0), (3, .op 2 0)] ∧ Rt [] τ' H' τ1 H1) → K3 τ' H' := by
  rintro τ' H' ⟨_, _, ws, ⟨w1, w2, hwi⟩, rfl, rfl, hrt⟩
  refine hK3 _ _ (zef hp hrt ?_)
  clear hrt
  refine zav fun K4 hK4 => ?_
  have hJ4 : ∀ τ' H', (∃ τ1 H1, ∃ (gs : List Gate), (gs.length ≤ 60 ∧ GatesOk (2 + ws.length) gs ∧ ∀ g ∈ gs, GateV g) ∧ H1 = [.cells (avs (zbb x)), .cells [.d (.val (.slice none 0 0)), .d (.val (.slice none 0 0)), .d (.val (.slice none 0 0)), .d (.val (.slice none 0 0))], .cells [.os 3 3 0 ws.length, .os 5 4 0 gs.length, .d (.val (.slice none 0 0)), .d (.val (.slice none 0 0))], .cells (avs (ws.flatMap zao)), .cells (avs (gs.flatMap za0))] ∧ τ1 = frL [(1, .op 0 0), (2, .op 1 0), (3, .op 2 0)] ∧ Rt [] τ' H' τ1 H1) → K4 τ' H' := by
   rintro τ' H' ⟨_, _, gs, ⟨g1, g2, hgv⟩, rfl, rfl, hrt⟩
   refine hK4 _ _ (zef hp hrt ?_)
   clear hrt
   refine zav fun K5 hK5 => ?_
   have hJ5 : ∀ τ' H', (∃ τ1 H1, ∃ (os : List Wire) (dr : List Int), (os.length = dr.length ∧ dr.length ≤ 9 ∧ DriveOk (2 + ws.length + gs.length) dr ∧ ∀ w ∈ os, WireOut w) ∧ H1 = [.cells (avs (zbb x)), .cells [.d (.val (.slice none 0 0)), .d (.val (.slice none 0 0)), .d (.val (.slice none 0 0)), .d (.val (.slice none 0 0))], .cells [.os 3 3 0 ws.length, .os 5 4 0 gs.length, .os 3 5 0 os.length, .os 1 6 0 dr.length], .cells (avs (ws.flatMap zao)), .cells (avs (gs.flatMap za0)), .cells (avs (os.flatMap zao)), .cells (avs (dr.map iD))] ∧ τ1 = frL [(1, .op 0 0), (2, .op 1 0), (3, .op 2 0)] ∧ Rt [] τ' H' τ1 H1) → K5 τ' H' := by
    rintro τ' H' ⟨_, _, os, dr, ⟨ho, hd, hdr, hwo⟩, rfl, rfl, hrt⟩
    refine hK5 _ _ (zef hp hrt ?_)
    clear hrt
    refine zav fun K6 hK6 => ?_
    refine zah hp zar hc rfl fun K7 hK7 => ?_
    simp -dsimp -implicitDefEqProofs (disch := first | assumption | omega | (simp only [r_z, zaa, zab] <;> omega) | decide) only [r_r, ↓reduceIte, Nat.reduceEqDiff, Nat.reduceAdd, D.fix, Int.reduceToNat, Nat.reduceMul, Nat.reduceBNe, Nat.reduceBEq, zbb, zao, za0, r5C, r4C, zau, zaf, zbj]
    refine hK7 _ _ ?_
    refine zay rfl (fun ht => ?_) (fun ht => ?_)
    ·refine zah hp zar hc rfl fun K8 hK8 => ?_
     simp -dsimp -implicitDefEqProofs (disch := first | assumption | omega | (simp only [r_z, zaa, zab] <;> omega) | decide) only [r_r, ↓reduceIte, Nat.reduceEqDiff, Nat.reduceAdd, D.fix, Int.reduceToNat, Nat.reduceMul, Nat.reduceBNe, Nat.reduceBEq, zbb, zao, za0, r5C, r4C, zau, zaf, zbj]
     refine hK8 _ _ ?_
     refine zba hp zar hc rfl fun K9 hK9 => ?_
     simp -dsimp -implicitDefEqProofs (disch := first | assumption | omega | (simp only [r_z, zaa, zab] <;> omega) | decide) only [r_r, ↓reduceIte, Nat.reduceEqDiff, Nat.reduceAdd, D.fix, Int.reduceToNat, Nat.reduceMul, Nat.reduceBNe, Nat.reduceBEq, zbb, zao, za0, r5C, r4C, zau, zaf, zbj]
     refine hK9 _ _ (hK6 _ _ ?_)
     refine zah hp zar hc rfl fun K10 hK10 => ?_
     simp -dsimp -implicitDefEqProofs (disch := first | assumption | omega | (simp only [r_z, zaa, zab] <;> omega) | decide) only [r_r, ↓reduceIte, Nat.reduceEqDiff, Nat.reduceAdd, D.fix, Int.reduceToNat, Nat.reduceMul, Nat.reduceBNe, Nat.reduceBEq, zbb, zao, za0, r5C, r4C, zau, zaf, zbj]
     refine hK10 _ _ ?_
     refine zbr ?_
     try dsimp only [ziy, zcw]
     refine zdh rfl ?_
     simp -dsimp -implicitDefEqProofs (disch := first | assumption | omega | (simp only [r_z, zaa, zab] <;> omega) | decide) only [r_r, ↓reduceIte, Nat.reduceEqDiff, Nat.reduceAdd, D.fix, Int.reduceToNat, Nat.reduceMul, Nat.reduceBNe, Nat.reduceBEq, zbb, zao, za0, r5C, r4C, zau, zaf, ze9, zfa]
     show ∃ r, closeA _ _ = some r ∧ _
     simp (disch := first | assumption | omega | (simp only [r_z, zaa, zab] <;> omega) | decide) only [r_c, Nat.reduceAdd, D.fix, ↓reduceIte, Nat.reduceEqDiff, zbb, zao, za0, r5C, r4C, zau, zaf, zph, zpi, List.map_append]
     have h0 : os = [] := List.eq_nil_of_length_eq_zero (by simp at ht; simpa using ht)
     have h1 : dr = [] := List.eq_nil_of_length_eq_zero (by rw [← ho, h0]; rfl)
     subst h0 h1
     refine ⟨_, rfl, ⟨ws, gs, [⟨1, 0, 0⟩], [1 + ws.length + gs.length]⟩, ⟨w1, w2, g1, g2, rfl, by simp, (zl6 _).snoc (by omega) (by simp only; omega), by simp, hwi, zcl zgo ⟨.inl rfl, by decide, by decide, by decide, by decide⟩, hgv⟩, rfl⟩
    ·refine za4 (hK6 _ _ ?_)
     refine zah hp zar hc rfl fun K11 hK11 => ?_
     simp -dsimp -implicitDefEqProofs (disch := first | assumption | omega | (simp only [r_z, zaa, zab] <;> omega) | decide) only [r_r, ↓reduceIte, Nat.reduceEqDiff, Nat.reduceAdd, D.fix, Int.reduceToNat, Nat.reduceMul, Nat.reduceBNe, Nat.reduceBEq, zbb, zao, za0, r5C, r4C, zau, zaf, zbj]
     refine hK11 _ _ ?_
     refine zbr ?_
     try dsimp only [ziy, zcw]
     refine zdh rfl ?_
     simp -dsimp -implicitDefEqProofs (disch := first | assumption | omega | (simp only [r_z, zaa, zab] <;> omega) | decide) only [r_r, ↓reduceIte, Nat.reduceEqDiff, Nat.reduceAdd, D.fix, Int.reduceToNat, Nat.reduceMul, Nat.reduceBNe, Nat.reduceBEq, zbb, zao, za0, r5C, r4C, zau, zaf, ze9, zfa]
     show ∃ r, closeA _ _ = some r ∧ _
     simp (disch := first | assumption | omega | (simp only [r_z, zaa, zab] <;> omega) | decide) only [r_c, Nat.reduceAdd, D.fix, ↓reduceIte, Nat.reduceEqDiff, zbb, zao, za0, r5C, r4C, zau, zaf, zph, zpi, List.map_append]
     have h0 : ¬ os.length = 0 := by simpa using ht
     refine ⟨_, rfl, ⟨ws, gs, os, dr⟩, ⟨w1, w2, g1, g2, ho, hd, hdr, by simp only; omega, hwi, hwo, hgv⟩, ?_⟩
     simp [za1, za3, zad, zae, intsD]
   refine zah hp zar hc rfl fun K12 hK12 => ?_
   simp -dsimp -implicitDefEqProofs (disch := first | assumption | omega | (simp only [r_z, zaa, zab] <;> omega) | decide) only [r_r, ↓reduceIte, Nat.reduceEqDiff, Nat.reduceAdd, D.fix, Int.reduceToNat, Nat.reduceMul, Nat.reduceBNe, Nat.reduceBEq, zbb, zao, za0, r5C, r4C, zau, zaf]
   refine hK12 _ _ ?_
   refine za5 ?_
   refine zbc hp (fun τ' H' mm => ∃ (k : Nat) (os : List Wire) (dr : List Int), (k ≤ 9 ∧ os.length = k ∧ dr.length = k ∧ DriveOk (2 + ws.length + gs.length) dr ∧ ∀ w ∈ os, WireOut w) ∧ mm = 9 - k ∧ H' = [.cells (avs (zbb x)), .cells [.d (.val (.slice none 0 0)), .d (.val (.slice none 0 0)), .d (.val (.slice none 0 0)), .d (.val (.slice none 0 0))], .cells [.os 3 3 0 ws.length, .os 5 4 0 gs.length, .os 3 5 0 os.length, .os 1 6 0 dr.length], .cells (avs (ws.flatMap zao)), .cells (avs (gs.flatMap za0)), .cells (avs (os.flatMap zao)), .cells (avs (dr.map iD))] ∧ τ' = frL [(1, .op 0 0), (2, .op 1 0), (3, .op 2 0), (10, .d (iD k))]) (9) ?_ ⟨0, [], [], ⟨by omega, rfl, rfl, zl6 _, zgo⟩, rfl, rfl, rfl⟩ ?_
   ·refine Rt.trans (Rt.nilc 2 2 3 rfl rfl) ?_
    refine Rt.trans (Rt.nilc 2 3 1 rfl rfl) ?_
    refine Rt.end (by repeat (first | exact zat _ | refine zap ?_ (by first | rfl | (simp [r_f, zaa, zab]; done) | simp [r_f, zaa, zab, *]))) ?_
    first | rfl | (simp only [r_g, Nat.reduceAdd, ↓reduceIte, Nat.reduceEqDiff, zbb, zao, za0, r5C, r4C, zau, zaf]; first | done | rfl)
   rintro τ' H' mm ⟨k, os, dr, ⟨hk, ho, hd, hdr, hwo⟩, rfl, rfl, rfl⟩
   refine zav fun K13 hK13 => ?_
   refine zah hp zar hc rfl fun K14 hK14 => ?_
   by_cases q : (k : Int) < x.out.length
   ·simp -dsimp -implicitDefEqProofs (disch := first | assumption | omega | (simp only [r_z, zaa, zab] <;> omega) | decide) only [r_r, ↓reduceIte, Nat.reduceEqDiff, Nat.reduceAdd, D.fix, Int.reduceToNat, Nat.reduceMul, Nat.reduceBNe, Nat.reduceBEq, zbb, zao, za0, r5C, r4C, zau, zaf, q, decide_true, decide_false, zbj]
    refine hK14 _ _ ?_
    refine zay rfl (fun ht => ?_) (fun ht => ?_)
    ·have hlt : k < 9 := by simp at ht; omega
     have hl : k < x.out.length := by omega
     obtain ⟨⟨a0, a1⟩, ⟨b0, b1⟩, ⟨c0, c1⟩, ⟨d0, d1⟩⟩ := hx.out k hl
     have hn := jal (1 + ws.length + gs.length - (nth x.out k).d)
     have hpos : (0 : Int) < 2 + ws.length + gs.length := by omega
     have hm0 := Int.emod_nonneg (zpu .and .i64 (1 + ws.length + gs.length - (nth x.out k).d) 1023) (Int.ne_of_gt hpos)
     have hm1 := Int.emod_lt_of_pos (zpu .and .i64 (1 + ws.length + gs.length - (nth x.out k).d) 1023) hpos
     refine za4 (hK13 _ _ ?_)
     refine zav fun K15 hK15 => ?_
     refine za5 ?_
     refine zah hp zar hc rfl fun K16 hK16 => ?_
     simp -dsimp -implicitDefEqProofs (disch := first | assumption | omega | (simp only [r_z, zaa, zab] <;> omega) | decide) only [r_r, ↓reduceIte, Nat.reduceEqDiff, Nat.reduceAdd, D.fix, Int.reduceToNat, Nat.reduceMul, Nat.reduceBNe, Nat.reduceBEq, zbb, zao, za0, r5C, r4C, zau, zaf, jd6, jff, zbj]
     refine hK16 _ _ ?_
     refine zb3 zar hc zcb rfl (q := 2) (by kernel_rfl) (by kernel_rfl) fun K17 hK17 => ?_
     simp -dsimp -implicitDefEqProofs (disch := first | assumption | omega | (simp only [r_z, zaa, zab] <;> omega) | decide) only [r_r, ↓reduceIte, Nat.reduceEqDiff, Nat.reduceAdd, D.fix, Int.reduceToNat, Nat.reduceMul, Nat.reduceBNe, Nat.reduceBEq, zbb, zao, za0, r5C, r4C, zau, zaf, zui, zbj]
     refine hK17 _ _ ?_
     refine zah hp zar hc rfl fun K18 hK18 => ?_
     simp -dsimp -implicitDefEqProofs (disch := first | assumption | omega | (simp only [r_z, zaa, zab] <;> omega) | decide) only [r_r, ↓reduceIte, Nat.reduceEqDiff, Nat.reduceAdd, D.fix, Int.reduceToNat, Nat.reduceMul, Nat.reduceBNe, Nat.reduceBEq, zbb, zao, za0, r5C, r4C, zau, zaf, zbj]
     refine hK18 _ _ ?_
     refine zla zar hc zcb rfl (q := 2) (by kernel_rfl) (by kernel_rfl) fun K19 hK19 => ?_
     simp -dsimp -implicitDefEqProofs (disch := first | assumption | omega | (simp only [r_z, zaa, zab] <;> omega) | decide) only [r_r, ↓reduceIte, Nat.reduceEqDiff, Nat.reduceAdd, D.fix, Int.reduceToNat, Nat.reduceMul, Nat.reduceBNe, Nat.reduceBEq, zbb, zao, za0, r5C, r4C, zau, zaf, zbj]
     refine hK19 _ _ (hK15 _ _ ?_)
     refine zba hp zar hc rfl fun K20 hK20 => ?_
     simp -dsimp -implicitDefEqProofs (disch := first | assumption | omega | (simp only [r_z, zaa, zab] <;> omega) | decide) only [r_r, ↓reduceIte, Nat.reduceEqDiff, Nat.reduceAdd, D.fix, Int.reduceToNat, Nat.reduceMul, Nat.reduceBNe, Nat.reduceBEq, zbb, zao, za0, r5C, r4C, zau, zaf, zbj]
     refine hK20 _ _ ⟨_, _, _, ?_, ⟨k + 1, os ++ [⟨nth [1, 5, 6, 7, 8, 9, 10] ((nth x.out k).a % 7).toNat, (nth x.out k).b % 3, (nth x.out k).c % 3⟩], dr ++ [zpu .and .i64 (1 + ws.length + gs.length - (nth x.out k).d) 1023 % (2 + ws.length + gs.length)], ⟨by omega, by simp [ho], by simp [hd], hdr.snoc hm0 (by omega), zcl hwo ⟨zwc (by omega), by simp only; omega, by simp only; omega, by simp only; omega, by simp only; omega⟩⟩, rfl, rfl, rfl⟩, ?_⟩
     ·first | omega | (simp only [List.length_cons]; omega) | (dsimp only; omega)
     ·refine Rt.trans (Rt.gc (keep := [0,1,2,3,4,11,13]) (by decide) (by decide) (by simp [fzH, gcH])) ?_
      refine Rt.end (by repeat (first | exact zat _ | refine zap ?_ (by first | rfl | (simp [r_f, zaa, zab]; done) | simp [r_f, zaa, zab, *]))) ?_
      simp only [r_g, Nat.reduceAdd, ↓reduceIte, Nat.reduceEqDiff, zbb, zao, za0, r5C, r4C, zau, zaf]; simp [zao, iD]
    ·refine zbi (hJ5 _ _ ⟨_, _, os, dr, ⟨by omega, by omega, hdr, hwo⟩, rfl, rfl, ?_⟩)
     refine Rt.end (by repeat (first | exact zat _ | refine zap ?_ (by first | rfl | (simp [r_f, zaa, zab]; done) | simp [r_f, zaa, zab, *]))) ?_
     first | rfl | (simp only [r_g, Nat.reduceAdd, ↓reduceIte, Nat.reduceEqDiff, zbb, zao, za0, r5C, r4C, zau, zaf]; first | done | rfl)
   ·simp -dsimp -implicitDefEqProofs (disch := first | assumption | omega | (simp only [r_z, zaa, zab] <;> omega) | decide) only [r_r, ↓reduceIte, Nat.reduceEqDiff, Nat.reduceAdd, D.fix, Int.reduceToNat, Nat.reduceMul, Nat.reduceBNe, Nat.reduceBEq, zbb, zao, za0, r5C, r4C, zau, zaf, q, decide_true, decide_false, zbj]
    refine hK14 _ _ ?_
    refine zay rfl (fun ht => ?_) (fun ht => ?_)
    ·cases ht
    ·refine zbi (hJ5 _ _ ⟨_, _, os, dr, ⟨by omega, by omega, hdr, hwo⟩, rfl, rfl, ?_⟩)
     refine Rt.end (by repeat (first | exact zat _ | refine zap ?_ (by first | rfl | (simp [r_f, zaa, zab]; done) | simp [r_f, zaa, zab, *]))) ?_
     first | rfl | (simp only [r_g, Nat.reduceAdd, ↓reduceIte, Nat.reduceEqDiff, zbb, zao, za0, r5C, r4C, zau, zaf]; first | done | rfl)
  refine zah hp zar hc rfl fun K21 hK21 => ?_
  simp -dsimp -implicitDefEqProofs (disch := first | assumption | omega | (simp only [r_z, zaa, zab] <;> omega) | decide) only [r_r, ↓reduceIte, Nat.reduceEqDiff, Nat.reduceAdd, D.fix, Int.reduceToNat, Nat.reduceMul, Nat.reduceBNe, Nat.reduceBEq, zbb, zao, za0, r5C, r4C, zau, zaf]
  refine hK21 _ _ ?_
  refine za5 ?_
  refine zbc hp (fun τ' H' mm => ∃ (k : Nat) (gs : List Gate), (k ≤ 60 ∧ gs.length = k ∧ GatesOk (2 + ws.length) gs ∧ ∀ g ∈ gs, GateV g) ∧ mm = 60 - k ∧ H' = [.cells (avs (zbb x)), .cells [.d (.val (.slice none 0 0)), .d (.val (.slice none 0 0)), .d (.val (.slice none 0 0)), .d (.val (.slice none 0 0))], .cells [.os 3 3 0 ws.length, .os 5 4 0 gs.length, .d (.val (.slice none 0 0)), .d (.val (.slice none 0 0))], .cells (avs (ws.flatMap zao)), .cells (avs (gs.flatMap za0))] ∧ τ' = frL [(1, .op 0 0), (2, .op 1 0), (3, .op 2 0), (6, .d (iD k))]) (60) ?_ ⟨0, [], ⟨by omega, rfl, zuh _, zgo⟩, rfl, rfl, rfl⟩ ?_
  ·refine Rt.trans (Rt.nilc 2 1 5 rfl rfl) ?_
   refine Rt.end (by repeat (first | exact zat _ | refine zap ?_ (by first | rfl | (simp [r_f, zaa, zab]; done) | simp [r_f, zaa, zab, *]))) ?_
   first | rfl | (simp only [r_g, Nat.reduceAdd, ↓reduceIte, Nat.reduceEqDiff, zbb, zao, za0, r5C, r4C, zau, zaf]; first | done | rfl)
  rintro τ' H' mm ⟨k, gs, ⟨hk, hw, hgs, hgv⟩, rfl, rfl, rfl⟩
  refine zav fun K22 hK22 => ?_
  refine zah hp zar hc rfl fun K23 hK23 => ?_
  by_cases q : (k : Int) < x.gates.length
  ·simp -dsimp -implicitDefEqProofs (disch := first | assumption | omega | (simp only [r_z, zaa, zab] <;> omega) | decide) only [r_r, ↓reduceIte, Nat.reduceEqDiff, Nat.reduceAdd, D.fix, Int.reduceToNat, Nat.reduceMul, Nat.reduceBNe, Nat.reduceBEq, zbb, zao, za0, r5C, r4C, zau, zaf, q, decide_true, decide_false, zbj]
   refine hK23 _ _ ?_
   refine zay rfl (fun ht => ?_) (fun ht => ?_)
   ·have hlt : k < 60 := by simp at ht; omega
    have hl : k < x.gates.length := by omega
    obtain ⟨⟨a0, a1⟩, ⟨b0, b1⟩, ⟨c0, c1⟩, ⟨d0, d1⟩, ⟨e0, e1⟩⟩ := hx.gates k hl
    refine za4 (hK22 _ _ ?_)
    refine zav fun K24 hK24 => ?_
    refine za5 ?_
    refine zb3 zar hc zcb rfl (q := 1) (by kernel_rfl) (by kernel_rfl) fun K25 hK25 => ?_
    simp -dsimp -implicitDefEqProofs (disch := first | assumption | omega | (simp only [r_z, zaa, zab] <;> omega) | decide) only [r_r, ↓reduceIte, Nat.reduceEqDiff, Nat.reduceAdd, D.fix, Int.reduceToNat, Nat.reduceMul, Nat.reduceBNe, Nat.reduceBEq, zbb, zao, za0, r5C, r4C, zau, zaf, jd5, jfe, zbj]
    refine hK25 _ _ ?_
    refine zb3 zar hc zcb rfl (q := 1) (by kernel_rfl) (by kernel_rfl) fun K26 hK26 => ?_
    simp -dsimp -implicitDefEqProofs (disch := first | assumption | omega | (simp only [r_z, zaa, zab] <;> omega) | decide) only [r_r, ↓reduceIte, Nat.reduceEqDiff, Nat.reduceAdd, D.fix, Int.reduceToNat, Nat.reduceMul, Nat.reduceBNe, Nat.reduceBEq, zbb, zao, za0, r5C, r4C, zau, zaf, zbj]
    refine hK26 _ _ ?_
    refine zav fun K27 hK27 => ?_
    refine zah hp zar hc rfl fun K28 hK28 => ?_
    simp -dsimp -implicitDefEqProofs (disch := first | assumption | omega | (simp only [r_z, zaa, zab] <;> omega) | decide) only [r_r, ↓reduceIte, Nat.reduceEqDiff, Nat.reduceAdd, D.fix, Int.reduceToNat, Nat.reduceMul, Nat.reduceBNe, Nat.reduceBEq, zbb, zao, za0, r5C, r4C, zau, zaf, zbj]
    refine hK28 _ _ ?_
    refine zay rfl (fun ht => ?_) (fun ht => ?_)
    ·have f1 : ¬ 1 + (nth x.gates k).a % 7 = 1 := by simpa using ht
     refine zba hp zar hc rfl fun K29 hK29 => ?_
     simp -dsimp -implicitDefEqProofs (disch := first | assumption | omega | (simp only [r_z, zaa, zab] <;> omega) | decide) only [r_r, ↓reduceIte, Nat.reduceEqDiff, Nat.reduceAdd, D.fix, Int.reduceToNat, Nat.reduceMul, Nat.reduceBNe, Nat.reduceBEq, zbb, zao, za0, r5C, r4C, zau, zaf, zbj]
     refine hK29 _ _ (hK27 _ _ ?_)
     refine zav fun K30 hK30 => ?_
     refine zah hp zar hc rfl fun K31 hK31 => ?_
     simp -dsimp -implicitDefEqProofs (disch := first | assumption | omega | (simp only [r_z, zaa, zab] <;> omega) | decide) only [r_r, ↓reduceIte, Nat.reduceEqDiff, Nat.reduceAdd, D.fix, Int.reduceToNat, Nat.reduceMul, Nat.reduceBNe, Nat.reduceBEq, zbb, zao, za0, r5C, r4C, zau, zaf, zbj]
     refine hK31 _ _ ?_
     refine zay rfl (fun ht => ?_) (fun ht => ?_)
     ·have f2 : 5 ≤ 1 + (nth x.gates k).a % 7 := by simpa using ht
      refine zba hp zar hc rfl fun K32 hK32 => ?_
      simp -dsimp -implicitDefEqProofs (disch := first | assumption | omega | (simp only [r_z, zaa, zab] <;> omega) | decide) only [r_r, ↓reduceIte, Nat.reduceEqDiff, Nat.reduceAdd, D.fix, Int.reduceToNat, Nat.reduceMul, Nat.reduceBNe, Nat.reduceBEq, zbb, zao, za0, r5C, r4C, zau, zaf, zbj]
      refine hK32 _ _ (hK30 _ _ ?_)
      refine zav fun K33 hK33 => ?_
      refine zah hp zar hc rfl fun K34 hK34 => ?_
      simp -dsimp -implicitDefEqProofs (disch := first | assumption | omega | (simp only [r_z, zaa, zab] <;> omega) | decide) only [r_r, ↓reduceIte, Nat.reduceEqDiff, Nat.reduceAdd, D.fix, Int.reduceToNat, Nat.reduceMul, Nat.reduceBNe, Nat.reduceBEq, zbb, zao, za0, r5C, r4C, zau, zaf, zbj]
      refine hK34 _ _ ?_
      refine zay rfl (fun ht => ?_) (fun ht => ?_)
      ·have f3 : 1 + (nth x.gates k).a % 7 = 7 := by simpa using ht
       refine zba hp zar hc rfl fun K35 hK35 => ?_
       simp -dsimp -implicitDefEqProofs (disch := first | assumption | omega | (simp only [r_z, zaa, zab] <;> omega) | decide) only [r_r, ↓reduceIte, Nat.reduceEqDiff, Nat.reduceAdd, D.fix, Int.reduceToNat, Nat.reduceMul, Nat.reduceBNe, Nat.reduceBEq, zbb, zao, za0, r5C, r4C, zau, zaf, zbj]
       refine hK35 _ _ (hK33 _ _ ?_)
       refine zba hp zar hc rfl fun K36 hK36 => ?_
       simp -dsimp -implicitDefEqProofs (disch := first | assumption | omega | (simp only [r_z, zaa, zab] <;> omega) | decide) only [r_r, ↓reduceIte, Nat.reduceEqDiff, Nat.reduceAdd, D.fix, Int.reduceToNat, Nat.reduceMul, Nat.reduceBNe, Nat.reduceBEq, zbb, zao, za0, r5C, r4C, zau, zaf, zbj]
       refine hK36 _ _ (hK24 _ _ ?_)
       refine zba hp zar hc rfl fun K37 hK37 => ?_
       simp -dsimp -implicitDefEqProofs (disch := first | assumption | omega | (simp only [r_z, zaa, zab] <;> omega) | decide) only [r_r, ↓reduceIte, Nat.reduceEqDiff, Nat.reduceAdd, D.fix, Int.reduceToNat, Nat.reduceMul, Nat.reduceBNe, Nat.reduceBEq, zbb, zao, za0, r5C, r4C, zau, zaf, zbj]
       refine hK37 _ _ ⟨_, _, _, ?_, ⟨k + 1, gs ++ [⟨1 + (nth x.gates k).a % 7, (nth x.gates k).b % (2 + ws.length + k), (nth x.gates k).c % (2 + ws.length + k), (nth x.gates k).d % (2 + ws.length + k), 8 * ((nth x.gates k).e % 3) + (nth x.gates k).e / 3 % 2⟩], ⟨by omega, by simp [hw], hgs.snoc (mkG hw a0 a1 b0 b1 c0 c1 d0 d1 e0 e1 (.inr rfl) (.inr rfl) (.inr rfl)), zcl hgv ⟨fun h => by simp only at h; omega, fun h => by simp only at h; omega, fun h => by simp only at h; omega, by simp only; omega⟩⟩, rfl, rfl, rfl⟩, ?_⟩
       ·first | omega | (simp only [List.length_cons]; omega) | (dsimp only; omega)
       ·refine Rt.trans (Rt.gc (keep := [0,1,2,3,8]) (by decide) (by decide) (by simp [fzH, gcH])) ?_
        refine Rt.end (by repeat (first | exact zat _ | refine zap ?_ (by first | rfl | (simp [r_f, zaa, zab]; done) | simp [r_f, zaa, zab, *]))) ?_
        simp only [r_g, Nat.reduceAdd, ↓reduceIte, Nat.reduceEqDiff, zbb, zao, za0, r5C, r4C, zau, zaf]; simp [za0, iD]
      ·have f3 : ¬ 1 + (nth x.gates k).a % 7 = 7 := by simpa using ht
       refine za4 (hK33 _ _ ?_)
       refine zba hp zar hc rfl fun K38 hK38 => ?_
       simp -dsimp -implicitDefEqProofs (disch := first | assumption | omega | (simp only [r_z, zaa, zab] <;> omega) | decide) only [r_r, ↓reduceIte, Nat.reduceEqDiff, Nat.reduceAdd, D.fix, Int.reduceToNat, Nat.reduceMul, Nat.reduceBNe, Nat.reduceBEq, zbb, zao, za0, r5C, r4C, zau, zaf, zbj]
       refine hK38 _ _ (hK24 _ _ ?_)
       refine zba hp zar hc rfl fun K39 hK39 => ?_
       simp -dsimp -implicitDefEqProofs (disch := first | assumption | omega | (simp only [r_z, zaa, zab] <;> omega) | decide) only [r_r, ↓reduceIte, Nat.reduceEqDiff, Nat.reduceAdd, D.fix, Int.reduceToNat, Nat.reduceMul, Nat.reduceBNe, Nat.reduceBEq, zbb, zao, za0, r5C, r4C, zau, zaf, zbj]
       refine hK39 _ _ ⟨_, _, _, ?_, ⟨k + 1, gs ++ [⟨1 + (nth x.gates k).a % 7, (nth x.gates k).b % (2 + ws.length + k), (nth x.gates k).c % (2 + ws.length + k), (nth x.gates k).d % (2 + ws.length + k), 0⟩], ⟨by omega, by simp [hw], hgs.snoc (mkG hw a0 a1 b0 b1 c0 c1 d0 d1 e0 e1 (.inr rfl) (.inr rfl) (.inl rfl)), zcl hgv ⟨fun h => by simp only at h; omega, fun h => by simp only at h; omega, fun h => rfl, by simp only; omega⟩⟩, rfl, rfl, rfl⟩, ?_⟩
       ·first | omega | (simp only [List.length_cons]; omega) | (dsimp only; omega)
       ·refine Rt.trans (Rt.gc (keep := [0,1,2,3,8]) (by decide) (by decide) (by simp [fzH, gcH])) ?_
        refine Rt.end (by repeat (first | exact zat _ | refine zap ?_ (by first | rfl | (simp [r_f, zaa, zab]; done) | simp [r_f, zaa, zab, *]))) ?_
        simp only [r_g, Nat.reduceAdd, ↓reduceIte, Nat.reduceEqDiff, zbb, zao, za0, r5C, r4C, zau, zaf]; simp [za0, iD]
     ·have f2 : ¬ 5 ≤ 1 + (nth x.gates k).a % 7 := by simpa using ht
      refine za4 (hK30 _ _ ?_)
      refine zav fun K40 hK40 => ?_
      refine zah hp zar hc rfl fun K41 hK41 => ?_
      simp -dsimp -implicitDefEqProofs (disch := first | assumption | omega | (simp only [r_z, zaa, zab] <;> omega) | decide) only [r_r, ↓reduceIte, Nat.reduceEqDiff, Nat.reduceAdd, D.fix, Int.reduceToNat, Nat.reduceMul, Nat.reduceBNe, Nat.reduceBEq, zbb, zao, za0, r5C, r4C, zau, zaf, zbj]
      refine hK41 _ _ ?_
      refine zay rfl (fun ht => ?_) (fun ht => ?_)
      ·exfalso
       simp at ht
       omega
      ·refine za4 (hK40 _ _ ?_)
       refine zba hp zar hc rfl fun K42 hK42 => ?_
       simp -dsimp -implicitDefEqProofs (disch := first | assumption | omega | (simp only [r_z, zaa, zab] <;> omega) | decide) only [r_r, ↓reduceIte, Nat.reduceEqDiff, Nat.reduceAdd, D.fix, Int.reduceToNat, Nat.reduceMul, Nat.reduceBNe, Nat.reduceBEq, zbb, zao, za0, r5C, r4C, zau, zaf, zbj]
       refine hK42 _ _ (hK24 _ _ ?_)
       refine zba hp zar hc rfl fun K43 hK43 => ?_
       simp -dsimp -implicitDefEqProofs (disch := first | assumption | omega | (simp only [r_z, zaa, zab] <;> omega) | decide) only [r_r, ↓reduceIte, Nat.reduceEqDiff, Nat.reduceAdd, D.fix, Int.reduceToNat, Nat.reduceMul, Nat.reduceBNe, Nat.reduceBEq, zbb, zao, za0, r5C, r4C, zau, zaf, zbj]
       refine hK43 _ _ ⟨_, _, _, ?_, ⟨k + 1, gs ++ [⟨1 + (nth x.gates k).a % 7, (nth x.gates k).b % (2 + ws.length + k), (nth x.gates k).c % (2 + ws.length + k), 0, 0⟩], ⟨by omega, by simp [hw], hgs.snoc (mkG hw a0 a1 b0 b1 c0 c1 d0 d1 e0 e1 (.inr rfl) (.inl rfl) (.inl rfl)), zcl hgv ⟨fun h => rfl, fun h => by simp only at h; omega, fun h => rfl, by simp only; omega⟩⟩, rfl, rfl, rfl⟩, ?_⟩
       ·first | omega | (simp only [List.length_cons]; omega) | (dsimp only; omega)
       ·refine Rt.trans (Rt.gc (keep := [0,1,2,3,8]) (by decide) (by decide) (by simp [fzH, gcH])) ?_
        refine Rt.end (by repeat (first | exact zat _ | refine zap ?_ (by first | rfl | (simp [r_f, zaa, zab]; done) | simp [r_f, zaa, zab, *]))) ?_
        simp only [r_g, Nat.reduceAdd, ↓reduceIte, Nat.reduceEqDiff, zbb, zao, za0, r5C, r4C, zau, zaf]; simp [za0, iD]
    ·have f1 : 1 + (nth x.gates k).a % 7 = 1 := by simpa using ht
     refine za4 (hK27 _ _ ?_)
     refine zav fun K44 hK44 => ?_
     refine zah hp zar hc rfl fun K45 hK45 => ?_
     simp -dsimp -implicitDefEqProofs (disch := first | assumption | omega | (simp only [r_z, zaa, zab] <;> omega) | decide) only [r_r, ↓reduceIte, Nat.reduceEqDiff, Nat.reduceAdd, D.fix, Int.reduceToNat, Nat.reduceMul, Nat.reduceBNe, Nat.reduceBEq, zbb, zao, za0, r5C, r4C, zau, zaf, zbj]
     refine hK45 _ _ ?_
     refine zay rfl (fun ht => ?_) (fun ht => ?_)
     ·exfalso
      simp at ht
      omega
     ·refine za4 (hK44 _ _ ?_)
      refine zav fun K46 hK46 => ?_
      refine zah hp zar hc rfl fun K47 hK47 => ?_
      simp -dsimp -implicitDefEqProofs (disch := first | assumption | omega | (simp only [r_z, zaa, zab] <;> omega) | decide) only [r_r, ↓reduceIte, Nat.reduceEqDiff, Nat.reduceAdd, D.fix, Int.reduceToNat, Nat.reduceMul, Nat.reduceBNe, Nat.reduceBEq, zbb, zao, za0, r5C, r4C, zau, zaf, zbj]
      refine hK47 _ _ ?_
      refine zay rfl (fun ht => ?_) (fun ht => ?_)
      ·exfalso
       simp at ht
       omega
      ·refine za4 (hK46 _ _ ?_)
       refine zba hp zar hc rfl fun K48 hK48 => ?_
       simp -dsimp -implicitDefEqProofs (disch := first | assumption | omega | (simp only [r_z, zaa, zab] <;> omega) | decide) only [r_r, ↓reduceIte, Nat.reduceEqDiff, Nat.reduceAdd, D.fix, Int.reduceToNat, Nat.reduceMul, Nat.reduceBNe, Nat.reduceBEq, zbb, zao, za0, r5C, r4C, zau, zaf, zbj]
       refine hK48 _ _ (hK24 _ _ ?_)
       refine zba hp zar hc rfl fun K49 hK49 => ?_
       simp -dsimp -implicitDefEqProofs (disch := first | assumption | omega | (simp only [r_z, zaa, zab] <;> omega) | decide) only [r_r, ↓reduceIte, Nat.reduceEqDiff, Nat.reduceAdd, D.fix, Int.reduceToNat, Nat.reduceMul, Nat.reduceBNe, Nat.reduceBEq, zbb, zao, za0, r5C, r4C, zau, zaf, zbj]
       refine hK49 _ _ ⟨_, _, _, ?_, ⟨k + 1, gs ++ [⟨1 + (nth x.gates k).a % 7, (nth x.gates k).b % (2 + ws.length + k), 0, 0, 0⟩], ⟨by omega, by simp [hw], hgs.snoc (mkG hw a0 a1 b0 b1 c0 c1 d0 d1 e0 e1 (.inl rfl) (.inl rfl) (.inl rfl)), zcl hgv ⟨fun h => rfl, fun h => rfl, fun h => rfl, by simp only; omega⟩⟩, rfl, rfl, rfl⟩, ?_⟩
       ·first | omega | (simp only [List.length_cons]; omega) | (dsimp only; omega)
       ·refine Rt.trans (Rt.gc (keep := [0,1,2,3,8]) (by decide) (by decide) (by simp [fzH, gcH])) ?_
        refine Rt.end (by repeat (first | exact zat _ | refine zap ?_ (by first | rfl | (simp [r_f, zaa, zab]; done) | simp [r_f, zaa, zab, *]))) ?_
        simp only [r_g, Nat.reduceAdd, ↓reduceIte, Nat.reduceEqDiff, zbb, zao, za0, r5C, r4C, zau, zaf]; simp [za0, iD]
   ·refine zbi (hJ4 _ _ ⟨_, _, gs, ⟨by omega, hgs, hgv⟩, rfl, rfl, ?_⟩)
    refine Rt.end (by repeat (first | exact zat _ | refine zap ?_ (by first | rfl | (simp [r_f, zaa, zab]; done) | simp [r_f, zaa, zab, *]))) ?_
    first | rfl | (simp only [r_g, Nat.reduceAdd, ↓reduceIte, Nat.reduceEqDiff, zbb, zao, za0, r5C, r4C, zau, zaf]; first | done | rfl)
  ·simp -dsimp -implicitDefEqProofs (disch := first | assumption | omega | (simp only [r_z, zaa, zab] <;> omega) | decide) only [r_r, ↓reduceIte, Nat.reduceEqDiff, Nat.reduceAdd, D.fix, Int.reduceToNat, Nat.reduceMul, Nat.reduceBNe, Nat.reduceBEq, zbb, zao, za0, r5C, r4C, zau, zaf, q, decide_true, decide_false, zbj]
   refine hK23 _ _ ?_
   refine zay rfl (fun ht => ?_) (fun ht => ?_)
   ·cases ht
   ·refine zbi (hJ4 _ _ ⟨_, _, gs, ⟨by omega, hgs, hgv⟩, rfl, rfl, ?_⟩)
    refine Rt.end (by repeat (first | exact zat _ | refine zap ?_ (by first | rfl | (simp [r_f, zaa, zab]; done) | simp [r_f, zaa, zab, *]))) ?_
    first | rfl | (simp only [r_g, Nat.reduceAdd, ↓reduceIte, Nat.reduceEqDiff, zbb, zao, za0, r5C, r4C, zau, zaf]; first | done | rfl)
 refine zah hp zar hc rfl fun K50 hK50 => ?_
 simp -dsimp -implicitDefEqProofs (disch := first | assumption | omega | (simp only [r_z, zaa, zab] <;> omega) | decide) only [r_r, ↓reduceIte, Nat.reduceEqDiff, Nat.reduceAdd, D.fix, Int.reduceToNat, Nat.reduceMul, Nat.reduceBNe, Nat.reduceBEq, zbb, zao, za0, r5C, r4C, zau, zaf]
 refine hK50 _ _ ?_
 refine za5 ?_
 refine zbc hp (fun τ' H' mm => ∃ (k : Nat) (ws : List Wire), (k ≤ 8 ∧ ws.length = k + 1 ∧ ∀ w ∈ ws, WireIn w) ∧ mm = 8 - k ∧ H' = [.cells (avs (zbb x)), .cells [.d (.val (.slice none 0 0)), .d (.val (.slice none 0 0)), .d (.val (.slice none 0 0)), .d (.val (.slice none 0 0))], .cells [.os 3 3 0 ws.length, .d (.val (.slice none 0 0)), .d (.val (.slice none 0 0)), .d (.val (.slice none 0 0))], .cells (avs (ws.flatMap zao))] ∧ τ' = frL [(1, .op 0 0), (2, .op 1 0), (3, .op 2 0), (4, .d (iD k))]) (8) ?_ ⟨0, [⟨1, 0, 0⟩], ⟨by omega, rfl, zcl zgo ⟨by decide, by decide, by decide, by decide, by decide, by decide⟩⟩, rfl, rfl, rfl⟩ ?_
 ·refine Rt.trans (Rt.gc (keep := [0,1,3,2]) (by decide) (by decide) (by simp [fzH, gcH])) ?_
  refine Rt.end (by repeat (first | exact zat _ | refine zap ?_ (by first | rfl | (simp [r_f, zaa, zab]; done) | simp [r_f, zaa, zab, *]))) ?_
  first | rfl | (simp only [r_g, Nat.reduceAdd, ↓reduceIte, Nat.reduceEqDiff, zbb, zao, za0, r5C, r4C, zau, zaf]; first | done | rfl)
 rintro τ' H' mm ⟨k, ws, ⟨hk, hw, hwi⟩, rfl, rfl, rfl⟩
 refine zav fun K51 hK51 => ?_
 refine zah hp zar hc rfl fun K52 hK52 => ?_
 by_cases q : (k : Int) < x.ins.length
 ·simp -dsimp -implicitDefEqProofs (disch := first | assumption | omega | (simp only [r_z, zaa, zab] <;> omega) | decide) only [r_r, ↓reduceIte, Nat.reduceEqDiff, Nat.reduceAdd, D.fix, Int.reduceToNat, Nat.reduceMul, Nat.reduceBNe, Nat.reduceBEq, zbb, zao, za0, r5C, r4C, zau, zaf, q, decide_true, decide_false, zbj]
  refine hK52 _ _ ?_
  refine zay rfl (fun ht => ?_) (fun ht => ?_)
  ·have hlt : k < 8 := by simp at ht; omega
   have hl : k < x.ins.length := by omega
   obtain ⟨b0, b1⟩ := hx.ins k hl
   refine za4 (hK51 _ _ ?_)
   refine zav fun K53 hK53 => ?_
   refine za5 ?_
   refine zb3 zar hc zcb rfl (q := 1) (by kernel_rfl) (by kernel_rfl) fun K54 hK54 => ?_
   simp -dsimp -implicitDefEqProofs (disch := first | assumption | omega | (simp only [r_z, zaa, zab] <;> omega) | decide) only [r_r, ↓reduceIte, Nat.reduceEqDiff, Nat.reduceAdd, D.fix, Int.reduceToNat, Nat.reduceMul, Nat.reduceBNe, Nat.reduceBEq, zbb, zao, za0, r5C, r4C, zau, zaf, zbj]
   refine hK54 _ _ ?_
   refine zav fun K55 hK55 => ?_
   refine zah hp zar hc rfl fun K56 hK56 => ?_
   rcases tf (1 + nth x.ins k % 4 == 1) with e1 | e1
   rotate_left
   rcases tf (1 + nth x.ins k % 4 == 2) with e2 | e2
   rotate_left 2
   ·have e2 := e1
    simp -dsimp -implicitDefEqProofs (disch := first | assumption | omega | (simp only [r_z, zaa, zab] <;> omega) | decide) only [r_r, ↓reduceIte, Nat.reduceEqDiff, Nat.reduceAdd, D.fix, Int.reduceToNat, Nat.reduceMul, Nat.reduceBNe, Nat.reduceBEq, zbb, zao, za0, r5C, r4C, zau, zaf, e1, e2, zbj]
    refine hK56 _ _ ?_
    refine zay rfl (fun ht => ?_) (fun ht => ?_)
    ·refine zba hp zar hc rfl fun K57 hK57 => ?_
     simp -dsimp -implicitDefEqProofs (disch := first | assumption | omega | (simp only [r_z, zaa, zab] <;> omega) | decide) only [r_r, ↓reduceIte, Nat.reduceEqDiff, Nat.reduceAdd, D.fix, Int.reduceToNat, Nat.reduceMul, Nat.reduceBNe, Nat.reduceBEq, zbb, zao, za0, r5C, r4C, zau, zaf, zbj]
     refine hK57 _ _ (hK55 _ _ ?_)
     refine zba hp zar hc rfl fun K58 hK58 => ?_
     simp -dsimp -implicitDefEqProofs (disch := first | assumption | omega | (simp only [r_z, zaa, zab] <;> omega) | decide) only [r_r, ↓reduceIte, Nat.reduceEqDiff, Nat.reduceAdd, D.fix, Int.reduceToNat, Nat.reduceMul, Nat.reduceBNe, Nat.reduceBEq, zbb, zao, za0, r5C, r4C, zau, zaf, zbj]
     refine hK58 _ _ (hK53 _ _ ?_)
     refine zba hp zar hc rfl fun K59 hK59 => ?_
     simp -dsimp -implicitDefEqProofs (disch := first | assumption | omega | (simp only [r_z, zaa, zab] <;> omega) | decide) only [r_r, ↓reduceIte, Nat.reduceEqDiff, Nat.reduceAdd, D.fix, Int.reduceToNat, Nat.reduceMul, Nat.reduceBNe, Nat.reduceBEq, zbb, zao, za0, r5C, r4C, zau, zaf, zbj]
     refine hK59 _ _ ⟨_, _, _, ?_, ⟨k + 1, ws ++ [⟨1 + nth x.ins k % 4, nth x.ins k / 4 % 3, nth x.ins k / 12 % 3⟩], ⟨by omega, by simp [hw], zcl hwi ⟨by simp only; omega, by simp only; omega, by simp only; omega, by simp only; omega, by simp only; omega, by simp only; omega⟩⟩, rfl, rfl, rfl⟩, ?_⟩
     ·first | omega | (simp only [List.length_cons]; omega) | (dsimp only; omega)
     ·refine Rt.trans (Rt.gc (keep := [0,1,2,6]) (by decide) (by decide) (by simp [fzH, gcH])) ?_
      refine Rt.end (by repeat (first | exact zat _ | refine zap ?_ (by first | rfl | (simp [r_f, zaa, zab]; done) | simp [r_f, zaa, zab, *]))) ?_
      simp only [r_g, Nat.reduceAdd, ↓reduceIte, Nat.reduceEqDiff, zbb, zao, za0, r5C, r4C, zau, zaf]; simp [zao, iD]
    ·cases ht
   ·simp -dsimp -implicitDefEqProofs (disch := first | assumption | omega | (simp only [r_z, zaa, zab] <;> omega) | decide) only [r_r, ↓reduceIte, Nat.reduceEqDiff, Nat.reduceAdd, D.fix, Int.reduceToNat, Nat.reduceMul, Nat.reduceBNe, Nat.reduceBEq, zbb, zao, za0, r5C, r4C, zau, zaf, e1, e2, zbj]
    refine hK56 _ _ ?_
    refine zay rfl (fun ht => ?_) (fun ht => ?_)
    ·refine zba hp zar hc rfl fun K60 hK60 => ?_
     simp -dsimp -implicitDefEqProofs (disch := first | assumption | omega | (simp only [r_z, zaa, zab] <;> omega) | decide) only [r_r, ↓reduceIte, Nat.reduceEqDiff, Nat.reduceAdd, D.fix, Int.reduceToNat, Nat.reduceMul, Nat.reduceBNe, Nat.reduceBEq, zbb, zao, za0, r5C, r4C, zau, zaf, zbj]
     refine hK60 _ _ (hK55 _ _ ?_)
     refine zba hp zar hc rfl fun K61 hK61 => ?_
     simp -dsimp -implicitDefEqProofs (disch := first | assumption | omega | (simp only [r_z, zaa, zab] <;> omega) | decide) only [r_r, ↓reduceIte, Nat.reduceEqDiff, Nat.reduceAdd, D.fix, Int.reduceToNat, Nat.reduceMul, Nat.reduceBNe, Nat.reduceBEq, zbb, zao, za0, r5C, r4C, zau, zaf, zbj]
     refine hK61 _ _ (hK53 _ _ ?_)
     refine zba hp zar hc rfl fun K62 hK62 => ?_
     simp -dsimp -implicitDefEqProofs (disch := first | assumption | omega | (simp only [r_z, zaa, zab] <;> omega) | decide) only [r_r, ↓reduceIte, Nat.reduceEqDiff, Nat.reduceAdd, D.fix, Int.reduceToNat, Nat.reduceMul, Nat.reduceBNe, Nat.reduceBEq, zbb, zao, za0, r5C, r4C, zau, zaf, zbj]
     refine hK62 _ _ ⟨_, _, _, ?_, ⟨k + 1, ws ++ [⟨1 + nth x.ins k % 4, nth x.ins k / 4 % 3, nth x.ins k / 12 % 3⟩], ⟨by omega, by simp [hw], zcl hwi ⟨by simp only; omega, by simp only; omega, by simp only; omega, by simp only; omega, by simp only; omega, by simp only; omega⟩⟩, rfl, rfl, rfl⟩, ?_⟩
     ·first | omega | (simp only [List.length_cons]; omega) | (dsimp only; omega)
     ·refine Rt.trans (Rt.gc (keep := [0,1,2,6]) (by decide) (by decide) (by simp [fzH, gcH])) ?_
      refine Rt.end (by repeat (first | exact zat _ | refine zap ?_ (by first | rfl | (simp [r_f, zaa, zab]; done) | simp [r_f, zaa, zab, *]))) ?_
      simp only [r_g, Nat.reduceAdd, ↓reduceIte, Nat.reduceEqDiff, zbb, zao, za0, r5C, r4C, zau, zaf]; simp [zao, iD]
    ·cases ht
   ·simp -dsimp -implicitDefEqProofs (disch := first | assumption | omega | (simp only [r_z, zaa, zab] <;> omega) | decide) only [r_r, ↓reduceIte, Nat.reduceEqDiff, Nat.reduceAdd, D.fix, Int.reduceToNat, Nat.reduceMul, Nat.reduceBNe, Nat.reduceBEq, zbb, zao, za0, r5C, r4C, zau, zaf, e1, e2, zbj]
    refine hK56 _ _ ?_
    refine zay rfl (fun ht => ?_) (fun ht => ?_)
    ·cases ht
    ·refine za4 (hK55 _ _ ?_)
     refine zba hp zar hc rfl fun K63 hK63 => ?_
     simp -dsimp -implicitDefEqProofs (disch := first | assumption | omega | (simp only [r_z, zaa, zab] <;> omega) | decide) only [r_r, ↓reduceIte, Nat.reduceEqDiff, Nat.reduceAdd, D.fix, Int.reduceToNat, Nat.reduceMul, Nat.reduceBNe, Nat.reduceBEq, zbb, zao, za0, r5C, r4C, zau, zaf, zbj]
     refine hK63 _ _ (hK53 _ _ ?_)
     refine zba hp zar hc rfl fun K64 hK64 => ?_
     simp -dsimp -implicitDefEqProofs (disch := first | assumption | omega | (simp only [r_z, zaa, zab] <;> omega) | decide) only [r_r, ↓reduceIte, Nat.reduceEqDiff, Nat.reduceAdd, D.fix, Int.reduceToNat, Nat.reduceMul, Nat.reduceBNe, Nat.reduceBEq, zbb, zao, za0, r5C, r4C, zau, zaf, zbj]
     refine hK64 _ _ ⟨_, _, _, ?_, ⟨k + 1, ws ++ [⟨1 + nth x.ins k % 4, nth x.ins k / 4 % 3, 0⟩], ⟨by omega, by simp [hw], zcl hwi ⟨by simp only; omega, by simp only; omega, by simp only; omega, by simp only; omega, by simp only; omega, by simp only; omega⟩⟩, rfl, rfl, rfl⟩, ?_⟩
     ·first | omega | (simp only [List.length_cons]; omega) | (dsimp only; omega)
     ·refine Rt.trans (Rt.gc (keep := [0,1,2,6]) (by decide) (by decide) (by simp [fzH, gcH])) ?_
      refine Rt.end (by repeat (first | exact zat _ | refine zap ?_ (by first | rfl | (simp [r_f, zaa, zab]; done) | simp [r_f, zaa, zab, *]))) ?_
      simp only [r_g, Nat.reduceAdd, ↓reduceIte, Nat.reduceEqDiff, zbb, zao, za0, r5C, r4C, zau, zaf]; simp [zao, iD]
  ·refine zbi (hJ3 _ _ ⟨_, _, ws, ⟨by omega, by omega, hwi⟩, rfl, rfl, ?_⟩)
   refine Rt.end (by repeat (first | exact zat _ | refine zap ?_ (by first | rfl | (simp [r_f, zaa, zab]; done) | simp [r_f, zaa, zab, *]))) ?_
   first | rfl | (simp only [r_g, Nat.reduceAdd, ↓reduceIte, Nat.reduceEqDiff, zbb, zao, za0, r5C, r4C, zau, zaf]; first | done | rfl)
 ·simp -dsimp -implicitDefEqProofs (disch := first | assumption | omega | (simp only [r_z, zaa, zab] <;> omega) | decide) only [r_r, ↓reduceIte, Nat.reduceEqDiff, Nat.reduceAdd, D.fix, Int.reduceToNat, Nat.reduceMul, Nat.reduceBNe, Nat.reduceBEq, zbb, zao, za0, r5C, r4C, zau, zaf, q, decide_true, decide_false, zbj]
  refine hK52 _ _ ?_
  refine zay rfl (fun ht => ?_) (fun ht => ?_)
  ·cases ht
  ·skip
   refine zbi (hJ3 _ _ ⟨_, _, ws, ⟨by omega, by omega, hwi⟩, rfl, rfl, ?_⟩)
   refine Rt.end (by repeat (first | exact zat _ | refine zap ?_ (by first | rfl | (simp [r_f, zaa, zab]; done) | simp [r_f, zaa, zab, *]))) ?_
   first | rfl | (simp only [r_g, Nat.reduceAdd, ↓reduceIte, Nat.reduceEqDiff, zbb, zao, za0, r5C, r4C, zau, zaf]; first | done | rfl)
end Go.Proofs.Ytapjobndmmkanaa
