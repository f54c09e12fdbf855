/- The nets that bytes describe are valid (as netsim's laws have them). -/
import Derived.Test.YtapjobndmmkanaaQr
import Derived.Test.YtapjobndmmkanaaDb
import Derived.Test.YtapjobndmmkanaaTy
import Derived.Test.YtapjobndmmkanaaOn
set_option linter.unusedVariables false
set_option linter.unusedSimpArgs false
set_option maxRecDepth 100000
set_option maxHeartbeats 4000000
namespace Go.Proofs.Ytapjobndmmkanaa
open Go Go.RowKit
theorem jbj : (((((((type_of% @zhw) ∧ (type_of% @zjb)) ∧ ((type_of% @zuo) ∧ (type_of% @jiu))) ∧ (((type_of% @zmu) ∧ (type_of% @zfc)) ∧ ((type_of% @zfd) ∧ (type_of% @zfe)))) ∧ ((((type_of% @zje) ∧ (type_of% @zjf)) ∧ ((type_of% @zmt) ∧ (type_of% @zms))) ∧ (((type_of% @zfp) ∧ (type_of% @zfq)) ∧ ((type_of% @zgz) ∧ ((type_of% @jbb) ∧ (type_of% @jiv)))))) ∧ (((((type_of% @zsg) ∧ (type_of% @zib)) ∧ ((type_of% @zev) ∧ (type_of% @zew))) ∧ (((type_of% @zuk) ∧ (type_of% @zlh)) ∧ ((type_of% @zdc) ∧ (type_of% @zdd)))) ∧ ((((type_of% @zdh) ∧ (type_of% @zfb)) ∧ ((type_of% @zia) ∧ (type_of% @zmp))) ∧ (((type_of% @zmq) ∧ (type_of% @zpp)) ∧ ((type_of% @jit) ∧ ((type_of% @zfo) ∧ (type_of% @jex))))))) ∧ ((((((type_of% @jtm) ∧ (type_of% @jtn)) ∧ ((type_of% @jto) ∧ (type_of% @juj))) ∧ (((type_of% @juk) ∧ (type_of% @jul)) ∧ ((type_of% @jum) ∧ (type_of% @jq4)))) ∧ ((((type_of% @jq5) ∧ (type_of% @jya)) ∧ ((type_of% @jew) ∧ (type_of% @jtj))) ∧ (((type_of% @jtk) ∧ (type_of% @jtl)) ∧ ((type_of% @jmg) ∧ ((type_of% @jmh) ∧ (type_of% @jmi)))))) ∧ (((((type_of% @jmj) ∧ (type_of% @zmw)) ∧ ((type_of% @zff) ∧ (type_of% @zfg))) ∧ (((type_of% @zus) ∧ (type_of% @zut)) ∧ ((type_of% @jbf) ∧ ((type_of% @zmv) ∧ (type_of% @zie))))) ∧ ((((type_of% @zlm) ∧ (type_of% @zln)) ∧ ((type_of% @zlp) ∧ (type_of% @jev))) ∧ (((type_of% @zpl) ∧ (type_of% @zpm)) ∧ ((type_of% @zpn) ∧ ((type_of% @zgp) ∧ (type_of% @zgq)))))))) := ⟨⟨⟨⟨⟨⟨@zhw, @zjb⟩, ⟨@zuo, @jiu⟩⟩, ⟨⟨@zmu, @zfc⟩, ⟨@zfd, @zfe⟩⟩⟩, ⟨⟨⟨@zje, @zjf⟩, ⟨@zmt, @zms⟩⟩, ⟨⟨@zfp, @zfq⟩, ⟨@zgz, ⟨@jbb, @jiv⟩⟩⟩⟩⟩, ⟨⟨⟨⟨@zsg, @zib⟩, ⟨@zev, @zew⟩⟩, ⟨⟨@zuk, @zlh⟩, ⟨@zdc, @zdd⟩⟩⟩, ⟨⟨⟨@zdh, @zfb⟩, ⟨@zia, @zmp⟩⟩, ⟨⟨@zmq, @zpp⟩, ⟨@jit, ⟨@zfo, @jex⟩⟩⟩⟩⟩⟩, ⟨⟨⟨⟨⟨@jtm, @jtn⟩, ⟨@jto, @juj⟩⟩, ⟨⟨@juk, @jul⟩, ⟨@jum, @jq4⟩⟩⟩, ⟨⟨⟨@jq5, @jya⟩, ⟨@jew, @jtj⟩⟩, ⟨⟨@jtk, @jtl⟩, ⟨@jmg, ⟨@jmh, @jmi⟩⟩⟩⟩⟩, ⟨⟨⟨⟨@jmj, @zmw⟩, ⟨@zff, @zfg⟩⟩, ⟨⟨@zus, @zut⟩, ⟨@jbf, ⟨@zmv, @zie⟩⟩⟩⟩, ⟨⟨⟨@zlm, @zln⟩, ⟨@zlp, @jev⟩⟩, ⟨⟨@zpl, @zpm⟩, ⟨@zpn, ⟨@zgp, @zgq⟩⟩⟩⟩⟩⟩⟩
def DriveOk (m : Nat) (l : List Int) : Prop := ∀ k, k < l.length → 0 ≤ nth l k ∧ nth l k < m
structure R5 where
 a : Int
 b : Int
 c : Int
 d : Int
 e : Int
instance : Inhabited R5 := ⟨⟨0, 0, 0, 0, 0⟩⟩
structure R4 where
 a : Int
 b : Int
 c : Int
 d : Int
instance : Inhabited R4 := ⟨⟨0, 0, 0, 0⟩⟩
def r5C (g : R5) : List D := [bD g.a, bD g.b, bD g.c, bD g.d, bD g.e]
def r4C (g : R4) : List D := [bD g.a, bD g.b, bD g.c, bD g.d]
theorem jzg (g : R5) : (r5C g).length = 5 := rfl
theorem jzh (g : R4) : (r4C g).length = 4 := rfl
theorem juz {l : List R5} {k : Nat} (h : k < l.length) : zb7 (l.flatMap r5C) (k * 5) 5 = some (r5C (nth l k)) := zf8 jzg h
theorem ju0 {l : List R4} {k : Nat} (h : k < l.length) : zb7 (l.flatMap r4C) (k * 4) 4 = some (r4C (nth l k)) := zf8 jzh h
structure RawN where
 ins : List Int
 gates : List R5
 out : List R4
def B1 (n : Int) : Prop := 0 ≤ n ∧ n < 256
structure RawOk (x : RawN) : Prop where
 ins : ∀ k, k < x.ins.length → B1 (nth x.ins k)
 gates : ∀ k, k < x.gates.length → B1 (nth x.gates k).a ∧ B1 (nth x.gates k).b ∧ B1 (nth x.gates k).c ∧ B1 (nth x.gates k).d ∧ B1 (nth x.gates k).e
 out : ∀ k, k < x.out.length → B1 (nth x.out k).a ∧ B1 (nth x.out k).b ∧ B1 (nth x.out k).c ∧ B1 (nth x.out k).d
def zkc (x : RawN) : List D := [bytesD x.ins, .fs (x.gates.flatMap r5C) x.gates.length, .fs (x.out.flatMap r4C) x.out.length]
structure WireIn (w : Wire) : Prop where
 k1 : 1 ≤ w.kind
 k4 : w.kind ≤ 4
 i0 : 0 ≤ w.i
 b0 : 0 ≤ w.bit
 b7 : w.bit ≤ 7
 i2 : w.i ≤ 1000000
structure WireOut (w : Wire) : Prop where
 k : w.kind = 1 ∨ (5 ≤ w.kind ∧ w.kind ≤ 10)
 i0 : 0 ≤ w.i
 b0 : 0 ≤ w.bit
 b7 : w.bit ≤ 7
 i2 : w.i ≤ 1000000
structure GateV (g : Gate) : Prop where
 c : g.op ≤ 4 → g.c = 0
 b : g.op = 1 → g.b = 0
 n : g.op ≠ 7 → g.n = 0
 m : g.n ≤ 63
theorem zdp {α : Type} {P : α → Prop} {l : List α} {a : α} (h : ∀ x ∈ l, P x) (ha : P a) : ∀ x ∈ l ++ [a], P x := fun x hx => by
 rcases List.mem_append.1 hx with hx | hx
 ·exact h x hx
 ·rw [List.mem_singleton.1 hx]; exact ha
theorem zn7 {α : Type} {P : α → Prop} : ∀ x ∈ ([] : List α), P x := fun x hx => by cases hx
theorem jja {i : Nat} (h : i < 7) : nth ([1, 5, 6, 7, 8, 9, 10] : List Int) i = 1 ∨ (5 ≤ nth ([1, 5, 6, 7, 8, 9, 10] : List Int) i ∧ nth ([1, 5, 6, 7, 8, 9, 10] : List Int) i ≤ 10) := by
 rcases (show i = 0 ∨ i = 1 ∨ i = 2 ∨ i = 3 ∨ i = 4 ∨ i = 5 ∨ i = 6 by omega) with rfl | rfl | rfl | rfl | rfl | rfl | rfl <;> decide
structure NetOk (n : Net) : Prop where
 i1 : 1 ≤ n.ins.length
 i2 : n.ins.length ≤ 9
 g1 : n.gates.length ≤ 60
 g2 : GatesOk (2 + n.ins.length) n.gates
 d0 : n.out.length = n.drive.length
 d1 : n.drive.length ≤ 9
 d2 : DriveOk (2 + n.ins.length + n.gates.length) n.drive
 d3 : 1 ≤ n.drive.length
 wi : ∀ w ∈ n.ins, WireIn w
 wo : ∀ w ∈ n.out, WireOut w
 gv : ∀ g ∈ n.gates, GateV g
theorem GatesOk.snoc {m : Nat} {l : List Gate} {g : Gate} (h : GatesOk m l) (hg : GateOk (m + l.length) g) : GatesOk m (l ++ [g]) := fun k hk => by
 by_cases hl : k < l.length
 ·rw [zh7 hl]; exact h k hl
 ·have : k = l.length := by simp at hk; omega
  subst this
  rw [zgn]; exact hg
theorem DriveOk.snoc {m : Nat} {l : List Int} {d : Int} (h : DriveOk m l) (h0 : 0 ≤ d) (h1 : d < m) : DriveOk m (l ++ [d]) := fun k hk => by
 by_cases hl : k < l.length
 ·rw [zh7 hl]; exact h k hl
 ·have : k = l.length := by simp at hk; omega
  subst this
  rw [zgn]; exact ⟨h0, h1⟩
theorem jfi (m : Nat) : GatesOk m [] := fun k hk => by simp at hk
theorem zuy (m : Nat) : DriveOk m [] := fun k hk => by simp at hk
theorem joz (a : Int) : 0 ≤ zvp .and .i64 a 1023 := by
 have h : (BitVec.ofInt 64 a &&& BitVec.ofInt 64 1023).toNat ≤ 1023 := by
  rw [BitVec.toNat_and]
  exact Nat.le_trans Nat.and_le_right (by decide)
 show 0 ≤ IntKind.i64.wrap ((BitVec.ofInt 64 a &&& BitVec.ofInt 64 1023).toNat : Int)
 rw [zua (by omega) (by omega)]
 omega
theorem jfj {i : Nat} (h : i < 7) : ([.val (.int .i64 1), .val (.int .i64 5), .val (.int .i64 6), .val (.int .i64 7), .val (.int .i64 8), .val (.int .i64 9), .val (.int .i64 10)] : List D)[i]? = some (.val (.int .i64 (nth [1, 5, 6, 7, 8, 9, 10] i))) := by
 rcases (show i = 0 ∨ i = 1 ∨ i = 2 ∨ i = 3 ∨ i = 4 ∨ i = 5 ∨ i = 6 by omega) with rfl | rfl | rfl | rfl | rfl | rfl | rfl <;> rfl
theorem mkG {ws : List Wire} {gs : List Gate} {k : Nat} (hw : gs.length = k) {a b c d e : Int} (a0 : 0 ≤ a) (a1 : a < 256) (b0 : 0 ≤ b) (b1 : b < 256) (c0 : 0 ≤ c) (c1 : c < 256) (d0 : 0 ≤ d) (d1 : d < 256) (e0 : 0 ≤ e) (e1 : e < 256) {u v w : Int}
  (hu : u = 0 ∨ u = c % (2 + ws.length + k)) (hv : v = 0 ∨ v = d % (2 + ws.length + k)) (hn : w = 0 ∨ w = 8 * (e % 3) + e / 3 % 2) : GateOk (2 + ws.length + gs.length) ⟨1 + a % 7, b % (2 + ws.length + k), u, v, w⟩ := by
 have hpos : (0 : Int) < 2 + ws.length + k := by omega
 have m (z : Int) : 0 ≤ z % (2 + ws.length + k) ∧ z % (2 + ws.length + k) < 2 + ws.length + k := ⟨Int.emod_nonneg _ (Int.ne_of_gt hpos), Int.emod_lt_of_pos _ hpos⟩
 have mb := m b
 have mc := m c
 have md := m d
 generalize b % (2 + ws.length + k : Int) = B at *
 generalize c % (2 + ws.length + k : Int) = C at *
 generalize d % (2 + ws.length + k : Int) = D at *
 subst hw
 constructor <;> simp only <;> omega
theorem zdf {p q : Prop} (hq : q) (h : p = q := by
 conv => lhs; simp -dsimp -implicitDefEqProofs (disch := first | assumption | omega | (simp only [r_z, zae, zab] <;> omega) | decide) only [r_r, ↓reduceIte, Nat.reduceEqDiff, Nat.reduceAdd, D.fix, Int.reduceToNat, Nat.reduceMul, Nat.reduceBNe, Nat.reduceBEq, zkc, za6, zb8, r5C, r4C, zcd, zbj, jbj]) : p := h.mpr hq
theorem ju1 {p q : Prop} (hq : q) (h : p = q := by
 conv => lhs; simp -dsimp -implicitDefEqProofs (disch := first | assumption | omega | (simp only [r_z, zae, zab] <;> omega) | decide) only [r_r, ↓reduceIte, Nat.reduceEqDiff, Nat.reduceAdd, D.fix, Int.reduceToNat, Nat.reduceMul, Nat.reduceBNe, Nat.reduceBEq, zkc, za6, zb8, r5C, r4C, zcd, zbj, zhw, zjb]) : p := h.mpr hq
theorem jo0 {p q : Prop} (hq : q) (h : p = q := by
 conv => lhs; simp -dsimp -implicitDefEqProofs (disch := first | assumption | omega | (simp only [r_z, zae, zab] <;> omega) | decide) only [r_r, ↓reduceIte, Nat.reduceEqDiff, Nat.reduceAdd, D.fix, Int.reduceToNat, Nat.reduceMul, Nat.reduceBNe, Nat.reduceBEq, zkc, za6, zb8, r5C, r4C, zcd, zbj]) : p := h.mpr hq
theorem zuz {m : List Nat} {τ τ' : Fr} {H H' : zad} (h2 : H = H') (h : zgu τ τ' := by
 repeat (first | exact zar _ | refine zam ?_ (by first | rfl | (simp [r_f, zae, zab]; done) | simp [r_f, zae, zab, *]))) : Rt m τ H τ' H' := Rt.end h h2
theorem jbk {p q r : Prop} (e : r) (hq : q) (h : r → p = q := by
 intro hY
 conv => lhs; simp -dsimp -implicitDefEqProofs (disch := first | assumption | omega | (simp only [r_z, zae, zab] <;> omega) | decide) only [r_r, ↓reduceIte, Nat.reduceEqDiff, Nat.reduceAdd, D.fix, Int.reduceToNat, Nat.reduceMul, Nat.reduceBNe, Nat.reduceBEq, zkc, za6, zb8, r5C, r4C, zcd, zbj, decide_true, decide_false, jbj, hY]) : p := (h e).mpr hq
theorem jjb (k : List Nat) {m : List Nat} {τ τ1 : Fr} {H H1 : zad} (h : Rt m (fun t => gcV k (τ t)) (gcH k H) τ1 H1) (a : ∀ i ∈ m, k[i]? = some i := by decide) (b : k.Nodup := by decide) (c : ∀ i ∈ k, i < H.length := by
 simp [fzH, gcH]) : Rt m τ H τ1 H1 := Rt.trans (Rt.gc a b c) h
theorem jo1 {p q r : Prop} (e : r) (hq : q) (h : r → p = q := by
 intro hY
 conv => lhs; simp -dsimp -implicitDefEqProofs (disch := first | assumption | omega | (simp only [r_z, zae, zab] <;> omega) | decide) only [r_r, ↓reduceIte, Nat.reduceEqDiff, Nat.reduceAdd, D.fix, Int.reduceToNat, Nat.reduceMul, Nat.reduceBNe, Nat.reduceBEq, zkc, za6, zb8, r5C, r4C, zcd, zbj, jbj, hY]) : p := (h e).mpr hq
theorem ya5 {p q : Prop} (hq : q) (h : p = q := by
 conv => lhs; simp (disch := first | assumption | omega | (simp only [r_z, zae, zab] <;> omega) | decide) only [r_c, Nat.reduceAdd, D.fix, ↓reduceIte, Nat.reduceEqDiff, zkc, za6, zb8, r5C, r4C, zcd, zbj, zz1, ji5, List.map_append]) : p := h.mpr hq
theorem jjc {p : Prop} (h : p := by
 first | rfl | (simp only [r_g, Nat.reduceAdd, ↓reduceIte, Nat.reduceEqDiff, zkc, za6, zb8, r5C, r4C, zcd, zbj]; first | done | rfl)) : p := h
theorem jm7 {p q : Prop} (hq : q) (h : p = q := by
 conv => lhs; simp only [r_g, Nat.reduceAdd, ↓reduceIte, Nat.reduceEqDiff, zkc, za6, zb8, r5C, r4C, zcd, zbj]) : p := h.mpr hq
theorem ju2 (x : RawN) (hx : RawOk x) : zf5 Try.prog 12 [.agg (zkc x)] (fun r => ∃ n, NetOk n ∧ r = .d (zby n)) := by
 refine zit (fn := Try.f12) (by kernel_rfl) Try.func12 rfl (Nat.le_of_ble_eq_true rfl) fun c hc hp => ?_
 refine za0 (τ' := frL [(0, .d (.agg (zkc x)))]) (by repeat (first | exact zar _ | refine zam ?_ (by first | rfl | (simp [r_f, zae, zab]; done) | simp [r_f, zae, zab, *]))) ?_
 refine szq hp (fun _ hZ => zdf hZ) ?_
 refine szq hp (fun _ hZ => zdf hZ) ?_
 refine zaa fun K3 hK3 => ?_
 have hJ3 : ∀ τ' H', (∃ τ1 H1, ∃ (ws : List Wire), (1 ≤ ws.length ∧ ws.length ≤ 9 ∧ ∀ w ∈ ws, WireIn w) ∧ H1 = [.cells (avs (zkc x)), .cells [.d (.val (.slice none 0 0)), .d (.val (.slice none 0 0)), .d (.val (.slice none 0 0)), .d (.val (.slice none 0 0))], .cells [.os 3 3 0 ws.length, .d (.val (.slice none 0 0)), .d (.val (.slice none 0 0)), .d (.val (.slice none 0 0))], .cells (avs (ws.flatMap za6))] ∧ τ1 = frL [(1, .op 0 0), (2, .op 1 0), (3, .op 2 0)] ∧ Rt [] τ' H' τ1 H1) → K3 τ' H' := by
  rintro τ' H' ⟨_, _, ws, ⟨w1, w2, hwi⟩, rfl, rfl, hrt⟩
  refine hK3 _ _ (zbg hp hrt ?_)
  clear hrt
  refine zaa fun K4 hK4 => ?_
  have hJ4 : ∀ τ' H', (∃ τ1 H1, ∃ (gs : List Gate), (gs.length ≤ 60 ∧ GatesOk (2 + ws.length) gs ∧ ∀ g ∈ gs, GateV g) ∧ H1 = [.cells (avs (zkc x)), .cells [.d (.val (.slice none 0 0)), .d (.val (.slice none 0 0)), .d (.val (.slice none 0 0)), .d (.val (.slice none 0 0))], .cells [.os 3 3 0 ws.length, .os 5 4 0 gs.length, .d (.val (.slice none 0 0)), .d (.val (.slice none 0 0))], .cells (avs (ws.flatMap za6)), .cells (avs (gs.flatMap zb8))] ∧ τ1 = frL [(1, .op 0 0), (2, .op 1 0), (3, .op 2 0)] ∧ Rt [] τ' H' τ1 H1) → K4 τ' H' := by
   rintro τ' H' ⟨_, _, gs, ⟨g1, g2, hgv⟩, rfl, rfl, hrt⟩
   refine hK4 _ _ (zbg hp hrt ?_)
   clear hrt
   refine zaa fun K5 hK5 => ?_
   have hJ5 : ∀ τ' H', (∃ τ1 H1, ∃ (os : List Wire) (dr : List Int), (os.length = dr.length ∧ dr.length ≤ 9 ∧ DriveOk (2 + ws.length + gs.length) dr ∧ ∀ w ∈ os, WireOut w) ∧ H1 = [.cells (avs (zkc x)), .cells [.d (.val (.slice none 0 0)), .d (.val (.slice none 0 0)), .d (.val (.slice none 0 0)), .d (.val (.slice none 0 0))], .cells [.os 3 3 0 ws.length, .os 5 4 0 gs.length, .os 3 5 0 os.length, .os 1 6 0 dr.length], .cells (avs (ws.flatMap za6)), .cells (avs (gs.flatMap zb8)), .cells (avs (os.flatMap za6)), .cells (avs (dr.map iD))] ∧ τ1 = frL [(1, .op 0 0), (2, .op 1 0), (3, .op 2 0)] ∧ Rt [] τ' H' τ1 H1) → K5 τ' H' := by
    rintro τ' H' ⟨_, _, os, dr, ⟨ho, hd, hdr, hwo⟩, rfl, rfl, hrt⟩
    refine hK5 _ _ (zbg hp hrt ?_)
    clear hrt
    refine zaa fun K6 hK6 => ?_
    refine szq hp (fun _ hZ => zdf hZ) ?_
    refine zah rfl (fun ht => ?_) (fun ht => ?_)
    ·refine szq hp (fun _ hZ => zdf hZ) ?_
     refine szs hp (fun _ hZ => zdf hZ) (hK6 _ _ ?_)
     refine szq hp (fun _ hZ => zdf hZ) ?_
     refine zal ?_
     try dsimp only [zbm, zaq]
     refine zak rfl ?_
     refine ju1 ?_
     show ∃ r, closeA _ _ = some r ∧ _
     refine ya5 ?_
     have h0 : os = [] := List.eq_nil_of_length_eq_zero (by simp at ht; simpa using ht)
     have h1 : dr = [] := List.eq_nil_of_length_eq_zero (by rw [← ho, h0]; rfl)
     subst h0 h1
     refine ⟨_, rfl, ⟨ws, gs, [⟨1, 0, 0⟩], [1 + ws.length + gs.length]⟩, ⟨w1, w2, g1, g2, rfl, by simp, (zuy _).snoc (by omega) (by simp only; omega), by simp, hwi, zdp zn7 ⟨.inl rfl, by decide, by decide, by decide, by decide⟩, hgv⟩, rfl⟩
    ·refine zaf (hK6 _ _ ?_)
     refine szq hp (fun _ hZ => zdf hZ) ?_
     refine zal ?_
     try dsimp only [zbm, zaq]
     refine zak rfl ?_
     refine ju1 ?_
     show ∃ r, closeA _ _ = some r ∧ _
     refine ya5 ?_
     have h0 : ¬ os.length = 0 := by simpa using ht
     refine ⟨_, rfl, ⟨ws, gs, os, dr⟩, ⟨w1, w2, g1, g2, ho, hd, hdr, by simp only; omega, hwi, hwo, hgv⟩, ?_⟩
     simp [zby, zb1, zao, zaj, intsD]
   refine szq hp (fun _ hZ => jo0 hZ) ?_
   refine zac ?_
   refine zan hp (fun τ' H' mm => ∃ (k : Nat) (os : List Wire) (dr : List Int), (k ≤ 9 ∧ os.length = k ∧ dr.length = k ∧ DriveOk (2 + ws.length + gs.length) dr ∧ ∀ w ∈ os, WireOut w) ∧ mm = 9 - k ∧ H' = [.cells (avs (zkc x)), .cells [.d (.val (.slice none 0 0)), .d (.val (.slice none 0 0)), .d (.val (.slice none 0 0)), .d (.val (.slice none 0 0))], .cells [.os 3 3 0 ws.length, .os 5 4 0 gs.length, .os 3 5 0 os.length, .os 1 6 0 dr.length], .cells (avs (ws.flatMap za6)), .cells (avs (gs.flatMap zb8)), .cells (avs (os.flatMap za6)), .cells (avs (dr.map iD))] ∧ τ' = frL [(1, .op 0 0), (2, .op 1 0), (3, .op 2 0), (10, .d (iD k))]) (9) ?_ ⟨0, [], [], ⟨by omega, rfl, rfl, zuy _, zn7⟩, rfl, rfl, rfl⟩ ?_
   ·refine Rt.trans (Rt.nilc 2 2 3 rfl rfl) ?_
    refine Rt.trans (Rt.nilc 2 3 1 rfl rfl) ?_
    refine zuz ?_
    exact jjc
   rintro τ' H' mm ⟨k, os, dr, ⟨hk, ho, hd, hdr, hwo⟩, rfl, rfl, rfl⟩
   refine zaa fun K13 hK13 => ?_
   refine zag hp zai hc rfl fun K14 hK14 => ?_
   by_cases q : (k : Int) < x.out.length
   ·refine jbk q ?_
    refine hK14 _ _ ?_
    refine zah rfl (fun ht => ?_) (fun ht => ?_)
    ·have hlt : k < 9 := by simp at ht; omega
     have hl : k < x.out.length := by omega
     obtain ⟨⟨a0, a1⟩, ⟨b0, b1⟩, ⟨c0, c1⟩, ⟨d0, d1⟩⟩ := hx.out k hl
     have hn := joz (1 + ws.length + gs.length - (nth x.out k).d)
     have hpos : (0 : Int) < 2 + ws.length + gs.length := by omega
     have hm0 := Int.emod_nonneg (zvp .and .i64 (1 + ws.length + gs.length - (nth x.out k).d) 1023) (Int.ne_of_gt hpos)
     have hm1 := Int.emod_lt_of_pos (zvp .and .i64 (1 + ws.length + gs.length - (nth x.out k).d) 1023) hpos
     refine zaf (hK13 _ _ ?_)
     refine zaa fun K15 hK15 => ?_
     refine zac ?_
     refine zag hp zai hc rfl fun K16 hK16 => ?_
     simp -dsimp -implicitDefEqProofs (disch := first | assumption | omega | (simp only [r_z, zae, zab] <;> omega) | decide) only [r_r, ↓reduceIte, Nat.reduceEqDiff, Nat.reduceAdd, D.fix, Int.reduceToNat, Nat.reduceMul, Nat.reduceBNe, Nat.reduceBEq, zkc, za6, zb8, r5C, r4C, zcd, zbj, ju0, jzh, jbj]
     refine hK16 _ _ ?_
     refine zas zai hc za8 rfl (q := 2) (by kernel_rfl) (by kernel_rfl) fun K17 hK17 => ?_
     simp -dsimp -implicitDefEqProofs (disch := first | assumption | omega | (simp only [r_z, zae, zab] <;> omega) | decide) only [r_r, ↓reduceIte, Nat.reduceEqDiff, Nat.reduceAdd, D.fix, Int.reduceToNat, Nat.reduceMul, Nat.reduceBNe, Nat.reduceBEq, zkc, za6, zb8, r5C, r4C, zcd, zbj, jfj, jbj]
     refine hK17 _ _ ?_
     refine szq hp (fun _ hZ => zdf hZ) ?_
     refine zfj zai hc za8 rfl (q := 2) (by kernel_rfl) (by kernel_rfl) fun K19 hK19 => ?_
     refine zdf ?_
     refine hK19 _ _ (hK15 _ _ ?_)
     refine za5 hp zai hc rfl fun K20 hK20 => ?_
     refine zdf ?_
     refine hK20 _ _ ⟨_, _, _, ?_, ⟨k + 1, os ++ [⟨nth [1, 5, 6, 7, 8, 9, 10] ((nth x.out k).a % 7).toNat, (nth x.out k).b % 3, (nth x.out k).c % 3⟩], dr ++ [zvp .and .i64 (1 + ws.length + gs.length - (nth x.out k).d) 1023 % (2 + ws.length + gs.length)], ⟨by omega, by simp [ho], by simp [hd], hdr.snoc hm0 (by omega), zdp hwo ⟨jja (by omega), by simp only; omega, by simp only; omega, by simp only; omega, by simp only; omega⟩⟩, rfl, rfl, rfl⟩, ?_⟩
     ·first | omega | (simp only [List.length_cons]; omega) | (dsimp only; omega)
     ·refine jjb [0,1,2,3,4,11,13] ?_
      refine zuz ?_
      refine jm7 ?_; simp [za6, iD]
    ·refine zau (hJ5 _ _ ⟨_, _, os, dr, ⟨by omega, by omega, hdr, hwo⟩, rfl, rfl, ?_⟩)
     refine zuz ?_
     exact jjc
   ·refine jbk q ?_
    refine hK14 _ _ ?_
    refine szf ?_
    refine zau (hJ5 _ _ ⟨_, _, os, dr, ⟨by omega, by omega, hdr, hwo⟩, rfl, rfl, ?_⟩)
    refine zuz ?_
    exact jjc
  refine szq hp (fun _ hZ => jo0 hZ) ?_
  refine zac ?_
  refine zan hp (fun τ' H' mm => ∃ (k : Nat) (gs : List Gate), (k ≤ 60 ∧ gs.length = k ∧ GatesOk (2 + ws.length) gs ∧ ∀ g ∈ gs, GateV g) ∧ mm = 60 - k ∧ H' = [.cells (avs (zkc x)), .cells [.d (.val (.slice none 0 0)), .d (.val (.slice none 0 0)), .d (.val (.slice none 0 0)), .d (.val (.slice none 0 0))], .cells [.os 3 3 0 ws.length, .os 5 4 0 gs.length, .d (.val (.slice none 0 0)), .d (.val (.slice none 0 0))], .cells (avs (ws.flatMap za6)), .cells (avs (gs.flatMap zb8))] ∧ τ' = frL [(1, .op 0 0), (2, .op 1 0), (3, .op 2 0), (6, .d (iD k))]) (60) ?_ ⟨0, [], ⟨by omega, rfl, jfi _, zn7⟩, rfl, rfl, rfl⟩ ?_
  ·refine Rt.trans (Rt.nilc 2 1 5 rfl rfl) ?_
   refine zuz ?_
   exact jjc
  rintro τ' H' mm ⟨k, gs, ⟨hk, hw, hgs, hgv⟩, rfl, rfl, rfl⟩
  refine zaa fun K22 hK22 => ?_
  refine zag hp zai hc rfl fun K23 hK23 => ?_
  by_cases q : (k : Int) < x.gates.length
  ·refine jbk q ?_
   refine hK23 _ _ ?_
   refine zah rfl (fun ht => ?_) (fun ht => ?_)
   ·have hlt : k < 60 := by simp at ht; omega
    have hl : k < x.gates.length := by omega
    obtain ⟨⟨a0, a1⟩, ⟨b0, b1⟩, ⟨c0, c1⟩, ⟨d0, d1⟩, ⟨e0, e1⟩⟩ := hx.gates k hl
    refine zaf (hK22 _ _ ?_)
    refine zaa fun K24 hK24 => ?_
    refine zac ?_
    refine zas zai hc za8 rfl (q := 1) (by kernel_rfl) (by kernel_rfl) fun K25 hK25 => ?_
    simp -dsimp -implicitDefEqProofs (disch := first | assumption | omega | (simp only [r_z, zae, zab] <;> omega) | decide) only [r_r, ↓reduceIte, Nat.reduceEqDiff, Nat.reduceAdd, D.fix, Int.reduceToNat, Nat.reduceMul, Nat.reduceBNe, Nat.reduceBEq, zkc, za6, zb8, r5C, r4C, zcd, zbj, juz, jzg, jbj]
    refine hK25 _ _ ?_
    refine zas zai hc za8 rfl (q := 1) (by kernel_rfl) (by kernel_rfl) fun K26 hK26 => ?_
    refine zdf ?_
    refine hK26 _ _ ?_
    refine zaa fun K27 hK27 => ?_
    refine szq hp (fun _ hZ => zdf hZ) ?_
    refine zah rfl (fun ht => ?_) (fun ht => ?_)
    ·have f1 : ¬ 1 + (nth x.gates k).a % 7 = 1 := by simpa using ht
     refine szs hp (fun _ hZ => zdf hZ) (hK27 _ _ ?_)
     refine zaa fun K30 hK30 => ?_
     refine szq hp (fun _ hZ => zdf hZ) ?_
     refine zah rfl (fun ht => ?_) (fun ht => ?_)
     ·have f2 : 5 ≤ 1 + (nth x.gates k).a % 7 := by simpa using ht
      refine szs hp (fun _ hZ => zdf hZ) (hK30 _ _ ?_)
      refine zaa fun K33 hK33 => ?_
      refine szq hp (fun _ hZ => zdf hZ) ?_
      refine zah rfl (fun ht => ?_) (fun ht => ?_)
      ·have f3 : 1 + (nth x.gates k).a % 7 = 7 := by simpa using ht
       refine szs hp (fun _ hZ => zdf hZ) (hK33 _ _ ?_)
       refine szs hp (fun _ hZ => zdf hZ) (hK24 _ _ ?_)
       refine za5 hp zai hc rfl fun K37 hK37 => ?_
       refine zdf ?_
       refine hK37 _ _ ⟨_, _, _, ?_, ⟨k + 1, gs ++ [⟨1 + (nth x.gates k).a % 7, (nth x.gates k).b % (2 + ws.length + k), (nth x.gates k).c % (2 + ws.length + k), (nth x.gates k).d % (2 + ws.length + k), 8 * ((nth x.gates k).e % 3) + (nth x.gates k).e / 3 % 2⟩], ⟨by omega, by simp [hw], hgs.snoc (mkG hw a0 a1 b0 b1 c0 c1 d0 d1 e0 e1 (.inr rfl) (.inr rfl) (.inr rfl)), zdp hgv ⟨fun h => by simp only at h; omega, fun h => by simp only at h; omega, fun h => by simp only at h; omega, by simp only; omega⟩⟩, rfl, rfl, rfl⟩, ?_⟩
       ·first | omega | (simp only [List.length_cons]; omega) | (dsimp only; omega)
       ·refine jjb [0,1,2,3,8] ?_
        refine zuz ?_
        refine jm7 ?_; simp [zb8, iD]
      ·have f3 : ¬ 1 + (nth x.gates k).a % 7 = 7 := by simpa using ht
       refine zaf (hK33 _ _ ?_)
       refine szs hp (fun _ hZ => zdf hZ) (hK24 _ _ ?_)
       refine za5 hp zai hc rfl fun K39 hK39 => ?_
       refine zdf ?_
       refine hK39 _ _ ⟨_, _, _, ?_, ⟨k + 1, gs ++ [⟨1 + (nth x.gates k).a % 7, (nth x.gates k).b % (2 + ws.length + k), (nth x.gates k).c % (2 + ws.length + k), (nth x.gates k).d % (2 + ws.length + k), 0⟩], ⟨by omega, by simp [hw], hgs.snoc (mkG hw a0 a1 b0 b1 c0 c1 d0 d1 e0 e1 (.inr rfl) (.inr rfl) (.inl rfl)), zdp hgv ⟨fun h => by simp only at h; omega, fun h => by simp only at h; omega, fun h => rfl, by simp only; omega⟩⟩, rfl, rfl, rfl⟩, ?_⟩
       ·first | omega | (simp only [List.length_cons]; omega) | (dsimp only; omega)
       ·refine jjb [0,1,2,3,8] ?_
        refine zuz ?_
        refine jm7 ?_; simp [zb8, iD]
     ·have f2 : ¬ 5 ≤ 1 + (nth x.gates k).a % 7 := by simpa using ht
      refine zaf (hK30 _ _ ?_)
      refine zaa fun K40 hK40 => ?_
      refine szq hp (fun _ hZ => zdf hZ) ?_
      refine zah rfl (fun ht => ?_) (fun ht => ?_)
      ·exfalso
       simp at ht
       omega
      ·refine zaf (hK40 _ _ ?_)
       refine szs hp (fun _ hZ => zdf hZ) (hK24 _ _ ?_)
       refine za5 hp zai hc rfl fun K43 hK43 => ?_
       refine zdf ?_
       refine hK43 _ _ ⟨_, _, _, ?_, ⟨k + 1, gs ++ [⟨1 + (nth x.gates k).a % 7, (nth x.gates k).b % (2 + ws.length + k), (nth x.gates k).c % (2 + ws.length + k), 0, 0⟩], ⟨by omega, by simp [hw], hgs.snoc (mkG hw a0 a1 b0 b1 c0 c1 d0 d1 e0 e1 (.inr rfl) (.inl rfl) (.inl rfl)), zdp hgv ⟨fun h => rfl, fun h => by simp only at h; omega, fun h => rfl, by simp only; omega⟩⟩, rfl, rfl, rfl⟩, ?_⟩
       ·first | omega | (simp only [List.length_cons]; omega) | (dsimp only; omega)
       ·refine jjb [0,1,2,3,8] ?_
        refine zuz ?_
        refine jm7 ?_; simp [zb8, iD]
    ·have f1 : 1 + (nth x.gates k).a % 7 = 1 := by simpa using ht
     refine zaf (hK27 _ _ ?_)
     refine zaa fun K44 hK44 => ?_
     refine szq hp (fun _ hZ => zdf hZ) ?_
     refine zah rfl (fun ht => ?_) (fun ht => ?_)
     ·exfalso
      simp at ht
      omega
     ·refine zaf (hK44 _ _ ?_)
      refine zaa fun K46 hK46 => ?_
      refine szq hp (fun _ hZ => zdf hZ) ?_
      refine zah rfl (fun ht => ?_) (fun ht => ?_)
      ·exfalso
       simp at ht
       omega
      ·refine zaf (hK46 _ _ ?_)
       refine szs hp (fun _ hZ => zdf hZ) (hK24 _ _ ?_)
       refine za5 hp zai hc rfl fun K49 hK49 => ?_
       refine zdf ?_
       refine hK49 _ _ ⟨_, _, _, ?_, ⟨k + 1, gs ++ [⟨1 + (nth x.gates k).a % 7, (nth x.gates k).b % (2 + ws.length + k), 0, 0, 0⟩], ⟨by omega, by simp [hw], hgs.snoc (mkG hw a0 a1 b0 b1 c0 c1 d0 d1 e0 e1 (.inl rfl) (.inl rfl) (.inl rfl)), zdp hgv ⟨fun h => rfl, fun h => rfl, fun h => rfl, by simp only; omega⟩⟩, rfl, rfl, rfl⟩, ?_⟩
       ·first | omega | (simp only [List.length_cons]; omega) | (dsimp only; omega)
       ·refine jjb [0,1,2,3,8] ?_
        refine zuz ?_
        refine jm7 ?_; simp [zb8, iD]
   ·refine zau (hJ4 _ _ ⟨_, _, gs, ⟨by omega, hgs, hgv⟩, rfl, rfl, ?_⟩)
    refine zuz ?_
    exact jjc
  ·refine jbk q ?_
   refine hK23 _ _ ?_
   refine szf ?_
   refine zau (hJ4 _ _ ⟨_, _, gs, ⟨by omega, hgs, hgv⟩, rfl, rfl, ?_⟩)
   refine zuz ?_
   exact jjc
 refine szq hp (fun _ hZ => jo0 hZ) ?_
 refine zac ?_
 refine zan hp (fun τ' H' mm => ∃ (k : Nat) (ws : List Wire), (k ≤ 8 ∧ ws.length = k + 1 ∧ ∀ w ∈ ws, WireIn w) ∧ mm = 8 - k ∧ H' = [.cells (avs (zkc x)), .cells [.d (.val (.slice none 0 0)), .d (.val (.slice none 0 0)), .d (.val (.slice none 0 0)), .d (.val (.slice none 0 0))], .cells [.os 3 3 0 ws.length, .d (.val (.slice none 0 0)), .d (.val (.slice none 0 0)), .d (.val (.slice none 0 0))], .cells (avs (ws.flatMap za6))] ∧ τ' = frL [(1, .op 0 0), (2, .op 1 0), (3, .op 2 0), (4, .d (iD k))]) (8) ?_ ⟨0, [⟨1, 0, 0⟩], ⟨by omega, rfl, zdp zn7 ⟨by decide, by decide, by decide, by decide, by decide, by decide⟩⟩, rfl, rfl, rfl⟩ ?_
 ·refine jjb [0,1,3,2] ?_
  refine zuz ?_
  exact jjc
 rintro τ' H' mm ⟨k, ws, ⟨hk, hw, hwi⟩, rfl, rfl, rfl⟩
 refine zaa fun K51 hK51 => ?_
 refine zag hp zai hc rfl fun K52 hK52 => ?_
 by_cases q : (k : Int) < x.ins.length
 ·refine jbk q ?_
  refine hK52 _ _ ?_
  refine zah rfl (fun ht => ?_) (fun ht => ?_)
  ·have hlt : k < 8 := by simp at ht; omega
   have hl : k < x.ins.length := by omega
   obtain ⟨b0, b1⟩ := hx.ins k hl
   refine zaf (hK51 _ _ ?_)
   refine zaa fun K53 hK53 => ?_
   refine zac ?_
   refine zas zai hc za8 rfl (q := 1) (by kernel_rfl) (by kernel_rfl) fun K54 hK54 => ?_
   refine zdf ?_
   refine hK54 _ _ ?_
   refine zaa fun K55 hK55 => ?_
   refine zag hp zai hc rfl fun K56 hK56 => ?_
   rcases tf (1 + nth x.ins k % 4 == 1) with e1 | e1
   rotate_left
   rcases tf (1 + nth x.ins k % 4 == 2) with e2 | e2
   rotate_left 2
   ·have e2 := e1
    refine jo1 (sza e1 e2) ?_
    refine hK56 _ _ ?_
    refine szt ?_
    refine szs hp (fun _ hZ => zdf hZ) (hK55 _ _ ?_)
    refine szs hp (fun _ hZ => zdf hZ) (hK53 _ _ ?_)
    refine za5 hp zai hc rfl fun K59 hK59 => ?_
    refine zdf ?_
    refine hK59 _ _ ⟨_, _, _, ?_, ⟨k + 1, ws ++ [⟨1 + nth x.ins k % 4, nth x.ins k / 4 % 3, nth x.ins k / 12 % 3⟩], ⟨by omega, by simp [hw], zdp hwi ⟨by simp only; omega, by simp only; omega, by simp only; omega, by simp only; omega, by simp only; omega, by simp only; omega⟩⟩, rfl, rfl, rfl⟩, ?_⟩
    ·first | omega | (simp only [List.length_cons]; omega) | (dsimp only; omega)
    ·refine jjb [0,1,2,6] ?_
     refine zuz ?_
     refine jm7 ?_; simp [za6, iD]
   ·refine jo1 (sza e1 e2) ?_
    refine hK56 _ _ ?_
    refine szt ?_
    refine szs hp (fun _ hZ => zdf hZ) (hK55 _ _ ?_)
    refine szs hp (fun _ hZ => zdf hZ) (hK53 _ _ ?_)
    refine za5 hp zai hc rfl fun K62 hK62 => ?_
    refine zdf ?_
    refine hK62 _ _ ⟨_, _, _, ?_, ⟨k + 1, ws ++ [⟨1 + nth x.ins k % 4, nth x.ins k / 4 % 3, nth x.ins k / 12 % 3⟩], ⟨by omega, by simp [hw], zdp hwi ⟨by simp only; omega, by simp only; omega, by simp only; omega, by simp only; omega, by simp only; omega, by simp only; omega⟩⟩, rfl, rfl, rfl⟩, ?_⟩
    ·first | omega | (simp only [List.length_cons]; omega) | (dsimp only; omega)
    ·refine jjb [0,1,2,6] ?_
     refine zuz ?_
     refine jm7 ?_; simp [za6, iD]
   ·refine jo1 (sza e1 e2) ?_
    refine hK56 _ _ ?_
    refine szf ?_
    refine zaf (hK55 _ _ ?_)
    refine szs hp (fun _ hZ => zdf hZ) (hK53 _ _ ?_)
    refine za5 hp zai hc rfl fun K64 hK64 => ?_
    refine zdf ?_
    refine hK64 _ _ ⟨_, _, _, ?_, ⟨k + 1, ws ++ [⟨1 + nth x.ins k % 4, nth x.ins k / 4 % 3, 0⟩], ⟨by omega, by simp [hw], zdp hwi ⟨by simp only; omega, by simp only; omega, by simp only; omega, by simp only; omega, by simp only; omega, by simp only; omega⟩⟩, rfl, rfl, rfl⟩, ?_⟩
    ·first | omega | (simp only [List.length_cons]; omega) | (dsimp only; omega)
    ·refine jjb [0,1,2,6] ?_
     refine zuz ?_
     refine jm7 ?_; simp [za6, iD]
  ·refine zau (hJ3 _ _ ⟨_, _, ws, ⟨by omega, by omega, hwi⟩, rfl, rfl, ?_⟩)
   refine zuz ?_
   exact jjc
 ·refine jbk q ?_
  refine hK52 _ _ ?_
  refine szf ?_
  skip
  refine zau (hJ3 _ _ ⟨_, _, ws, ⟨by omega, by omega, hwi⟩, rfl, rfl, ?_⟩)
  refine zuz ?_
  exact jjc
end Go.Proofs.Ytapjobndmmkanaa
