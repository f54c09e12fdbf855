/- netlist's builder: input wires, outputs. -/
import Derived.Test.YtapjobndmmkanaaQr
import Derived.Test.YtapjobndmmkanaaYd
set_option linter.unusedVariables false
set_option linter.unusedSimpArgs false
set_option maxRecDepth 100000
set_option maxHeartbeats 4000000
namespace Go.Proofs.Ytapjobndmmkanaa
open Go Go.RowKit
theorem jk8 : (((((type_of% @zmq) ∧ (type_of% @zfa)) ∧ ((type_of% @zgs) ∧ ((type_of% @zgt) ∧ (type_of% @ztr)))) ∧ (((type_of% @jbp) ∧ ((type_of% @jbq) ∧ (type_of% @zmp))) ∧ ((type_of% @zgh) ∧ ((type_of% @zme) ∧ (type_of% @zmf))))) ∧ ((((type_of% @zgg) ∧ (type_of% @zcq)) ∧ ((type_of% @zf0) ∧ ((type_of% @zf1) ∧ (type_of% @zg7)))) ∧ (((type_of% @jbn) ∧ ((type_of% @zgr) ∧ (type_of% @ze9))) ∧ ((type_of% @zd1) ∧ ((type_of% @zey) ∧ (type_of% @zee)))))) := ⟨⟨⟨⟨@zmq, @zfa⟩, ⟨@zgs, ⟨@zgt, @ztr⟩⟩⟩, ⟨⟨@jbp, ⟨@jbq, @zmp⟩⟩, ⟨@zgh, ⟨@zme, @zmf⟩⟩⟩⟩, ⟨⟨⟨@zgg, @zcq⟩, ⟨@zf0, ⟨@zf1, @zg7⟩⟩⟩, ⟨⟨@jbn, ⟨@zgr, @ze9⟩⟩, ⟨@zd1, ⟨@zey, @zee⟩⟩⟩⟩⟩
theorem zov {a b c : Int} : Value.agg #[.int .i64 a, .int .i64 b, .int .i64 c] = wV ⟨a, b, c⟩ := rfl
def WiK (e : BE) (gs : Gs) (μ : Mp) (ins : List Wire) (x : AV) (S' : zae) : Prop := ∃ mi, InM ins mi ∧ x = .tup [] ∧ S' = bH ⟨e.p, ins, mi, e.out, e.dr, e.dat⟩ gs μ
theorem zl3 {kind i : Int} {n : Nat} {w : Wire} (h : w ∈ zb2 kind i n) : w.kind = kind ∧ w.i = i ∧ ∃ k : Nat, k < n ∧ w.bit = k := by
 obtain ⟨k, hk, rfl⟩ := List.mem_map.1 h
 exact ⟨rfl, rfl, k, List.mem_range.1 hk, rfl⟩
theorem jyh {p q : Prop} (hq : q) (h : p = q := by
 conv => lhs; simp -dsimp -implicitDefEqProofs (disch := first | assumption | omega | (simp only [r_z, zab, zac, zaz] <;> omega) | decide) only [r_r, ↓reduceIte, Nat.reduceEqDiff, Nat.reduceAdd, D.fix, Int.reduceToNat, Nat.reduceMul, Nat.reduceBNe, Nat.reduceBEq, r_m, bH, bO, zar, zav, za2]) : p := h.mpr hq
theorem yfz {m : List Nat} {τ τ' : Fr} {H H' : zae} (h2 : H = H') (h : zfq τ τ' := by
 repeat (first | exact zas _ | refine zao ?_ (by first | rfl | (simp [r_f, zab, zac, zaz]; done) | simp [r_f, zab, zac, zaz, *]))) : Rt m τ H τ' H' := Rt.end h h2
theorem jrf {p q : Prop} (hq : q) (h : p = q := by
 conv => lhs; simp -dsimp -implicitDefEqProofs (disch := first | assumption | omega | (simp only [r_z, zab, zac, zaz] <;> omega) | decide) only [r_r, ↓reduceIte, Nat.reduceEqDiff, Nat.reduceAdd, D.fix, Int.reduceToNat, Nat.reduceMul, Nat.reduceBNe, Nat.reduceBEq, r_m, bH, bO, zar, zav, za2, jk8]) : p := h.mpr hq
theorem ydm {p q : Prop} (hq : q) (h : p = q := by
 conv => lhs; simp only [r_g, Nat.reduceAdd, ↓reduceIte, Nat.reduceEqDiff, r_m, bH, bO, zar, zav, za2]) : p := h.mpr hq
theorem zn3 (e : BE) (gs : Gs) (μ : Mp) (kind i : Int) (w : Nat) (hm : InM e.ins e.mi) (hnew : ∀ k : Nat, ¬ (⟨kind, i, (k : Int)⟩ : Wire) ∈ e.ins) (k0 : 0 ≤ kind) (k1 : kind ≤ 100) (i0 : 0 ≤ i) (i1 : i ≤ 1000) (hl : e.ins.length + w ≤ 100000) : ScS Try.prog [0, 2, 3, 4, 5, 6, 7] 118 [.op 0 0, .d (iD kind), .d (iD i), .d (iD w)] (bH e gs μ) (WiK e gs μ (e.ins ++ zb2 kind i w)) := by
 refine zbh (fn := Try.f118) (by kernel_rfl) Try.func118 rfl (Nat.le_of_ble_eq_true rfl) fun c hc hp => ?_
 refine zkf ?_
 refine zn1 hp ?_
 refine szq hp (fun _ hZ => jyh hZ) ?_
 refine zaf ?_
 refine zan hp (fun τ' H' mm => ∃ (k : Nat) (mi : Mp), (k ≤ w ∧ InM (e.ins ++ zb2 kind i k) mi) ∧ mm = w - k ∧ H' = bH ⟨e.p, e.ins ++ zb2 kind i k, mi, e.out, e.dr, e.dat⟩ gs μ ∧ τ' = frL [(0, .op 0 0), (1, .d (iD kind)), (2, .d (iD i)), (10, .d (iD w)), (11, .d (iD k))]) (w) ?_ ⟨0, e.mi, ⟨Nat.zero_le _, by simpa [zb2] using hm⟩, rfl, rfl, rfl⟩ ?_
 ·refine yfz ?_
  refine ydm ?_; simp [bH, bO, zb2]
 rintro τ' H' mm ⟨k, mi, ⟨hk, hm1⟩, rfl, rfl, rfl⟩
 refine szq hp (fun _ hZ => jrf hZ) ?_
 refine zaa fun K3 hK3 => ?_
 refine zal rfl (fun ht => ?_) (fun ht => ?_)
 ·have hlt : k < w := by simp at ht; omega
  have hlk : (e.ins ++ zb2 kind i k).length = e.ins.length + k := by rw [List.length_append, zaz]
  have hkey : zsa Try.prog tWm (wV ⟨kind, i, (k : Int)⟩) := zty (a := kind) (b := i) (c := (k : Int)) (zpp (by omega) (by omega)) (zpp (by omega) (by omega)) (zpp (by omega) (by omega))
  have hno : ¬ (⟨kind, i, (k : Int)⟩ : Wire) ∈ e.ins ++ zb2 kind i k := fun hh => by
   rcases List.mem_append.1 hh with hh | hh
   ·exact hnew k hh
   ·obtain ⟨_, _, j, hj, he⟩ := zl3 hh
    simp only at he; omega
  have hadd := hm1.add hkey hno
  have hws : e.ins ++ zb2 kind i (k + 1) = (e.ins ++ zb2 kind i k) ++ [⟨kind, i, (k : Int)⟩] := by rw [zgj, List.append_assoc]
  rw [← hws] at hadd
  have hcv : ((2 + (e.ins ++ zb2 kind i k).length : Nat) : Int) = 2 + (e.ins ++ zb2 kind i k).length := by omega
  rw [hcv] at hadd
  generalize hI : e.ins ++ zb2 kind i k = I at *
  refine zaj (hK3 _ _ ?_)
  refine zaa fun K4 hK4 => ?_
  refine zaf ?_
  refine szq hp (fun _ hZ => jyh hZ) ?_
  refine szq hp (fun _ hZ => jrf hZ) ?_
  refine za6 zak hp hc mixed rfl [(0, []), (1, []), (2, []), (3, []), (4, []), (5, []), (6, []), (7, []), (8, []), (9, []), (10, []), (11, []), (12, [])] [[], [0], [0, 1], [0, 1, 2], [], [], [5], [5, 6], [5, 6, 7], [5, 6, 7, 8], [5, 6, 7, 8, 9], [5, 6, 7, 8, 9, 10], [0, 1, 2, 3, 4, 5, 6, 7, 8, 9, 10, 11]] 0 (by kernel_rfl) fun K7 hK7 => ?_
  simp -dsimp -implicitDefEqProofs (disch := first | assumption | omega | (simp only [r_z, zab, zac, zaz] <;> omega) | decide) only [r_r, ↓reduceIte, Nat.reduceEqDiff, Nat.reduceAdd, D.fix, Int.reduceToNat, Nat.reduceMul, Nat.reduceBNe, Nat.reduceBEq, r_w, r_m, bH, bO, zar, zav, za2, zov, jfh ya0 hkey hm1.ok, jk8]
  refine hK7 _ _ ?_
  refine zkz zak hp hc mixed rfl [(0, []), (1, []), (2, []), (3, []), (4, []), (5, []), (6, []), (7, []), (8, []), (9, []), (10, []), (11, []), (12, [])] [[], [], [1], [1, 2], [1, 2, 3], [1, 2, 3, 4], [], [6], [1, 2, 3, 4, 5, 6, 7], [0, 1, 2, 3, 4, 5, 6, 7, 8], [0, 1, 2, 3, 4, 5, 6, 7, 8, 9], [0, 1, 2, 3, 4, 5, 6, 7, 8, 9, 10], [0, 1, 2, 3, 4, 5, 6, 7, 8, 9, 10, 11]] 1 (by kernel_rfl) fun K8 hK8 => ?_
  simp -dsimp -implicitDefEqProofs (disch := first | assumption | omega | (simp only [r_z, zab, zac, zaz] <;> omega) | decide) only [r_r, ↓reduceIte, Nat.reduceEqDiff, Nat.reduceAdd, D.fix, Int.reduceToNat, Nat.reduceMul, Nat.reduceBNe, Nat.reduceBEq, r_w, r_m, bH, bO, zar, zav, za2, jk8]
  refine hK8 _ _ (hK4 _ _ ?_)
  refine za1 hp zak hc rfl fun K9 hK9 => ?_
  refine jrf ?_
  refine hK9 _ _ ⟨_, _, _, ?_, ⟨k + 1, _, ⟨by omega, hadd⟩, rfl, rfl, rfl⟩, ?_⟩
  ·first | omega | (simp only [List.length_cons]; omega) | (dsimp only; omega)
  ·refine Rt.trans (Rt.gc (keep := [0,10,2,3,4,5,6,7]) (by decide) (by decide) (by simp [fzH, gcH])) ?_
   refine yfz ?_
   refine ydm ?_; rw [hws]; simp [bH, bO, zar, za2, avs, iD]
 ·have hkk : k = w := by simp at ht; omega
  refine zau ?_
  try dsimp only [zco, za8]
  refine ⟨frL [], bH ⟨e.p, e.ins ++ zb2 kind i k, mi, e.out, e.dr, e.dat⟩ gs μ, ?_, ?_⟩
  ·refine Rt.trans (Rt.gc (keep := [0,1,2,3,4,5,6,7]) (by decide) (by decide) (by simp [fzH, gcH])) ?_
   refine Rt.end (zas _) ?_
   first | rfl | (simp only [r_g, Nat.reduceAdd, ↓reduceIte, Nat.reduceEqDiff, r_m, bH, bO, zar, zav, za2]; first | done | rfl)
  refine zle rfl ?_
  show ∃ _, _
  subst hkk; exact ⟨mi, hm1, rfl, rfl⟩
def DrK (e : BE) (gs : Gs) (μ : Mp) (w : Wire) (n : Int) (x : AV) (S' : zae) : Prop := ∃ z : Unit, x = .tup [] ∧ S' = bH ⟨e.p, e.ins, e.mi, e.out ++ [w], e.dr ++ [n], e.dat⟩ gs μ
theorem jyi {p q : Prop} (hq : q) (h : p = q := by
 conv => lhs; simp -dsimp -implicitDefEqProofs (disch := first | assumption | omega | (simp only [r_z, zab, zac] <;> omega) | decide) only [r_r, ↓reduceIte, Nat.reduceEqDiff, Nat.reduceAdd, D.fix, Int.reduceToNat, Nat.reduceMul, Nat.reduceBNe, Nat.reduceBEq, r_m, bH, bO, zar, zav, za2, jk8]) : p := h.mpr hq
theorem zhp (e : BE) (gs : Gs) (μ : Mp) (kind i b n : Int) (ho : e.out.length ≤ 100000) (hd : e.dr.length ≤ 100000) : ScS Try.prog [0, 1, 2, 5, 6, 7] 100 [.op 0 0, .d (iD kind), .d (iD i), .d (iD b), .d (iD n)] (bH e gs μ) (DrK e gs μ ⟨kind, i, b⟩ n) := by
 refine zbh (fn := Try.f100) (by kernel_rfl) Try.func100 rfl (Nat.le_of_ble_eq_true rfl) fun c hc hp => ?_
 refine zls ?_
 refine zn1 hp ?_
 refine szq hp (fun _ hZ => jyi hZ) ?_
 refine szs hp (fun _ hZ => jyi hZ) ?_
 try dsimp only [zco, za8]
 refine ⟨frL [], bH ⟨e.p, e.ins, e.mi, e.out ++ [⟨kind, i, b⟩], e.dr ++ [n], e.dat⟩ gs μ, ?_, ?_⟩
 ·refine Rt.trans (Rt.gc (keep := [0,1,2,9,11,5,6,7]) (by decide) (by decide) (by simp [fzH, gcH])) ?_
  refine Rt.end (zas _) ?_
  refine ydm ?_; simp [bH, bO, zar, za2, avs, iD]
 refine zle rfl ?_
 show ∃ _, _
 exact ⟨(), rfl, rfl⟩
/- netlist's builder: all inputs. -/
theorem ydn : (((((type_of% @zji) ∧ (type_of% @zdl)) ∧ ((type_of% @zjp) ∧ ((type_of% @zjq) ∧ (type_of% @zmr)))) ∧ (((type_of% @zew) ∧ ((type_of% @zex) ∧ (type_of% @zyu))) ∧ ((type_of% @zyv) ∧ ((type_of% @zyw) ∧ (type_of% @zeo))))) ∧ ((((type_of% @zd6) ∧ ((type_of% @zk3) ∧ (type_of% @zmt))) ∧ ((type_of% @zmu) ∧ ((type_of% @zy8) ∧ (type_of% @zy9)))) ∧ (((type_of% @zzb) ∧ ((type_of% @zgb) ∧ (type_of% @zd7))) ∧ ((type_of% @zk4) ∧ ((type_of% @zk5) ∧ (type_of% @zmv)))))) := ⟨⟨⟨⟨@zji, @zdl⟩, ⟨@zjp, ⟨@zjq, @zmr⟩⟩⟩, ⟨⟨@zew, ⟨@zex, @zyu⟩⟩, ⟨@zyv, ⟨@zyw, @zeo⟩⟩⟩⟩, ⟨⟨⟨@zd6, ⟨@zk3, @zmt⟩⟩, ⟨@zmu, ⟨@zy8, @zy9⟩⟩⟩, ⟨⟨@zzb, ⟨@zgb, @zd7⟩⟩, ⟨@zk4, ⟨@zk5, @zmv⟩⟩⟩⟩⟩
def prS (r : PReg) : List D := [sD r.name, iD r.w, iD r.init, iD (zdg r.next), nS, iD (kEx r.next), nS, iD (wEx r.next), nS, .fs ((zbk r.next).flatMap exC) (zbk r.next).length, iD r.rk, sD r.rf, iD r.rn]
def ptS (t : PTake) : List D := [iD t.chan, iD t.w, iD (zdg t.wh), nS, iD (kEx t.wh), nS, iD (wEx t.wh), nS, .fs ((zbk t.wh).flatMap exC) (zbk t.wh).length]
def pqS (q : PPut) : List D := [iD q.chan, iD q.w, iD (zdg q.wh), nS, iD (kEx q.wh), nS, iD (wEx q.wh), nS, .fs ((zbk q.wh).flatMap exC) (zbk q.wh).length, iD (zdg q.da), nS, iD (kEx q.da), nS, iD (wEx q.da), nS, .fs ((zbk q.da).flatMap exC) (zbk q.da).length]
def pmS (m : PMem) : List D := [sD m.name, iD m.w, iD m.words, iD (zdg m.en), nS, iD (kEx m.en), nS, iD (wEx m.en), nS, .fs ((zbk m.en).flatMap exC) (zbk m.en).length, iD (zdg m.ad), nS, iD (kEx m.ad), nS, iD (wEx m.ad), nS, .fs ((zbk m.ad).flatMap exC) (zbk m.ad).length, iD (zdg m.da), nS, iD (kEx m.da), nS, iD (wEx m.da), nS, .fs ((zbk m.da).flatMap exC) (zbk m.da).length, iD m.rk, sD m.rf, iD m.rn]
section
theorem jyj (r : PReg) : prC r = prS r := by unfold prC; rw [zho]; rfl
theorem jyk (r : PTake) : ptC r = ptS r := by unfold ptC; rw [zho]; rfl
theorem jyl (r : PPut) : pqC r = pqS r := by unfold pqC; rw [zho, zho]; rfl
theorem jym (r : PMem) : pmC r = pmS r := by unfold pmC; rw [zho, zho, zho]; rfl
theorem zej {l : List PReg} {k : Nat} (h : k < l.length) : zbv (l.flatMap prC) (k * 13) 13 = some (prS (nth l k)) := by rw [← jyj]; exact zf8 zrl h
theorem zfv {l : List PTake} {k : Nat} (h : k < l.length) : zbv (l.flatMap ptC) (k * 9) 9 = some (ptS (nth l k)) := by rw [← jyk]; exact zf8 zwa h
theorem zc9 {l : List PPut} {k : Nat} (h : k < l.length) : zbv (l.flatMap pqC) (k * 16) 16 = some (pqS (nth l k)) := by rw [← jyl]; exact zf8 zot h
theorem zg3 {l : List PMem} {k : Nat} (h : k < l.length) : zbv (l.flatMap pmC) (k * 27) 27 = some (pmS (nth l k)) := by rw [← jym]; exact zf8 zt7 h
end
theorem ydo {p : Pr} : ∀ {n : Nat} {w : Wire}, w ∈ zfe p n → w.kind = 1 ∧ w.i < n
  | 0, w, h => by simp [zfe] at h
  | n + 1, w, h => by
    rw [zfe] at h
    rcases List.mem_append.1 h with h | h
    · have := ydo h; exact ⟨this.1, by omega⟩
    · have := zl3 h; exact ⟨this.1, by rw [this.2.1]; omega⟩
theorem ya8 {p : Pr} : ∀ {n : Nat} {w : Wire}, w ∈ ze3 p n → w.kind = 1 ∨ ((w.kind = 2 ∨ w.kind = 3) ∧ w.i < n)
  | 0, w, h => .inl (ydo h).1
  | n + 1, w, h => by
    rw [ze3] at h
    rcases List.mem_append.1 h with h | h
    · rcases List.mem_append.1 h with h | h
      · rcases ya8 h with h | h
        · exact .inl h
        · exact .inr ⟨h.1, by omega⟩
      · have := zl3 h; exact .inr ⟨.inl this.1, by rw [this.2.1]; omega⟩
    · have := zl3 h; exact .inr ⟨.inr this.1, by rw [this.2.1]; omega⟩
theorem yf0 {p : Pr} : ∀ {n : Nat} {w : Wire}, w ∈ zfz p n → w.kind ≤ 3 ∨ (w.kind = 4 ∧ w.i < n)
  | 0, w, h => by
    rcases ya8 h with h | h
    · left; omega
    · left; have := h.1; omega
  | n + 1, w, h => by
    rw [zfz] at h
    rcases List.mem_append.1 h with h | h
    · rcases yf0 h with h | h
      · exact .inl h
      · exact .inr ⟨h.1, by omega⟩
    · have := zl3 h; exact .inr ⟨this.1, by rw [this.2.1]; omega⟩
theorem ydp {p : Pr} : ∀ {n : Nat}, (zfe p n).length ≤ (zfe p (n + 1)).length := by intro n; rw [zfe]; simp
theorem jha {p : Pr} : ∀ {k n : Nat}, k ≤ n → (zfe p k).length ≤ (zfe p n).length
  | k, 0, h => by have : k = 0 := by omega
                  subst this; exact Nat.le_refl _
  | k, n + 1, h => by
    by_cases e : k = n + 1
    · subst e; exact Nat.le_refl _
    · exact Nat.le_trans (jha (n := n) (by omega)) ydp
theorem zwk {p : Pr} : ∀ {k n : Nat}, k ≤ n → (ze3 p k).length ≤ (ze3 p n).length
  | k, 0, h => by have : k = 0 := by omega
                  subst this; exact Nat.le_refl _
  | k, n + 1, h => by
    by_cases e : k = n + 1
    · subst e; exact Nat.le_refl _
    · refine Nat.le_trans (zwk (n := n) (by omega)) ?_
      rw [ze3]; simp only [List.length_append]; omega
theorem zwl {p : Pr} : ∀ {k n : Nat}, k ≤ n → (zfz p k).length ≤ (zfz p n).length
  | k, 0, h => by have : k = 0 := by omega
                  subst this; exact Nat.le_refl _
  | k, n + 1, h => by
    by_cases e : k = n + 1
    · subst e; exact Nat.le_refl _
    · refine Nat.le_trans (zwl (n := n) (by omega)) ?_
      rw [zfz]; simp only [List.length_append]; omega
def InK (p : Pr) (gs : Gs) (μ : Mp) (out : List Wire) (dr : List Int) (dat : List (List Int)) (x : AV) (S' : zae) : Prop := ∃ mi, InM (zfi p) mi ∧ x = .tup [] ∧ S' = bH ⟨p, zfi p, mi, out, dr, dat⟩ gs μ
theorem zhq {p q : Prop} (hq : q) (h : p = q := by
  conv => lhs; simp -dsimp -implicitDefEqProofs (disch := first | assumption | omega | (simp only [r_z, zab, zac, zaz, za7, zbb, zbc] <;> omega) | decide) only [r_r, ↓reduceIte, Nat.reduceEqDiff, Nat.reduceAdd, D.fix, Int.reduceToNat, Nat.reduceMul, Nat.reduceBNe, Nat.reduceBEq, r_m, bH, bO, zar, zav, zej, zfv, zrl, zwa, prS, ptS, nS, sD, ydn]) : p := h.mpr hq
theorem js7 {m : List Nat} {τ τ' : Fr} {H H' : zae} (h2 : H = H') (h : zfq τ τ' := by
  repeat (first | exact zas _ | refine zao ?_ (by first | rfl | (simp [r_f, zab, zac, zaz, za7, zbb, zbc]; done) | simp [r_f, zab, zac, zaz, za7, zbb, zbc, *]))) : Rt m τ H τ' H' := Rt.end h h2
theorem ya9 {P : Program} {sm : List Nat} {N : Nat} {τ : Fr} {H : zae} {f : FuncId} {args : List AV} {K0 KK : AV → zae → Prop} {ks : List Nat} (S T : zae) (h : ScS P ks f args S K0) (hK : ∀ x S', K0 x S' → S'.length = S.length ∧ KK x (S' ++ T)) (hH : H = S ++ T := by
  rfl) (hm : sm.all (okI ks S.length) = true := by
  first | rfl | (simp [AV.allIs, AV.allI, zaq, zah, zai, okI, ltI, zad, zax, bH, bO, prS, ptS]; done) | (intro o ho; simp at ho; done)) (hτ : ∀ t, (τ t).allI (okI ks S.length) = true := by
  exact fun t => zbi (by first | rfl | (simp [AV.allIs, AV.allI, zaq, zah, zai, okI, ltI, zad, zax, bH, bO, prS, ptS]; done) | (intro o ho; simp at ho; done)) t) (ha : AV.allIs (ltI S.length) args = true := by
  first | rfl | (simp [AV.allIs, AV.allI, zaq, zah, zai, okI, ltI, zad, zax, bH, bO, prS, ptS]; done) | (intro o ho; simp at ho; done)) (hS : ∀ o ∈ S, o.allI (ltI S.length) = true := by
  first | rfl | (simp [AV.allIs, AV.allI, zaq, zah, zai, okI, ltI, zad, zax, bH, bO, prS, ptS]; done) | (intro o ho; simp at ho; done)) (hT : ∀ o ∈ T, o.allI (okI ks S.length) = true := by
  first | rfl | (simp [AV.allIs, AV.allI, zaq, zah, zai, okI, ltI, zad, zax, bH, bO, prS, ptS]; done) | (intro o ho; simp at ho; done)) : kC P sm N H τ (.d (.val (.func (.func f) #[] #[]))) args true (tg KK) := zjo h hH hm hτ ha hS hT hK
theorem yba (k : List Nat) {m : List Nat} {τ τ1 : Fr} {H H1 : zae} (h : Rt m (fun t => gcV k (τ t)) (gcH k H) τ1 H1) (a : ∀ i ∈ m, k[i]? = some i := by decide) (b : k.Nodup := by decide) (c : ∀ i ∈ k, i < H.length := by
  simp [fzH, gcH]) : Rt m τ H τ1 H1 := Rt.trans (Rt.gc a b c) h
theorem jrg {p q : Prop} (hq : q) (h : p = q := by
  conv => lhs; simp only [r_g, Nat.reduceAdd, ↓reduceIte, Nat.reduceEqDiff, r_m, bH, bO, zar, zav, zej, zfv, zrl, zwa, prS, ptS, nS, sD]) : p := h.mpr hq
theorem jhb (p : Pr) (gs : Gs) (μ : Mp) (out : List Wire) (dr : List Int) (dat : List (List Int)) (hil : (zfi p).length ≤ 1000) (hr : p.regs.length ≤ 100) (htk : p.takes.length ≤ 100) (hq : p.puts.length ≤ 100) : ScS Try.prog [0, 2, 3, 4, 5, 6, 7] 97 [.op 0 0] (bH ⟨p, [], ([], 0), out, dr, dat⟩ gs μ) (InK p gs μ out dr dat) := by
  refine zbh (fn := Try.f97) (by kernel_rfl) Try.func97 rfl (Nat.le_of_ble_eq_true rfl) fun c hc hp => ?_
  refine zvt ?_
  refine zn1 hp ?_
  have hq0 := zwl (p := p) (Nat.zero_le p.puts.length)
  have ht0 := zwk (p := p) (Nat.zero_le p.takes.length)
  rw [zfz] at hq0
  rw [ze3] at ht0
  unfold zfi at hil
  refine zaa fun K1 hK1 => ?_
  refine szq hp (fun _ hZ => zhq hZ) ?_
  refine zaf ?_
  refine zan hp (fun τ' H' mm => ∃ (k : Nat) (mi : Mp), (k ≤ p.regs.length ∧ InM (zfe p k) mi) ∧ mm = p.regs.length - k ∧ H' = bH ⟨p, zfe p k, mi, out, dr, dat⟩ gs μ ∧ τ' = frL [(0, .op 0 0), (11, .d (.fs (p.regs.flatMap prC) p.regs.length)), (12, .d (iD p.regs.length)), (13, .d (iD k))]) (p.regs.length) ?_ ⟨0, ([], 0), ⟨Nat.zero_le _, InM.nil⟩, rfl, rfl, rfl⟩ ?_
  · refine js7 ?_
    refine jrg ?_; simp [bH, bO, zfe, zar]
  rintro τ' H' mm ⟨k, mi, ⟨hk, hm1⟩, rfl, rfl, rfl⟩
  refine szq hp (fun _ hZ => zhq hZ) ?_
  refine zaa fun K4 hK4 => ?_
  refine zal rfl (fun ht => ?_) (fun ht => ?_)
  · have hlt : k < p.regs.length := by simp at ht; omega
    have hmo := jha (p := p) (show k + 1 ≤ p.regs.length by omega)
    have hsu : zfe p (k + 1) = zfe p k ++ zb2 1 k (nth p.regs k).w := rfl
    have hsl : (zfe p (k + 1)).length = (zfe p k).length + (nth p.regs k).w := by rw [hsu, List.length_append, zaz]
    refine zaj (hK4 _ _ ?_)
    refine zaa fun K5 hK5 => ?_
    refine zaf ?_
    refine szq hp (fun _ hZ => zhq hZ) ?_
    refine za1 hp zak hc rfl fun K7 hK7 => ?_
    refine zhq ?_
    refine ya9 (bH ⟨p, zfe p k, mi, out, dr, dat⟩ gs μ) ([.cells (avs (prS (nth p.regs k)))]) (zn3 ⟨p, zfe p k, mi, out, dr, dat⟩ gs μ 1 k (nth p.regs k).w hm1 (fun j hh => by have := (ydo hh).2; simp only at this; omega) (by omega) (by omega) (by omega) (by omega) (by simp only; omega)) ?_
    rintro _ _ ⟨mi2, hm2, rfl, rfl⟩
    refine ⟨rfl, ?_⟩
    refine zhq ?_
    refine hK7 _ _ (hK5 _ _ ?_)
    refine za1 hp zak hc rfl fun K8 hK8 => ?_
    refine zhq ?_
    refine hK8 _ _ ⟨_, _, _, ?_, ⟨k + 1, mi2, ⟨by omega, by rw [hsu]; exact hm2⟩, rfl, rfl, rfl⟩, ?_⟩
    · first | omega | (simp only [List.length_cons]; omega) | (dsimp only; omega)
    · refine yba [0,1,2,3,4,5,6,7] ?_
      refine js7 ?_
      refine jrg ?_; rw [hsu]
  · have hkk : k = p.regs.length := by simp at ht; omega
    subst hkk
    refine zau (hK1 _ _ ?_)
    refine zaa fun K9 hK9 => ?_
    refine szq hp (fun _ hZ => zhq hZ) ?_
    refine zaf ?_
    refine zan hp (fun τ' H' mm => ∃ (k : Nat) (mi : Mp), (k ≤ p.takes.length ∧ InM (ze3 p k) mi) ∧ mm = p.takes.length - k ∧ H' = bH ⟨p, ze3 p k, mi, out, dr, dat⟩ gs μ ∧ τ' = frL [(0, .op 0 0), (28, .d (.fs (p.takes.flatMap ptC) p.takes.length)), (29, .d (iD p.takes.length)), (30, .d (iD k))]) (p.takes.length) ?_ ⟨0, mi, ⟨Nat.zero_le _, hm1⟩, rfl, rfl, rfl⟩ ?_
    · refine js7 ?_
      refine jrg ?_; simp [bH, bO, ze3, zar]
    rintro τ' H' mm ⟨k, mi, ⟨hk2, hm3⟩, rfl, rfl, rfl⟩
    refine szq hp (fun _ hZ => zhq hZ) ?_
    refine zaa fun K12 hK12 => ?_
    refine zal rfl (fun ht => ?_) (fun ht => ?_)
    · have hlt : k < p.takes.length := by simp at ht; omega
      have hmo := zwk (p := p) (show k + 1 ≤ p.takes.length by omega)
      have hsu : ze3 p (k + 1) = (ze3 p k ++ zb2 2 k (nth p.takes k).w) ++ zb2 3 k 1 := rfl
      have hsl : (ze3 p (k + 1)).length = (ze3 p k).length + (nth p.takes k).w + 1 := by rw [hsu, List.length_append, List.length_append, zaz, zaz]
      have hsl2 : (ze3 p k ++ zb2 2 k (nth p.takes k).w).length = (ze3 p k).length + (nth p.takes k).w := by rw [List.length_append, zaz]
      refine zaj (hK12 _ _ ?_)
      refine zaa fun K13 hK13 => ?_
      refine zaf ?_
      refine szq hp (fun _ hZ => zhq hZ) ?_
      refine zag hp zak hc rfl fun K15 hK15 => ?_
      refine zhq ?_
      refine ya9 (bH ⟨p, ze3 p k, mi, out, dr, dat⟩ gs μ) ([.cells (avs (ptS (nth p.takes k)))]) (zn3 ⟨p, ze3 p k, mi, out, dr, dat⟩ gs μ 2 k (nth p.takes k).w hm3 (fun j hh => by have := ya8 hh; simp only at this; omega) (by omega) (by omega) (by omega) (by omega) (by simp only; omega)) ?_
      rintro _ _ ⟨mi2, hm4, rfl, rfl⟩
      refine ⟨rfl, ?_⟩
      refine zhq ?_
      refine hK15 _ _ ?_
      refine za1 hp zak hc rfl fun K16 hK16 => ?_
      refine zhq ?_
      refine ya9 (bH ⟨p, ze3 p k ++ zb2 2 k (nth p.takes k).w, mi2, out, dr, dat⟩ gs μ) ([.cells (avs (ptS (nth p.takes k)))]) (zn3 ⟨p, ze3 p k ++ zb2 2 k (nth p.takes k).w, mi2, out, dr, dat⟩ gs μ 3 k 1 hm4 (fun j hh => by rcases List.mem_append.1 hh with hh | hh; (have := ya8 hh; simp only at this; omega); (have := (zl3 hh).1; simp only at this; omega)) (by omega) (by omega) (by omega) (by omega) (by simp only; omega)) ?_
      rintro _ _ ⟨mi3, hm5, rfl, rfl⟩
      refine ⟨rfl, ?_⟩
      refine zhq ?_
      refine hK16 _ _ (hK13 _ _ ?_)
      refine za1 hp zak hc rfl fun K17 hK17 => ?_
      refine zhq ?_
      refine hK17 _ _ ⟨_, _, _, ?_, ⟨k + 1, mi3, ⟨by omega, by rw [hsu]; exact hm5⟩, rfl, rfl, rfl⟩, ?_⟩
      · first | omega | (simp only [List.length_cons]; omega) | (dsimp only; omega)
      · refine yba [0,1,2,3,4,5,6,7] ?_
        refine js7 ?_
        refine jrg ?_; rw [hsu]
    · have hkk : k = p.takes.length := by simp at ht; omega
      subst hkk
      refine zau (hK9 _ _ ?_)
      refine szq hp (fun _ hZ => zhq hZ) ?_
      refine zaf ?_
      refine zan hp (fun τ' H' mm => ∃ (k : Nat) (mi : Mp), (k ≤ p.puts.length ∧ InM (zfz p k) mi) ∧ mm = p.puts.length - k ∧ H' = bH ⟨p, zfz p k, mi, out, dr, dat⟩ gs μ ∧ τ' = frL [(0, .op 0 0), (49, .d (iD p.puts.length)), (50, .d (iD k))]) (p.puts.length) ?_ ⟨0, mi, ⟨Nat.zero_le _, hm3⟩, rfl, rfl, rfl⟩ ?_
      · refine js7 ?_
        refine jrg ?_; simp [bH, bO, zfz, zar]
      rintro τ' H' mm ⟨k, mi, ⟨hk3, hm6⟩, rfl, rfl, rfl⟩
      refine szq hp (fun _ hZ => zhq hZ) ?_
      refine zaa fun K20 hK20 => ?_
      refine zal rfl (fun ht => ?_) (fun ht => ?_)
      · have hlt : k < p.puts.length := by simp at ht; omega
        have hmo := zwl (p := p) (show k + 1 ≤ p.puts.length by omega)
        have hsu : zfz p (k + 1) = zfz p k ++ zb2 4 k 1 := rfl
        have hsl : (zfz p (k + 1)).length = (zfz p k).length + 1 := by rw [hsu, List.length_append, zaz]
        refine zaj (hK20 _ _ ?_)
        refine zaa fun K21 hK21 => ?_
        refine zaf ?_
        refine zag hp zak hc rfl fun K22 hK22 => ?_
        simp -dsimp -implicitDefEqProofs (disch := first | assumption | omega | (simp only [r_z, zab, zac, zaz, za7, zbb, zbc] <;> omega) | decide) only [r_r, ↓reduceIte, Nat.reduceEqDiff, Nat.reduceAdd, D.fix, Int.reduceToNat, Nat.reduceMul, Nat.reduceBNe, Nat.reduceBEq, r_m, bH, bO, zar, zav, zej, zfv, zrl, zwa, prS, ptS, nS, sD]
        refine hK22 _ _ ?_
        refine za1 hp zak hc rfl fun K23 hK23 => ?_
        refine zhq ?_
        refine ya9 (bH ⟨p, zfz p k, mi, out, dr, dat⟩ gs μ) ([]) (zn3 ⟨p, zfz p k, mi, out, dr, dat⟩ gs μ 4 k 1 hm6 (fun j hh => by have := yf0 hh; simp only at this; omega) (by omega) (by omega) (by omega) (by omega) (by simp only; omega)) ?_
        rintro _ _ ⟨mi2, hm7, rfl, rfl⟩
        refine ⟨rfl, ?_⟩
        refine zhq ?_
        refine hK23 _ _ (hK21 _ _ ?_)
        refine za1 hp zak hc rfl fun K24 hK24 => ?_
        refine zhq ?_
        refine hK24 _ _ ⟨_, _, _, ?_, ⟨k + 1, mi2, ⟨by omega, by rw [hsu]; exact hm7⟩, rfl, rfl, rfl⟩, ?_⟩
        · first | omega | (simp only [List.length_cons]; omega) | (dsimp only; omega)
        · refine yba [0,1,2,3,4,5,6,7] ?_
          refine js7 ?_
          refine jrg ?_; rw [hsu]
      · have hkk : k = p.puts.length := by simp at ht; omega
        subst hkk
        refine zau ?_
        try dsimp only [zco, za8]
        refine ⟨frL [], bH ⟨p, zfi p, mi, out, dr, dat⟩ gs μ, ?_, ?_⟩
        · refine yba [0,1,2,3,4,5,6,7] ?_
          refine Rt.end (zas _) ?_
          refine jrg ?_; simp [bH, bO, zfi, zar, sD]
        refine zle rfl ?_
        show ∃ _, _
        exact ⟨mi, hm6, rfl, rfl⟩
end Go.Proofs.Ytapjobndmmkanaa
