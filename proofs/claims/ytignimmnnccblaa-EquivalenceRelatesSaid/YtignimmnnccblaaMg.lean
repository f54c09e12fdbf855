/- Changed nets; small nets. -/
import Derived.Test.YtignimmnnccblaaQr
import Derived.Test.YtignimmnnccblaaMe
set_option linter.unusedVariables false
set_option linter.unusedSimpArgs false
set_option maxRecDepth 100000
set_option maxHeartbeats 4000000
namespace Go.Proofs.Ytignimmnnccblaa
open Go Go.RowKit
theorem zeu : ((((((type_of% @zds) ∧ ((type_of% @zdt) ∧ (type_of% @zyz))) ∧ (((type_of% @zy0) ∧ (type_of% @zy1)) ∧ ((type_of% @zg6) ∧ (type_of% @zg5)))) ∧ (((type_of% @zdc) ∧ ((type_of% @zdd) ∧ (type_of% @zfw))) ∧ (((type_of% @zfx) ∧ (type_of% @zfy)) ∧ ((type_of% @zg1) ∧ (type_of% @zg2))))) ∧ ((((type_of% @zg3) ∧ ((type_of% @zg4) ∧ (type_of% @zlz))) ∧ (((type_of% @zl0) ∧ (type_of% @zdu)) ∧ ((type_of% @zdv) ∧ (type_of% @zlc)))) ∧ (((type_of% @zld) ∧ ((type_of% @zdf) ∧ (type_of% @zdg))) ∧ (((type_of% @zdh) ∧ (type_of% @zdq)) ∧ ((type_of% @zgk) ∧ (type_of% @zgl)))))) ∧ (((((type_of% @zst) ∧ ((type_of% @zib) ∧ (type_of% @zic))) ∧ (((type_of% @zid) ∧ (type_of% @zie)) ∧ ((type_of% @jep) ∧ (type_of% @jeq)))) ∧ (((type_of% @ji1) ∧ ((type_of% @ze9) ∧ (type_of% @zfa))) ∧ (((type_of% @zfc) ∧ (type_of% @zfz)) ∧ ((type_of% @zgm) ∧ (type_of% @zgn))))) ∧ ((((type_of% @zjq) ∧ ((type_of% @zjr) ∧ (type_of% @zii))) ∧ (((type_of% @zij) ∧ (type_of% @zs1)) ∧ ((type_of% @zik) ∧ (type_of% @zil)))) ∧ (((type_of% @zim) ∧ ((type_of% @zin) ∧ (type_of% @zio))) ∧ (((type_of% @zl5) ∧ (type_of% @zl4)) ∧ ((type_of% @zhq) ∧ (type_of% @zhr))))))) := ⟨⟨⟨⟨⟨@zds, ⟨@zdt, @zyz⟩⟩, ⟨⟨@zy0, @zy1⟩, ⟨@zg6, @zg5⟩⟩⟩, ⟨⟨@zdc, ⟨@zdd, @zfw⟩⟩, ⟨⟨@zfx, @zfy⟩, ⟨@zg1, @zg2⟩⟩⟩⟩, ⟨⟨⟨@zg3, ⟨@zg4, @zlz⟩⟩, ⟨⟨@zl0, @zdu⟩, ⟨@zdv, @zlc⟩⟩⟩, ⟨⟨@zld, ⟨@zdf, @zdg⟩⟩, ⟨⟨@zdh, @zdq⟩, ⟨@zgk, @zgl⟩⟩⟩⟩⟩, ⟨⟨⟨⟨@zst, ⟨@zib, @zic⟩⟩, ⟨⟨@zid, @zie⟩, ⟨@jep, @jeq⟩⟩⟩, ⟨⟨@ji1, ⟨@ze9, @zfa⟩⟩, ⟨⟨@zfc, @zfz⟩, ⟨@zgm, @zgn⟩⟩⟩⟩, ⟨⟨⟨@zjq, ⟨@zjr, @zii⟩⟩, ⟨⟨@zij, @zs1⟩, ⟨@zik, @zil⟩⟩⟩, ⟨⟨@zim, ⟨@zin, @zio⟩⟩, ⟨⟨@zl5, @zl4⟩, ⟨@zhq, @zhr⟩⟩⟩⟩⟩⟩
theorem zrb {α : Type} [Inhabited α] {f : α → List D} {w : Nat} (hw : ∀ a, (f a).length = w) {x : D} {y : α} {j : Nat} (hj : j < w) : ∀ {l : List α} {k : Nat}, k < l.length → f y = (f (nth l k)).set j x → (l.flatMap f).set (k * w + j) x = (l.set k y).flatMap f
 | [], k, hk, _ => by simp at hk
 | a :: l, 0, _, hy => by
  have hy' : f y = (f a).set j x := hy
  simp only [List.flatMap_cons, List.set_cons_zero, Nat.zero_mul, Nat.zero_add]
  rw [List.set_append_left _ _ (by rw [hw]; exact hj), hy']
 | a :: l, k + 1, hk, hy => by
  have ih := zrb hw hj (l := l) (k := k) (by simpa using hk) hy
  simp only [List.flatMap_cons, List.set_cons_succ]
  rw [List.set_append_right _ _ (by rw [hw, Nat.succ_mul]; omega), ← ih, hw]
  congr 2
  rw [Nat.succ_mul]; omega
structure NetQ (m : Nat) (n : Net) : Prop where
 i1 : 1 ≤ n.ins.length
 i2 : n.ins.length ≤ 9
 g1 : n.gates.length ≤ m
 g2 : GatesOk (2 + n.ins.length) n.gates
 d0 : n.out.length = n.drive.length
 d1 : n.drive.length ≤ 9
 d2 : DriveOk (2 + n.ins.length + n.gates.length) n.drive
 d3 : 1 ≤ n.drive.length
theorem NetOk.q {n : Net} (h : NetOk n) : NetQ 60 n := ⟨h.i1, h.i2, h.g1, h.g2, h.d0, h.d1, h.d2, h.d3⟩
structure Chg (m : Nat) (a b : Net) : Prop where
 q : NetQ (m + 18) b
 ins : b.ins = a.ins
 out : b.out = a.out
 dl : b.drive.length = a.drive.length
theorem jd8 {m : Nat} {l : List Gate} {k : Nat} {g : Gate} (h : GatesOk m l) (hk : k < l.length) (hg : GateOk (m + k) g) : GatesOk m (l.set k g) := fun q hq => by
 rw [List.length_set] at hq
 by_cases e : k = q
 ·subst e; rw [zgw hk]; exact hg
 ·rw [zfk e]; exact h q hq
theorem jd9 {m : Nat} {l : List Int} {k : Nat} {d : Int} (h : DriveOk m l) (h0 : 0 ≤ d) (h1 : d < m) : DriveOk m (l.set k d) := fun q hq => by
 rw [List.length_set] at hq
 by_cases e : k = q
 ·subst e; rw [zgw hq]; exact ⟨h0, h1⟩
 ·rw [zfk e]; exact h q hq
theorem DriveOk.up {m k : Nat} {l : List Int} (h : DriveOk m l) (hk : m ≤ k) : DriveOk k l := fun q hq => by have := h q hq; omega
theorem zyj {m k : Nat} {n : Net} {l : List Gate} {dr : List Int} {g : Gate} (h : Chg m n ⟨n.ins, l, n.out, dr⟩) (hk : k < l.length) (hg : GateOk (2 + n.ins.length + k) g) : Chg m n ⟨n.ins, l.set k g, n.out, dr⟩ := by
 have hl : (l.set k g).length = l.length := List.length_set
 exact ⟨⟨h.q.i1, h.q.i2, by simp only [hl]; exact h.q.g1, jd8 h.q.g2 hk hg, h.q.d0, h.q.d1, by simp only [hl]; exact h.q.d2, h.q.d3⟩, rfl, rfl, h.dl⟩
theorem zti {m k : Nat} {n : Net} {l : List Gate} {dr : List Int} {d : Int} (h : Chg m n ⟨n.ins, l, n.out, dr⟩) (h0 : 0 ≤ d) (h1 : d < (2 + n.ins.length + l.length : Nat)) : Chg m n ⟨n.ins, l, n.out, dr.set k d⟩ := by
 have hl : (dr.set k d).length = dr.length := List.length_set
 exact ⟨⟨h.q.i1, h.q.i2, h.q.g1, h.q.g2, by simp only [hl]; exact h.q.d0, by simp only [hl]; exact h.q.d1, jd9 h.q.d2 h0 h1, by simp only [hl]; exact h.q.d3⟩, rfl, rfl, by simp only [hl]; exact h.dl⟩
theorem jls {m : Nat} {n : Net} {l gs : List Gate} {dr : List Int} (h : Chg m n ⟨n.ins, l, n.out, dr⟩) (hl : l.length + gs.length ≤ m + 18) (hg : GatesOk (2 + n.ins.length + l.length) gs) : Chg m n ⟨n.ins, l ++ gs, n.out, dr⟩ :=
 ⟨⟨h.q.i1, h.q.i2, by simp only [List.length_append]; exact hl, h.q.g2.app hg, h.q.d0, h.q.d1, h.q.d2.up (by simp only [List.length_append]; omega), h.q.d3⟩, rfl, rfl, h.dl⟩
theorem op4 (x : Nat) (o : Int) : x = 0 ∨ (0 < x ∧ o < 2) ∨ (0 < x ∧ 4 < o) ∨ (0 < x ∧ 2 ≤ o ∧ o ≤ 4) := by omega
theorem jea {m : Nat} {d : Int} (h0 : 0 ≤ d) (h1 : d < m) : GateOk m ⟨1, d, 0, 0, 0⟩ := ⟨show (1 : Int) ≤ 1 by decide, show (1 : Int) ≤ 7 by decide, h0, h1, show (0 : Int) ≤ 0 by decide, by simp only; omega, show (0 : Int) ≤ 0 by decide, by simp only; omega, show (0 : Int) ≤ 0 by decide, show (0 : Int) < 1000000 by decide⟩
theorem jg2 {m : Nat} {d : Int} (h0 : 0 ≤ d) (h1 : d < m) : GatesOk m [⟨1, d, 0, 0, 0⟩, ⟨1, m, 0, 0, 0⟩] := fun k hk => by
 match k, hk with
 | 0, _ => exact jea h0 h1
 | 1, _ => exact jea (by omega) (by omega)
theorem jsv {l : List Gate} {k : Nat} {v : Int} (hk : k < l.length) : (l.flatMap zar).set (k * 5 + 1) (.val (.int .i64 v)) = (l.set k ⟨(nth l k).op, v, (nth l k).b, (nth l k).c, (nth l k).n⟩).flatMap zar := zrb zay (by decide) hk rfl
theorem jsw {l : List Gate} {k : Nat} {v : Int} (hk : k < l.length) : (l.flatMap zar).set (k * 5) (.val (.int .i64 v)) = (l.set k ⟨v, (nth l k).a, (nth l k).b, (nth l k).c, (nth l k).n⟩).flatMap zar := zrb (j := 0) zay (by decide) hk rfl
theorem jtp (l : List Gate) (g : Gate) : l.flatMap zar ++ [.val (.int .i64 g.op)] ++ [.val (.int .i64 g.a)] ++ [.val (.int .i64 g.b)] ++ [.val (.int .i64 g.c)] ++ [.val (.int .i64 g.n)] = (l ++ [g]).flatMap zar := by simp [zar, iD]
def chH (n : Net) (ks : List Nat) (l : List Gate) (dr : List Int) : zaq := [.cells (avs (zaz n)), .cells (avs (ks.map u8D)), .cells [.d (.val (.slice none 0 0)), .d (.val (.slice none 0 0)), .d (.val (.slice none 0 0)), .d (.val (.slice none 0 0))], .cells [.d (zaf n.ins), .os 5 4 0 l.length, .d (zaf n.out), .os 1 5 0 dr.length], .cells (avs (l.flatMap zar)), .cells (avs (dr.map iD))]
theorem ztj (m : Nat) (n : Net) (hn : NetQ m n) (hm : m ≤ 200) (ho : n.out.length ≤ 100) (k0 k1 k2 k3 : Nat) (h0 : k0 < 256) (h1 : k1 < 256) (h2 : k2 < 256) : RCalls Try.prog 9 [zas n, .agg [u8D k0, u8D k1, u8D k2, u8D k3]] (fun r => ∃ b, Chg m n b ∧ r = .d (zas b)) := by
 have hi1 := hn.i1
 have hi9 := hn.i2
 have hg1 := hn.g1
 have hd9 := hn.d1
 have hd3 := hn.d3
 have hC0 : Chg m n ⟨n.ins, n.gates, n.out, n.drive⟩ := ⟨⟨hn.i1, hn.i2, by have := hn.g1; simp only; omega, hn.g2, hn.d0, hn.d1, hn.d2, hn.d3⟩, rfl, rfl, rfl⟩
 have hkw : IntKind.i64.wrap (k1 : Int) = k1 := zp2 (by omega) (by omega)
 have hkw2 : IntKind.i64.wrap (k2 : Int) = k2 := zp2 (by omega) (by omega)
 refine zfj (fn := Try.f9) (by kernel_rfl) Try.func9 rfl (Nat.le_of_ble_eq_true rfl) fun c hc hp => ?_
 refine zbk (τ' := frL [(0, .d (zas n)), (1, .d (.agg [u8D k0, u8D k1, u8D k2, u8D k3]))]) (by repeat (first | exact zal _ | refine zai ?_ (by first | rfl | (simp [r_f, zaa, zab]; done) | simp [r_f, zaa, zab, *]))) ?_
 refine zac hp zaj hc rfl fun K1 hK1 => ?_
 simp -dsimp -implicitDefEqProofs (disch := first | assumption | omega | (simp only [r_z, zaa, zab] <;> omega) | decide) only [r_r, ↓reduceIte, Nat.reduceEqDiff, Nat.reduceAdd, D.fix, Int.reduceToNat, Nat.reduceMul, Nat.reduceBNe, Nat.reduceBEq, zas, zaz, zaf, zag, u8D, zeu]
 refine hK1 _ _ ?_
 refine zbr zaj hc mixed rfl (q := 5) (by kernel_rfl) (by kernel_rfl) fun K2 hK2 => ?_
 simp -dsimp -implicitDefEqProofs (disch := first | assumption | omega | (simp only [r_z, zaa, zab] <;> omega) | decide) only [r_r, ↓reduceIte, Nat.reduceEqDiff, Nat.reduceAdd, D.fix, Int.reduceToNat, Nat.reduceMul, Nat.reduceBNe, Nat.reduceBEq, zas, zaz, zaf, zag, u8D, List.filterMap_cons, List.filterMap_nil, zeu]
 refine hK2 _ _ ?_
 refine zb3 hp (τ' := frL [(2, .op 0 0), (3, .op 1 0), (4, .op 2 0), (5, .op 3 0)]) (H' := chH n [k0, k1, k2, k3] n.gates n.drive) ?_ ?_
 ·refine Rt.trans (Rt.gc (keep := [0,1,2,7,4,6]) (by decide) (by decide) (by simp [fzH, gcH])) ?_
  refine Rt.end (by repeat (first | exact zal _ | refine zai ?_ (by first | rfl | (simp [r_f, zaa, zab]; done) | simp [r_f, zaa, zab, *]))) ?_
  first | rfl | (simp only [r_g, Nat.reduceAdd, ↓reduceIte, Nat.reduceEqDiff, zas, zaz, zaf, zag, u8D]; first | done | rfl)
 unfold chH
 simp only [List.map_cons, List.map_nil]
 refine zac hp zaj hc rfl fun K3 hK3 => ?_
 simp -dsimp -implicitDefEqProofs (disch := first | assumption | omega | (simp only [r_z, zaa, zab] <;> omega) | decide) only [r_r, ↓reduceIte, Nat.reduceEqDiff, Nat.reduceAdd, D.fix, Int.reduceToNat, Nat.reduceMul, Nat.reduceBNe, Nat.reduceBEq, zas, zaz, zaf, zag, u8D, zeu]
 refine hK3 _ _ ?_
 refine zan fun K4 hK4 => ?_
 have hJ4 : ∀ τ' H', (∃ τ1 H1, ∃ (l : List Gate) (dr : List Int), (Chg m n ⟨n.ins, l, n.out, dr⟩) ∧ H1 = chH n [k0, k1, k2, k3] l dr ∧ τ1 = frL [(4, .op 2 0), (5, .op 3 0)] ∧ Rt [] τ' H' τ1 H1) → K4 τ' H' := by
  rintro τ' H' ⟨_, _, l, dr, hC, rfl, rfl, hrt⟩
  refine hK4 _ _ (zb3 hp hrt ?_)
  clear hrt
  unfold chH
  simp only [List.map_cons, List.map_nil]
  refine zac hp zaj hc rfl fun K5 hK5 => ?_
  simp -dsimp -implicitDefEqProofs (disch := first | assumption | omega | (simp only [r_z, zaa, zab] <;> omega) | decide) only [r_r, ↓reduceIte, Nat.reduceEqDiff, Nat.reduceAdd, D.fix, Int.reduceToNat, Nat.reduceMul, Nat.reduceBNe, Nat.reduceBEq, zas, zaz, zaf, zag, u8D, zeu]
  refine hK5 _ _ ?_
  refine za6 ?_
  try dsimp only [zji, zc2]
  refine zdo rfl ?_
  simp -dsimp -implicitDefEqProofs (disch := first | assumption | omega | (simp only [r_z, zaa, zab] <;> omega) | decide) only [r_r, ↓reduceIte, Nat.reduceEqDiff, Nat.reduceAdd, D.fix, Int.reduceToNat, Nat.reduceMul, Nat.reduceBNe, Nat.reduceBEq, zas, zaz, zaf, zag, u8D, zds, zdt]
  show ∃ r, closeA _ _ = some r ∧ _
  simp (disch := first | assumption | omega | (simp only [r_z, zaa, zab] <;> omega) | decide) only [r_c, Nat.reduceAdd, D.fix, ↓reduceIte, Nat.reduceEqDiff, zas, zaz, zaf, zag, u8D, zjg]
  exact ⟨_, rfl, _, hC, rfl⟩
 refine zac hp zaj hc rfl fun K6 hK6 => ?_
 simp -dsimp -implicitDefEqProofs (disch := first | assumption | omega | (simp only [r_z, zaa, zab] <;> omega) | decide) only [r_r, ↓reduceIte, Nat.reduceEqDiff, Nat.reduceAdd, D.fix, Int.reduceToNat, Nat.reduceMul, Nat.reduceBNe, Nat.reduceBEq, zas, zaz, zaf, zag, u8D, zeu]
 refine hK6 _ _ ?_
 refine za1 ?_
 refine zac hp zaj hc rfl fun K7 hK7 => ?_
 simp -dsimp -implicitDefEqProofs (disch := first | assumption | omega | (simp only [r_z, zaa, zab] <;> omega) | decide) only [r_r, ↓reduceIte, Nat.reduceEqDiff, Nat.reduceAdd, D.fix, Int.reduceToNat, Nat.reduceMul, Nat.reduceBNe, Nat.reduceBEq, zas, zaz, zaf, zag, u8D, zeu]
 refine hK7 _ _ ?_
 refine zap rfl (fun ht => ?_) (fun ht => ?_)
 ·refine zac hp zaj hc rfl fun K8 hK8 => ?_
  simp -dsimp -implicitDefEqProofs (disch := first | assumption | omega | (simp only [r_z, zaa, zab] <;> omega) | decide) only [r_r, ↓reduceIte, Nat.reduceEqDiff, Nat.reduceAdd, D.fix, Int.reduceToNat, Nat.reduceMul, Nat.reduceBNe, Nat.reduceBEq, zas, zaz, zaf, zag, u8D, zeu]
  refine hK8 _ _ ?_
  refine zap rfl (fun ht => ?_) (fun ht => ?_)
  ·have hgl : 0 < n.gates.length := by simp at ht; omega
   obtain ⟨kn, hkn⟩ : ∃ kn, kn = k1 % n.gates.length := ⟨_, rfl⟩
   have hkl : kn < n.gates.length := by rw [hkn]; exact Nat.mod_lt _ hgl
   have hkm : (k1 : Int) % (n.gates.length : Int) = (kn : Int) := by rw [hkn]; push_cast; rfl
   obtain ⟨am, ham⟩ : ∃ am, am = k2 % (2 + n.ins.length + kn) := ⟨_, rfl⟩
   have hal : am < 2 + n.ins.length + kn := by rw [ham]; exact Nat.mod_lt _ (by omega)
   have hamz : (k2 : Int) % (2 + (n.ins.length : Int) + (kn : Int)) = (am : Int) := by rw [ham]; push_cast; rfl
   have hgk := hn.g2 kn hkl
   refine zac hp zaj hc rfl fun K9 hK9 => ?_
   simp -dsimp -implicitDefEqProofs (disch := first | assumption | omega | (simp only [r_z, zaa, zab] <;> omega) | decide) only [r_r, ↓reduceIte, Nat.reduceEqDiff, Nat.reduceAdd, D.fix, Int.reduceToNat, Nat.reduceMul, Nat.reduceBNe, Nat.reduceBEq, zas, zaz, zaf, zag, u8D, hkm, zeu]
   refine hK9 _ _ ?_
   refine zos zaj hc mixed rfl (q := 0) (by kernel_rfl) (by kernel_rfl) fun K10 hK10 => ?_
   simp -dsimp -implicitDefEqProofs (disch := first | assumption | omega | (simp only [r_z, zaa, zab] <;> omega) | decide) only [r_r, ↓reduceIte, Nat.reduceEqDiff, Nat.reduceAdd, D.fix, Int.reduceToNat, Nat.reduceMul, Nat.reduceBNe, Nat.reduceBEq, zas, zaz, zaf, zag, u8D, hamz, zeu]
   refine hK10 _ _ (hJ4 _ _ ⟨_, _, n.gates.set kn ⟨(nth n.gates kn).op, am, (nth n.gates kn).b, (nth n.gates kn).c, (nth n.gates kn).n⟩, n.drive, zyj hC0 hkl ⟨hgk.o1, hgk.o2, by simp only; omega, by simp only; omega, hgk.b0, hgk.b1, hgk.c0, hgk.c1, hgk.n0, hgk.n1⟩, rfl, rfl, ?_⟩)
   refine Rt.trans (Rt.gc (keep := [0,1,2,3,4,5]) (by decide) (by decide) (by simp [fzH, gcH])) ?_
   refine Rt.end (by repeat (first | exact zal _ | refine zai ?_ (by first | rfl | (simp [r_f, zaa, zab]; done) | simp [r_f, zaa, zab, *]))) ?_
   simp only [r_g, Nat.reduceAdd, ↓reduceIte, Nat.reduceEqDiff, zas, zaz, zaf, zag, u8D]; unfold chH; simp only [List.length_set, jsv hkl]; rfl
  ·refine za0 (hJ4 _ _ ⟨_, _, n.gates, n.drive, hC0, rfl, rfl, ?_⟩)
   refine Rt.trans (Rt.gc (keep := [0,1,2,3,4,5]) (by decide) (by decide) (by simp [fzH, gcH])) ?_
   refine Rt.end (by repeat (first | exact zal _ | refine zai ?_ (by first | rfl | (simp [r_f, zaa, zab]; done) | simp [r_f, zaa, zab, *]))) ?_
   first | rfl | (simp only [r_g, Nat.reduceAdd, ↓reduceIte, Nat.reduceEqDiff, zas, zaz, zaf, zag, u8D]; first | done | rfl)
 ·refine zac hp zaj hc rfl fun K11 hK11 => ?_
  simp -dsimp -implicitDefEqProofs (disch := first | assumption | omega | (simp only [r_z, zaa, zab] <;> omega) | decide) only [r_r, ↓reduceIte, Nat.reduceEqDiff, Nat.reduceAdd, D.fix, Int.reduceToNat, Nat.reduceMul, Nat.reduceBNe, Nat.reduceBEq, zas, zaz, zaf, zag, u8D, zeu]
  refine hK11 _ _ ?_
  refine zap rfl (fun ht => ?_) (fun ht => ?_)
  ·refine zac hp zaj hc rfl fun K12 hK12 => ?_
   simp -dsimp -implicitDefEqProofs (disch := first | assumption | omega | (simp only [r_z, zaa, zab] <;> omega) | decide) only [r_r, ↓reduceIte, Nat.reduceEqDiff, Nat.reduceAdd, D.fix, Int.reduceToNat, Nat.reduceMul, Nat.reduceBNe, Nat.reduceBEq, zas, zaz, zaf, zag, u8D, zeu]
   refine hK12 _ _ ?_
   refine zap rfl (fun ht => ?_) (fun ht => ?_)
   ·have hgl : 0 < n.drive.length := by omega
    obtain ⟨kn, hkn⟩ : ∃ kn, kn = k1 % n.drive.length := ⟨_, rfl⟩
    have hkl : kn < n.drive.length := by rw [hkn]; exact Nat.mod_lt _ hgl
    have hkm : (k1 : Int) % (n.drive.length : Int) = (kn : Int) := by rw [hkn]; push_cast; rfl
    obtain ⟨am, ham⟩ : ∃ am, am = k2 % (2 + n.ins.length + n.gates.length) := ⟨_, rfl⟩
    have hal : am < 2 + n.ins.length + n.gates.length := by rw [ham]; exact Nat.mod_lt _ (by omega)
    have hamz : (k2 : Int) % (2 + (n.ins.length : Int) + (n.gates.length : Int)) = (am : Int) := by rw [ham]; push_cast; rfl
    refine zos zaj hc mixed rfl (q := 0) (by kernel_rfl) (by kernel_rfl) fun K13 hK13 => ?_
    simp -dsimp -implicitDefEqProofs (disch := first | assumption | omega | (simp only [r_z, zaa, zab] <;> omega) | decide) only [r_r, ↓reduceIte, Nat.reduceEqDiff, Nat.reduceAdd, D.fix, Int.reduceToNat, Nat.reduceMul, Nat.reduceBNe, Nat.reduceBEq, zas, zaz, zaf, zag, u8D, hkm, hamz, zeu]
    refine zb8 (zq7 n (by omega) (by omega)) rfl ?_
    simp -dsimp -implicitDefEqProofs (disch := first | assumption | omega | (simp only [r_z, zaa, zab] <;> omega) | decide) only [r_r, ↓reduceIte, Nat.reduceEqDiff, Nat.reduceAdd, D.fix, Int.reduceToNat, Nat.reduceMul, Nat.reduceBNe, Nat.reduceBEq, zas, zaz, zaf, zag, u8D, hkm, hamz, zeu]
    refine hK13 _ _ (hJ4 _ _ ⟨_, _, n.gates, n.drive.set kn am, zti hC0 (by omega) (by omega), rfl, rfl, ?_⟩)
    refine Rt.trans (Rt.gc (keep := [0,1,2,3,4,5]) (by decide) (by decide) (by simp [fzH, gcH])) ?_
    refine Rt.end (by repeat (first | exact zal _ | refine zai ?_ (by first | rfl | (simp [r_f, zaa, zab]; done) | simp [r_f, zaa, zab, *]))) ?_
    simp only [r_g, Nat.reduceAdd, ↓reduceIte, Nat.reduceEqDiff, zas, zaz, zaf, zag, u8D]; unfold chH; simp only [List.length_set]; rfl
   ·refine za0 (hJ4 _ _ ⟨_, _, n.gates, n.drive, hC0, rfl, rfl, ?_⟩)
    refine Rt.trans (Rt.gc (keep := [0,1,2,3,4,5]) (by decide) (by decide) (by simp [fzH, gcH])) ?_
    refine Rt.end (by repeat (first | exact zal _ | refine zai ?_ (by first | rfl | (simp [r_f, zaa, zab]; done) | simp [r_f, zaa, zab, *]))) ?_
    first | rfl | (simp only [r_g, Nat.reduceAdd, ↓reduceIte, Nat.reduceEqDiff, zas, zaz, zaf, zag, u8D]; first | done | rfl)
  ·refine zac hp zaj hc rfl fun K14 hK14 => ?_
   simp -dsimp -implicitDefEqProofs (disch := first | assumption | omega | (simp only [r_z, zaa, zab] <;> omega) | decide) only [r_r, ↓reduceIte, Nat.reduceEqDiff, Nat.reduceAdd, D.fix, Int.reduceToNat, Nat.reduceMul, Nat.reduceBNe, Nat.reduceBEq, zas, zaz, zaf, zag, u8D, zeu]
   refine hK14 _ _ ?_
   refine zap rfl (fun ht => ?_) (fun ht => ?_)
   ·refine zbr zaj hc mixed rfl (q := 0) (by kernel_rfl) (by kernel_rfl) fun K15 hK15 => ?_
    rcases op4 n.gates.length (nth n.gates (k1 % n.gates.length)).op with q | ⟨q, q'⟩ | ⟨q, q'⟩ | ⟨q, q', q''⟩
    ·have q1 : decide ((0 : Int) < n.gates.length) = false := decide_eq_false (by omega)
     have q2 := q1
     have q3 := q1
     have q4 := q1
     simp -dsimp -implicitDefEqProofs (disch := first | assumption | omega | (simp only [r_z, zaa, zab] <;> omega) | decide) only [r_r, ↓reduceIte, Nat.reduceEqDiff, Nat.reduceAdd, D.fix, Int.reduceToNat, Nat.reduceMul, Nat.reduceBNe, Nat.reduceBEq, zas, zaz, zaf, zag, u8D, q1, q2, q3, q4, zxy, zeu]
     refine hK15 _ _ ?_
     refine zap rfl (fun ht => ?_) (fun ht => ?_)
     ·cases ht
     ·refine za0 (hJ4 _ _ ⟨_, _, n.gates, n.drive, hC0, rfl, rfl, ?_⟩)
      refine Rt.trans (Rt.gc (keep := [0,1,2,3,4,5]) (by decide) (by decide) (by simp [fzH, gcH])) ?_
      refine Rt.end (by repeat (first | exact zal _ | refine zai ?_ (by first | rfl | (simp [r_f, zaa, zab]; done) | simp [r_f, zaa, zab, *]))) ?_
      first | rfl | (simp only [r_g, Nat.reduceAdd, ↓reduceIte, Nat.reduceEqDiff, zas, zaz, zaf, zag, u8D]; first | done | rfl)
    ·obtain ⟨kn, hkn⟩ : ∃ kn, kn = k1 % n.gates.length := ⟨_, rfl⟩
     have hkl : kn < n.gates.length := by rw [hkn]; exact Nat.mod_lt _ q
     have q4 : (k1 : Int) % (n.gates.length : Int) = (kn : Int) := by rw [hkn]; push_cast; rfl
     rw [← hkn] at q'
     have q1 : decide ((0 : Int) < n.gates.length) = true := decide_eq_true (by omega)
     have q2 : decide (2 ≤ (nth n.gates kn).op) = false := decide_eq_false (by omega)
     have q3 := q1
     simp -dsimp -implicitDefEqProofs (disch := first | assumption | omega | (simp only [r_z, zaa, zab] <;> omega) | decide) only [r_r, ↓reduceIte, Nat.reduceEqDiff, Nat.reduceAdd, D.fix, Int.reduceToNat, Nat.reduceMul, Nat.reduceBNe, Nat.reduceBEq, zas, zaz, zaf, zag, u8D, q1, q2, q3, q4, zxy, zeu]
     refine hK15 _ _ ?_
     refine zap rfl (fun ht => ?_) (fun ht => ?_)
     ·cases ht
     ·refine za0 (hJ4 _ _ ⟨_, _, n.gates, n.drive, hC0, rfl, rfl, ?_⟩)
      refine Rt.trans (Rt.gc (keep := [0,1,2,3,4,5]) (by decide) (by decide) (by simp [fzH, gcH])) ?_
      refine Rt.end (by repeat (first | exact zal _ | refine zai ?_ (by first | rfl | (simp [r_f, zaa, zab]; done) | simp [r_f, zaa, zab, *]))) ?_
      first | rfl | (simp only [r_g, Nat.reduceAdd, ↓reduceIte, Nat.reduceEqDiff, zas, zaz, zaf, zag, u8D]; first | done | rfl)
    ·obtain ⟨kn, hkn⟩ : ∃ kn, kn = k1 % n.gates.length := ⟨_, rfl⟩
     have hkl : kn < n.gates.length := by rw [hkn]; exact Nat.mod_lt _ q
     have q4 : (k1 : Int) % (n.gates.length : Int) = (kn : Int) := by rw [hkn]; push_cast; rfl
     rw [← hkn] at q'
     have q1 : decide ((0 : Int) < n.gates.length) = true := decide_eq_true (by omega)
     have q2 : decide (2 ≤ (nth n.gates kn).op) = true := decide_eq_true (by omega)
     have q3 : decide ((nth n.gates kn).op ≤ 4) = false := decide_eq_false (by omega)
     simp -dsimp -implicitDefEqProofs (disch := first | assumption | omega | (simp only [r_z, zaa, zab] <;> omega) | decide) only [r_r, ↓reduceIte, Nat.reduceEqDiff, Nat.reduceAdd, D.fix, Int.reduceToNat, Nat.reduceMul, Nat.reduceBNe, Nat.reduceBEq, zas, zaz, zaf, zag, u8D, q1, q2, q3, q4, zxy, zeu]
     refine hK15 _ _ ?_
     refine zap rfl (fun ht => ?_) (fun ht => ?_)
     ·cases ht
     ·refine za0 (hJ4 _ _ ⟨_, _, n.gates, n.drive, hC0, rfl, rfl, ?_⟩)
      refine Rt.trans (Rt.gc (keep := [0,1,2,3,4,5]) (by decide) (by decide) (by simp [fzH, gcH])) ?_
      refine Rt.end (by repeat (first | exact zal _ | refine zai ?_ (by first | rfl | (simp [r_f, zaa, zab]; done) | simp [r_f, zaa, zab, *]))) ?_
      first | rfl | (simp only [r_g, Nat.reduceAdd, ↓reduceIte, Nat.reduceEqDiff, zas, zaz, zaf, zag, u8D]; first | done | rfl)
    ·obtain ⟨kn, hkn⟩ : ∃ kn, kn = k1 % n.gates.length := ⟨_, rfl⟩
     have hkl : kn < n.gates.length := by rw [hkn]; exact Nat.mod_lt _ q
     have q4 : (k1 : Int) % (n.gates.length : Int) = (kn : Int) := by rw [hkn]; push_cast; rfl
     rw [← hkn] at q' q''
     have q1 : decide ((0 : Int) < n.gates.length) = true := decide_eq_true (by omega)
     have q2 : decide (2 ≤ (nth n.gates kn).op) = true := decide_eq_true (by omega)
     have q3 : decide ((nth n.gates kn).op ≤ 4) = true := decide_eq_true (by omega)
     have hgk := hn.g2 kn hkl
     have hm3 : 0 ≤ (k2 : Int) % 3 ∧ (k2 : Int) % 3 < 3 := by omega
     simp -dsimp -implicitDefEqProofs (disch := first | assumption | omega | (simp only [r_z, zaa, zab] <;> omega) | decide) only [r_r, ↓reduceIte, Nat.reduceEqDiff, Nat.reduceAdd, D.fix, Int.reduceToNat, Nat.reduceMul, Nat.reduceBNe, Nat.reduceBEq, zas, zaz, zaf, zag, u8D, q1, q2, q3, q4, zxy, zeu]
     refine hK15 _ _ ?_
     refine zap rfl (fun ht => ?_) (fun ht => ?_)
     ·refine zos zaj hc mixed rfl (q := 0) (by kernel_rfl) (by kernel_rfl) fun K16 hK16 => ?_
      simp -dsimp -implicitDefEqProofs (disch := first | assumption | omega | (simp only [r_z, zaa, zab] <;> omega) | decide) only [r_r, ↓reduceIte, Nat.reduceEqDiff, Nat.reduceAdd, D.fix, Int.reduceToNat, Nat.reduceMul, Nat.reduceBNe, Nat.reduceBEq, zas, zaz, zaf, zag, u8D, q4, zeu]
      refine hK16 _ _ (hJ4 _ _ ⟨_, _, n.gates.set kn ⟨2 + (k2 : Int) % 3, (nth n.gates kn).a, (nth n.gates kn).b, (nth n.gates kn).c, (nth n.gates kn).n⟩, n.drive, zyj hC0 hkl ⟨by simp only; omega, by simp only; omega, hgk.a0, hgk.a1, hgk.b0, hgk.b1, hgk.c0, hgk.c1, hgk.n0, hgk.n1⟩, rfl, rfl, ?_⟩)
      refine Rt.trans (Rt.gc (keep := [0,1,2,3,4,5]) (by decide) (by decide) (by simp [fzH, gcH])) ?_
      refine Rt.end (by repeat (first | exact zal _ | refine zai ?_ (by first | rfl | (simp [r_f, zaa, zab]; done) | simp [r_f, zaa, zab, *]))) ?_
      simp only [r_g, Nat.reduceAdd, ↓reduceIte, Nat.reduceEqDiff, zas, zaz, zaf, zag, u8D]; unfold chH; simp only [List.length_set, jsw hkl]; rfl
     ·cases ht
   ·refine zac hp zaj hc rfl fun K17 hK17 => ?_
    simp -dsimp -implicitDefEqProofs (disch := first | assumption | omega | (simp only [r_z, zaa, zab] <;> omega) | decide) only [r_r, ↓reduceIte, Nat.reduceEqDiff, Nat.reduceAdd, D.fix, Int.reduceToNat, Nat.reduceMul, Nat.reduceBNe, Nat.reduceBEq, zas, zaz, zaf, zag, u8D, zeu]
    refine hK17 _ _ ?_
    refine zap rfl (fun ht => ?_) (fun ht => ?_)
    ·refine zac hp zaj hc rfl fun K18 hK18 => ?_
     simp -dsimp -implicitDefEqProofs (disch := first | assumption | omega | (simp only [r_z, zaa, zab] <;> omega) | decide) only [r_r, ↓reduceIte, Nat.reduceEqDiff, Nat.reduceAdd, D.fix, Int.reduceToNat, Nat.reduceMul, Nat.reduceBNe, Nat.reduceBEq, zas, zaz, zaf, zag, u8D]
     refine hK18 _ _ ?_
     refine za1 ?_
     refine zbd hp (fun τ' H' mm => ∃ (i : Nat) (l : List Gate) (dr : List Int), (i ≤ n.drive.length ∧ l.length = n.gates.length + 2 * i ∧ Chg m n ⟨n.ins, l, n.out, dr⟩) ∧ mm = n.drive.length - i ∧ H' = chH n [k0, k1, k2, k3] l dr ∧ τ' = frL [(2, .op 0 0), (3, .op 1 0), (4, .op 2 0), (5, .op 3 0), (7, .d (iD i))]) (n.drive.length) ?_ ⟨0, n.gates, n.drive, ⟨Nat.zero_le _, rfl, hC0⟩, rfl, rfl, rfl⟩ ?_
     ·refine Rt.trans (Rt.gc (keep := [0,1,2,3,4,5]) (by decide) (by decide) (by simp [fzH, gcH])) ?_
      refine Rt.end (by repeat (first | exact zal _ | refine zai ?_ (by first | rfl | (simp [r_f, zaa, zab]; done) | simp [r_f, zaa, zab, *]))) ?_
      first | rfl | (simp only [r_g, Nat.reduceAdd, ↓reduceIte, Nat.reduceEqDiff, zas, zaz, zaf, zag, u8D]; first | done | rfl)
     rintro τ' H' mm ⟨i, l, dr, ⟨hi2, hll, hC⟩, rfl, rfl, rfl⟩
     have hdl : dr.length = n.drive.length := hC.dl
     unfold chH
     simp only [List.map_cons, List.map_nil]
     refine zan fun K19 hK19 => ?_
     refine zac hp zaj hc rfl fun K20 hK20 => ?_
     simp -dsimp -implicitDefEqProofs (disch := first | assumption | omega | (simp only [r_z, zaa, zab] <;> omega) | decide) only [r_r, ↓reduceIte, Nat.reduceEqDiff, Nat.reduceAdd, D.fix, Int.reduceToNat, Nat.reduceMul, Nat.reduceBNe, Nat.reduceBEq, zas, zaz, zaf, zag, u8D, zeu]
     refine hK20 _ _ ?_
     refine zap rfl (fun ht => ?_) (fun ht => ?_)
     ·have hlt : i < dr.length := by simp at ht; omega
      have hdk := hC.q.d2 i hlt
      simp only at hdk
      obtain ⟨l1, hl1d⟩ : ∃ l1, l1 = l ++ [⟨1, nth dr i, 0, 0, 0⟩] := ⟨_, rfl⟩
      have hl1 : l1.length = l.length + 1 := by rw [hl1d]; simp
      have hg1 : l.flatMap zar ++ [.val (.int .i64 1)] ++ [.val (.int .i64 (nth dr i))] ++ [.val (.int .i64 0)] ++ [.val (.int .i64 0)] ++ [.val (.int .i64 0)] = l1.flatMap zar := by rw [hl1d]; exact jtp l ⟨1, nth dr i, 0, 0, 0⟩
      obtain ⟨l2, hl2d⟩ : ∃ l2, l2 = l1 ++ [⟨1, 2 + (n.ins.length : Int) + (l1.length : Int) - 1, 0, 0, 0⟩] := ⟨_, rfl⟩
      have hl2 : l2.length = l.length + 1 + 1 := by rw [hl2d]; simp [hl1]
      have hg2 : l1.flatMap zar ++ [.val (.int .i64 1)] ++ [.val (.int .i64 (2 + (n.ins.length : Int) + (l1.length : Int) - 1))] ++ [.val (.int .i64 0)] ++ [.val (.int .i64 0)] ++ [.val (.int .i64 0)] = l2.flatMap zar := by rw [hl2d]; exact jtp l1 ⟨1, _, 0, 0, 0⟩
      refine za0 (hK19 _ _ ?_)
      refine zan fun K21 hK21 => ?_
      refine za1 ?_
      refine zbr zaj hc mixed rfl (q := 2) (by kernel_rfl) (by kernel_rfl) fun K22 hK22 => ?_
      simp -dsimp -implicitDefEqProofs (disch := first | assumption | omega | (simp only [r_z, zaa, zab] <;> omega) | decide) only [r_r, ↓reduceIte, Nat.reduceEqDiff, Nat.reduceAdd, D.fix, Int.reduceToNat, Nat.reduceMul, Nat.reduceBNe, Nat.reduceBEq, zas, zaz, zaf, zag, u8D, zc4, zeu]
      refine hK22 _ _ ?_
      refine zbr zaj hc mixed rfl (q := 2) (by kernel_rfl) (by kernel_rfl) fun K23 hK23 => ?_
      simp -dsimp -implicitDefEqProofs (disch := first | assumption | omega | (simp only [r_z, zaa, zab] <;> omega) | decide) only [r_r, ↓reduceIte, Nat.reduceEqDiff, Nat.reduceAdd, D.fix, Int.reduceToNat, Nat.reduceMul, Nat.reduceBNe, Nat.reduceBEq, zas, zaz, zaf, zag, u8D, zeu]
      refine zfq (zq7 ⟨n.ins, l1, n.out, dr⟩ (by simp only; omega) (by simp only; omega)) ?_ ?_
      ·simp (disch := first | assumption | omega | (simp only [r_z, zaa, zab] <;> omega) | decide) only [r_c, Nat.reduceAdd, D.fix, ↓reduceIte, Nat.reduceEqDiff, zas, zaz, zaf, zag, u8D, hg1, zjg, hl1]
      simp -dsimp -implicitDefEqProofs (disch := first | assumption | omega | (simp only [r_z, zaa, zab] <;> omega) | decide) only [r_r, ↓reduceIte, Nat.reduceEqDiff, Nat.reduceAdd, D.fix, Int.reduceToNat, Nat.reduceMul, Nat.reduceBNe, Nat.reduceBEq, zas, zaz, zaf, zag, u8D, zeu]
      refine hK23 _ _ ?_
      refine zos zaj hc mixed rfl (q := 0) (by kernel_rfl) (by kernel_rfl) fun K24 hK24 => ?_
      simp -dsimp -implicitDefEqProofs (disch := first | assumption | omega | (simp only [r_z, zaa, zab] <;> omega) | decide) only [r_r, ↓reduceIte, Nat.reduceEqDiff, Nat.reduceAdd, D.fix, Int.reduceToNat, Nat.reduceMul, Nat.reduceBNe, Nat.reduceBEq, zas, zaz, zaf, zag, u8D, zeu]
      refine zfq (zq7 ⟨n.ins, l2, n.out, dr⟩ (by simp only; omega) (by simp only; omega)) ?_ ?_
      ·simp (disch := first | assumption | omega | (simp only [r_z, zaa, zab] <;> omega) | decide) only [r_c, Nat.reduceAdd, D.fix, ↓reduceIte, Nat.reduceEqDiff, zas, zaz, zaf, zag, u8D, hg1, hg2, zjg, hl2]
      simp -dsimp -implicitDefEqProofs (disch := first | assumption | omega | (simp only [r_z, zaa, zab] <;> omega) | decide) only [r_r, ↓reduceIte, Nat.reduceEqDiff, Nat.reduceAdd, D.fix, Int.reduceToNat, Nat.reduceMul, Nat.reduceBNe, Nat.reduceBEq, zas, zaz, zaf, zag, u8D, zeu]
      refine hK24 _ _ (hK21 _ _ ?_)
      refine zbt hp zaj hc rfl fun K25 hK25 => ?_
      simp -dsimp -implicitDefEqProofs (disch := first | assumption | omega | (simp only [r_z, zaa, zab] <;> omega) | decide) only [r_r, ↓reduceIte, Nat.reduceEqDiff, Nat.reduceAdd, D.fix, Int.reduceToNat, Nat.reduceMul, Nat.reduceBNe, Nat.reduceBEq, zas, zaz, zaf, zag, u8D, zeu]
      have e2 : l2 = l ++ [⟨1, nth dr i, 0, 0, 0⟩, ⟨1, ((2 + n.ins.length + l.length : Nat) : Int), 0, 0, 0⟩] := by rw [hl2d, hl1d]; simp; omega
      have hC2 : Chg m n ⟨n.ins, l2, n.out, dr⟩ := by rw [e2]; exact jls hC (by simp; omega) (jg2 hdk.1 (by omega))
      have hC3 := zti (k := i) (d := 2 + (n.ins.length : Int) + (l2.length : Int) - 1) hC2 (by omega) (by omega)
      refine hK25 _ _ ⟨_, _, _, ?_, ⟨i + 1, l2, dr.set i (2 + (n.ins.length : Int) + (l2.length : Int) - 1), ⟨by omega, by omega, hC3⟩, rfl, rfl, rfl⟩, ?_⟩
      ·first | omega | (simp only [List.length_cons]; omega) | (dsimp only; omega)
      ·refine Rt.trans (Rt.gc (keep := [0,1,2,3,9,5]) (by decide) (by decide) (by simp [fzH, gcH])) ?_
       refine Rt.end (by repeat (first | exact zal _ | refine zai ?_ (by first | rfl | (simp [r_f, zaa, zab]; done) | simp [r_f, zaa, zab, *]))) ?_
       simp only [r_g, Nat.reduceAdd, ↓reduceIte, Nat.reduceEqDiff, zas, zaz, zaf, zag, u8D]; simp only [List.length_set, hg1, hg2, hl2]; rfl
     ·refine zbl (hJ4 _ _ ⟨_, _, l, dr, hC, rfl, rfl, ?_⟩)
      refine Rt.trans (Rt.gc (keep := [0,1,2,3,4,5]) (by decide) (by decide) (by simp [fzH, gcH])) ?_
      refine Rt.end (by repeat (first | exact zal _ | refine zai ?_ (by first | rfl | (simp [r_f, zaa, zab]; done) | simp [r_f, zaa, zab, *]))) ?_
      first | rfl | (simp only [r_g, Nat.reduceAdd, ↓reduceIte, Nat.reduceEqDiff, zas, zaz, zaf, zag, u8D]; first | done | rfl)
    ·refine za0 (hJ4 _ _ ⟨_, _, n.gates, n.drive, hC0, rfl, rfl, ?_⟩)
     refine Rt.trans (Rt.gc (keep := [0,1,2,3,4,5]) (by decide) (by decide) (by simp [fzH, gcH])) ?_
     refine Rt.end (by repeat (first | exact zal _ | refine zai ?_ (by first | rfl | (simp [r_f, zaa, zab]; done) | simp [r_f, zaa, zab, *]))) ?_
     first | rfl | (simp only [r_g, Nat.reduceAdd, ↓reduceIte, Nat.reduceEqDiff, zas, zaz, zaf, zag, u8D]; first | done | rfl)
end Go.Proofs.Ytignimmnnccblaa

/- Small nets; the classes of nodes. -/
set_option linter.unusedVariables false
set_option linter.unusedSimpArgs false
set_option maxRecDepth 100000
set_option maxHeartbeats 4000000
namespace Go.Proofs.Ytignimmnnccblaa
open Go Go.RowKit
theorem zfi : (((((((type_of% @zsr) ∧ (type_of% @zss)) ∧ ((type_of% @zds) ∧ (type_of% @zdt))) ∧ (((type_of% @zg6) ∧ (type_of% @zg5)) ∧ ((type_of% @zqc) ∧ ((type_of% @zqd) ∧ (type_of% @jfi))))) ∧ ((((type_of% @jfj) ∧ (type_of% @jfk)) ∧ ((type_of% @jfl) ∧ (type_of% @ze9))) ∧ (((type_of% @zfa) ∧ (type_of% @zqe)) ∧ ((type_of% @zqf) ∧ ((type_of% @jfm) ∧ (type_of% @jfn)))))) ∧ (((((type_of% @jfo) ∧ (type_of% @jfp)) ∧ ((type_of% @zqg) ∧ (type_of% @zqh))) ∧ (((type_of% @jfq) ∧ (type_of% @jfr)) ∧ ((type_of% @jfs) ∧ ((type_of% @jft) ∧ (type_of% @jo0))))) ∧ ((((type_of% @jce) ∧ (type_of% @jcf)) ∧ ((type_of% @jcg) ∧ (type_of% @joz))) ∧ (((type_of% @joy) ∧ (type_of% @zdc)) ∧ ((type_of% @zdd) ∧ ((type_of% @zfw) ∧ (type_of% @zfx))))))) ∧ ((((((type_of% @zfy) ∧ (type_of% @zfz)) ∧ ((type_of% @zfc) ∧ (type_of% @zdu))) ∧ (((type_of% @zdv) ∧ (type_of% @zg1)) ∧ ((type_of% @zg2) ∧ ((type_of% @zg3) ∧ (type_of% @zg4))))) ∧ ((((type_of% @zdf) ∧ (type_of% @zdg)) ∧ ((type_of% @zdh) ∧ (type_of% @zdq))) ∧ (((type_of% @ze4) ∧ (type_of% @ze5)) ∧ ((type_of% @ze6) ∧ ((type_of% @ze7) ∧ (type_of% @zlz)))))) ∧ (((((type_of% @zl0) ∧ (type_of% @zhq)) ∧ ((type_of% @zhr) ∧ (type_of% @zei))) ∧ (((type_of% @zej) ∧ (type_of% @zj1)) ∧ ((type_of% @zj0) ∧ ((type_of% @zjk) ∧ (type_of% @zjl))))) ∧ ((((type_of% @zjm) ∧ (type_of% @zo0)) ∧ ((type_of% @zo1) ∧ ((type_of% @zo2) ∧ (type_of% @zo3)))) ∧ (((type_of% @zi7) ∧ (type_of% @zi8)) ∧ ((type_of% @zmn) ∧ ((type_of% @zmo) ∧ (type_of% @zre)))))))) := ⟨⟨⟨⟨⟨⟨@zsr, @zss⟩, ⟨@zds, @zdt⟩⟩, ⟨⟨@zg6, @zg5⟩, ⟨@zqc, ⟨@zqd, @jfi⟩⟩⟩⟩, ⟨⟨⟨@jfj, @jfk⟩, ⟨@jfl, @ze9⟩⟩, ⟨⟨@zfa, @zqe⟩, ⟨@zqf, ⟨@jfm, @jfn⟩⟩⟩⟩⟩, ⟨⟨⟨⟨@jfo, @jfp⟩, ⟨@zqg, @zqh⟩⟩, ⟨⟨@jfq, @jfr⟩, ⟨@jfs, ⟨@jft, @jo0⟩⟩⟩⟩, ⟨⟨⟨@jce, @jcf⟩, ⟨@jcg, @joz⟩⟩, ⟨⟨@joy, @zdc⟩, ⟨@zdd, ⟨@zfw, @zfx⟩⟩⟩⟩⟩⟩, ⟨⟨⟨⟨⟨@zfy, @zfz⟩, ⟨@zfc, @zdu⟩⟩, ⟨⟨@zdv, @zg1⟩, ⟨@zg2, ⟨@zg3, @zg4⟩⟩⟩⟩, ⟨⟨⟨@zdf, @zdg⟩, ⟨@zdh, @zdq⟩⟩, ⟨⟨@ze4, @ze5⟩, ⟨@ze6, ⟨@ze7, @zlz⟩⟩⟩⟩⟩, ⟨⟨⟨⟨@zl0, @zhq⟩, ⟨@zhr, @zei⟩⟩, ⟨⟨@zej, @zj1⟩, ⟨@zj0, ⟨@zjk, @zjl⟩⟩⟩⟩, ⟨⟨⟨@zjm, @zo0⟩, ⟨@zo1, ⟨@zo2, @zo3⟩⟩⟩, ⟨⟨@zi7, @zi8⟩, ⟨@zmn, ⟨@zmo, @zre⟩⟩⟩⟩⟩⟩⟩
def jq9 (x : RawN) (a b c : Nat) : RawN := ⟨x.ins.take a, x.gates.take b, x.out.take c⟩
theorem jra {x : RawN} (h : RawOk x) (a b c : Nat) : RawOk (jq9 x a b c) := by
 refine ⟨fun k hk => ?_, fun k hk => ?_, fun k hk => ?_⟩ <;> simp only [jq9, List.length_take] at hk ⊢ <;> rw [zel (by omega)]
 ·exact h.ins k (by omega)
 ·exact h.gates k (by omega)
 ·exact h.out k (by omega)
theorem jsx {α : Type} {f : α → List D} {w : Nat} (hw : ∀ a, (f a).length = w) : ∀ (n : Nat) (l : List α), (l.flatMap f).take (n * w) = (l.take n).flatMap f
 | 0, l => by simp
 | n + 1, [] => by simp
 | n + 1, a :: l => by
  have e : (n + 1) * w = (f a).length + n * w := by rw [hw, Nat.succ_mul]; omega
  rw [e]
  simp only [List.flatMap_cons, List.take_succ_cons]
  rw [List.take_length_add_append, jsx hw n l]
theorem jeb (x : RawN) (hx : RawOk x) (hi : x.ins.length ≤ maxLen) (hg : x.gates.length ≤ maxLen) (ho : x.out.length ≤ maxLen) : RCalls Try.prog 8 [.agg (zbp x)] (fun r => ∃ n, NetOk n ∧ r = .d (zas n)) := by
 unfold maxLen at hi hg ho
 have hmc := jqv (jq9 x (min x.ins.length 4) (min x.gates.length 24) (min x.out.length 4)) (jra hx _ _ _)
 obtain ⟨u, hu⟩ : ∃ u, u = min x.ins.length 4 := ⟨_, rfl⟩
 obtain ⟨v, hv⟩ : ∃ v, v = min x.gates.length 24 := ⟨_, rfl⟩
 obtain ⟨w, hw⟩ : ∃ w, w = min x.out.length 4 := ⟨_, rfl⟩
 have e1 : min (x.ins.length : Int) 4 = (u : Int) := by omega
 have e2 : min (x.gates.length : Int) 24 = (v : Int) := by omega
 have e3 : min (x.out.length : Int) 4 = (w : Int) := by omega
 rw [← hu, ← hv, ← hw] at hmc
 have hcut : zbp (jq9 x u v w) = [.fs (List.take u (x.ins.map bD)) u, .fs (List.take (v * 5) (x.gates.flatMap r5C)) v, .fs (List.take (w * 4) (x.out.flatMap r4C)) w] := by
  unfold zbp jq9 bytesD
  rw [jsx jqr, jsx jqs]
  simp only [List.map_take, List.length_take]
  rw [Nat.min_eq_left (by omega), Nat.min_eq_left (by omega), Nat.min_eq_left (by omega)]
 rw [hcut] at hmc
 refine zfj (fn := Try.f8) (by kernel_rfl) Try.func8 rfl (Nat.le_of_ble_eq_true rfl) fun c hc hp => ?_
 refine zbk (τ' := frL [(0, .d (.agg (zbp x)))]) (by repeat (first | exact zal _ | refine zai ?_ (by first | rfl | (simp [r_f, zav, zaw, zaa, zab]; done) | simp [r_f, zav, zaw, zaa, zab, *]))) ?_
 refine zac hp zaj hc rfl fun K1 hK1 => ?_
 simp -dsimp -implicitDefEqProofs (disch := first | assumption | omega | (simp only [r_z, zav, zaw, zaa, zab] <;> omega) | decide) only [r_r, ↓reduceIte, Nat.reduceEqDiff, Nat.reduceAdd, D.fix, Int.reduceToNat, Nat.reduceMul, Nat.reduceBNe, Nat.reduceBEq, zbp, bytesD, zas, zaz, zaf, zag, zfi]
 refine hK1 _ _ ?_
 refine zd7 zaj hp hc mixed rfl [(0, []), (1, []), (2, []), (3, []), (4, []), (5, []), (6, []), (7, []), (8, []), (9, []), (10, []), (11, []), (12, []), (13, []), (14, []), (15, []), (16, []), (17, []), (18, []), (19, []), (20, []), (21, []), (22, []), (23, [])] [[], [0], [], [2], [2, 3], [2, 3, 4], [0, 1, 2, 3, 4, 5], [], [7], [], [9], [9, 10], [9, 10, 11], [7, 8, 9, 10, 11, 12], [], [14], [], [16], [16, 17], [16, 17, 18], [14, 15, 16, 17, 18, 19], [0, 1, 2, 3, 4, 5, 6, 7, 8, 9, 10, 11, 12, 13, 14, 15, 16, 17, 18, 19, 20], [0, 1, 2, 3, 4, 5, 6, 7, 8, 9, 10, 11, 12, 13, 14, 15, 16, 17, 18, 19, 20, 21], [0, 1, 2, 3, 4, 5, 6, 7, 8, 9, 10, 11, 12, 13, 14, 15, 16, 17, 18, 19, 20, 21, 22]] 0 (by kernel_rfl) fun K2 hK2 => ?_
 simp -dsimp -implicitDefEqProofs (disch := first | assumption | omega | (simp only [r_z, zav, zaw, zaa, zab] <;> omega) | decide) only [r_r, ↓reduceIte, Nat.reduceEqDiff, Nat.reduceAdd, D.fix, Int.reduceToNat, Nat.reduceMul, Nat.reduceBNe, Nat.reduceBEq, r_w, zbp, bytesD, zas, zaz, zaf, zag, e1, e2, e3, zfi]
 refine jot (hmc) rfl fun r hr => ?_
 obtain ⟨n, hn, rfl⟩ := hr
 simp -dsimp -implicitDefEqProofs (disch := first | assumption | omega | (simp only [r_z, zav, zaw, zaa, zab] <;> omega) | decide) only [r_r, ↓reduceIte, Nat.reduceEqDiff, Nat.reduceAdd, D.fix, Int.reduceToNat, Nat.reduceMul, Nat.reduceBNe, Nat.reduceBEq, r_w, zbp, bytesD, zas, zaz, zaf, zag, e1, e2, e3, zfi]
 refine hK2 _ _ ?_
 refine za6 ?_
 try dsimp only [zji, zc2]
 refine zdo rfl ?_
 simp -dsimp -implicitDefEqProofs (disch := first | assumption | omega | (simp only [r_z, zav, zaw, zaa, zab] <;> omega) | decide) only [r_r, ↓reduceIte, Nat.reduceEqDiff, Nat.reduceAdd, D.fix, Int.reduceToNat, Nat.reduceMul, Nat.reduceBNe, Nat.reduceBEq, zbp, bytesD, zas, zaz, zaf, zag, zds, zdt]
 show ∃ r, closeA _ _ = some r ∧ _
 simp (disch := first | assumption | omega | (simp only [r_z, zav, zaw, zaa, zab] <;> omega) | decide) only [r_c, Nat.reduceAdd, D.fix, ↓reduceIte, Nat.reduceEqDiff, zbp, bytesD, zas, zaz, zaf, zag]
 exact ⟨_, rfl, n, hn, rfl⟩
def zix (f : Nat → Int) (n i : Nat) : List D := (List.range n).map fun j => iD (if j < i then f j else 0)
theorem zbc (f : Nat → Int) (n i : Nat) : (zix f n i).length = n := by simp [zix]
theorem jec (f : Nat → Int) (n : Nat) : List.replicate n (iD 0) = zix f n 0 := by
 refine List.ext_getElem (by simp [zix]) fun i h1 h2 => ?_
 simp [zix]
theorem zrc {f : Nat → Int} {n i : Nat} (h : i < n) : (zix f n i).set i (iD (f i)) = zix f n (i + 1) := by
 refine List.ext_getElem (by simp [zix]) fun j h1 h2 => ?_
 rw [List.getElem_set]
 simp only [zix, List.getElem_map, List.getElem_range]
 by_cases e : i = j
 ·subst e; rw [if_pos rfl, if_pos (by omega)]
 ·rw [if_neg e]
  by_cases h3 : j < i
  ·rw [if_pos h3, if_pos (by omega)]
  ·rw [if_neg h3, if_neg (by omega)]
theorem jed (f : Nat → Int) (n : Nat) : zix f n n = (List.range n).map fun j => iD (f j) := by
 refine List.map_congr_left fun j hj => ?_
 rw [if_pos (List.mem_range.1 hj)]
def znt (rs : List Nat) (r : Nat) : Nat := rs.findIdx fun x => x == r
theorem jrb {rs : List Nat} {k : Nat} (hk : k < rs.length) (h : ∀ j, j < k → nth rs j ≠ nth rs k) : znt rs (nth rs k) = k := by
 unfold znt
 rw [List.findIdx_eq hk]
 refine ⟨by rw [zb9 hk]; simp, fun j hj => ?_⟩
 have := h j hj
 rw [zb9 (by omega)] at this
 simpa using this
structure LsP (rs : List Nat) (k : Nat) (μ : Mp) : Prop where
 ok : OkM Try.prog tI μ
 yes : ∀ j, j < k → zgy (vi (nth rs j)) μ = some (vi (znt rs (nth rs j)))
 no : ∀ r, (∀ j, j < k → nth rs j ≠ r) → r ≤ 4000000000 → zgy (vi r) μ = none
theorem LsP.nil (rs : List Nat) : LsP rs 0 ([], 0) := ⟨OkM.nil _ _, fun j hj => by omega, fun r _ _ => rfl⟩
theorem LsP.same {rs : List Nat} {k : Nat} {μ : Mp} (h : LsP rs k μ) {j : Nat} (hj : j < k) (e : nth rs j = nth rs k) : LsP rs (k + 1) μ :=
 ⟨h.ok, fun q hq => by
  by_cases hqk : q = k
  ·rw [hqk, ← e]; exact h.yes j hj
  ·exact h.yes q (by omega), fun r hr hr4 => h.no r (fun q hq => hr q (by omega)) hr4⟩
theorem LsP.new {rs : List Nat} {k : Nat} {μ : Mp} (h : LsP rs k μ) (hk : k < rs.length) (hb : ∀ r ∈ rs, r ≤ 4000000000) (e : ∀ j, j < k → nth rs j ≠ nth rs k) : LsP rs (k + 1) (zny (vi (nth rs k)) (vi k) μ) := by
 classical
 have hkk := jjq (hb _ (zb6 hk))
 refine ⟨h.ok.put hkk, fun q hq => ?_, fun r hr hr4 => ?_⟩
 ·have hqq := jjq (hb _ (zb6 (show q < rs.length by omega)))
  rw [zf4 hkk.1 hqq.1]
  by_cases hqk : q = k
  ·rw [hqk, if_pos rfl, jrb hk e]
  ·rw [if_neg fun h2 => e q (by omega) (znj h2)]
   exact h.yes q (by omega)
 ·have hrr := jjq hr4
  rw [zf4 hkk.1 hrr.1, if_neg fun h2 => hr k (by omega) (znj h2).symm]
  exact h.no r (fun q hq => hr q (by omega)) hr4
theorem zzf (n : Net) (sh : Sh) (hi : n.ins.length ≤ 1000) (hg : n.gates.length ≤ 1000) (ns : List Nd) (rs : List Nat) (hrl : rs.length = 2 + n.ins.length + n.gates.length) (hb : ∀ r ∈ rs, r ≤ 4000000000) (h : zbf Try.prog 48 [zas n, shD sh, intsD (zya n)] (.tup [.d (zby ns rs), .d (iD 0)])) : zbf Try.prog 32 [zas n, shD sh] (.tup [.d (intsD (rs.map fun r => (znt rs r : Int))), .d (iD 0)]) := by
 refine zbi (fn := Try.f32) (by kernel_rfl) Try.func32 rfl (Nat.le_of_ble_eq_true rfl) fun c hc hp => ?_
 refine zbk (τ' := frL [(0, .d (zas n)), (1, .d (shD sh))]) (by repeat (first | exact zal _ | refine zai ?_ (by first | rfl | (simp [r_f, zaa, zab, zad, zae, zbc, za9]; done) | simp [r_f, zaa, zab, zad, zae, zbc, za9, *]))) ?_
 refine zac hp zaj hc rfl fun K1 hK1 => ?_
 simp -dsimp -implicitDefEqProofs (disch := first | assumption | omega | (simp only [r_z, zaa, zab, zad, zae, zbc, za9] <;> omega) | decide) only [r_r, ↓reduceIte, Nat.reduceEqDiff, Nat.reduceAdd, D.fix, Int.reduceToNat, Nat.reduceMul, Nat.reduceBNe, Nat.reduceBEq, r_m, zas, zaz, zaf, zag, shD, zby, zb2, zfi]
 refine hK1 _ _ ?_
 refine zac hp zaj hc rfl fun K2 hK2 => ?_
 simp -dsimp -implicitDefEqProofs (disch := first | assumption | omega | (simp only [r_z, zaa, zab, zad, zae, zbc, za9] <;> omega) | decide) only [r_r, ↓reduceIte, Nat.reduceEqDiff, Nat.reduceAdd, D.fix, Int.reduceToNat, Nat.reduceMul, Nat.reduceBNe, Nat.reduceBEq, r_m, zas, zaz, zaf, zag, shD, zby, zb2, zfi]
 refine hK2 _ _ ?_
 refine zan fun K3 hK3 => ?_
 refine zac hp zaj hc rfl fun K4 hK4 => ?_
 simp -dsimp -implicitDefEqProofs (disch := first | assumption | omega | (simp only [r_z, zaa, zab, zad, zae, zbc, za9] <;> omega) | decide) only [r_r, ↓reduceIte, Nat.reduceEqDiff, Nat.reduceAdd, D.fix, Int.reduceToNat, Nat.reduceMul, Nat.reduceBNe, Nat.reduceBEq, r_m, zas, zaz, zaf, zag, shD, zby, zb2, zfi]
 refine hK4 _ _ ?_
 refine za1 ?_
 refine zbd hp (fun τ' H' mm => ∃ (i : Nat), (i ≤ 2 + n.ins.length + n.gates.length) ∧ mm = 2 + n.ins.length + n.gates.length - i ∧ H' = [.cells (avs (zaz n)), .cells (avs (zix (fun j => (j : Int)) (2 + n.ins.length + n.gates.length) i))] ∧ τ' = frL [(1, .d (shD sh)), (2, .op 0 0), (4, .d (.val (.slice none 0 0))), (5, .d (iD 0)), (6, .os 1 1 0 (2 + n.ins.length + n.gates.length)), (26, .d (iD (2 + n.ins.length + n.gates.length : Nat))), (27, .d (iD i))]) (2 + n.ins.length + n.gates.length) ?_ ⟨0, Nat.zero_le _, rfl, rfl, rfl⟩ ?_
 ·refine Rt.trans (Rt.gc (keep := [0,1]) (by decide) (by decide) (by simp [fzH, gcH])) ?_
  refine Rt.end (by repeat (first | exact zal _ | refine zai ?_ (by first | rfl | (simp [r_f, zaa, zab, zad, zae, zbc, za9]; done) | simp [r_f, zaa, zab, zad, zae, zbc, za9, *]))) ?_
  simp only [r_g, Nat.reduceAdd, ↓reduceIte, Nat.reduceEqDiff, r_m, zas, zaz, zaf, zag, shD, zby, zb2]; rw [← jec]; rfl
 rintro τ' H' mm ⟨i, hi2, rfl, rfl, rfl⟩
 refine zac hp zaj hc rfl fun K5 hK5 => ?_
 simp -dsimp -implicitDefEqProofs (disch := first | assumption | omega | (simp only [r_z, zaa, zab, zad, zae, zbc, za9] <;> omega) | decide) only [r_r, ↓reduceIte, Nat.reduceEqDiff, Nat.reduceAdd, D.fix, Int.reduceToNat, Nat.reduceMul, Nat.reduceBNe, Nat.reduceBEq, r_m, zas, zaz, zaf, zag, shD, zby, zb2, zfi]
 refine hK5 _ _ ?_
 refine zan fun K6 hK6 => ?_
 refine zap rfl (fun ht => ?_) (fun ht => ?_)
 ·have hlt : i < 2 + n.ins.length + n.gates.length := by simp at ht; omega
  refine za0 (hK6 _ _ ?_)
  refine zan fun K7 hK7 => ?_
  refine za1 ?_
  refine zac hp zaj hc rfl fun K8 hK8 => ?_
  simp -dsimp -implicitDefEqProofs (disch := first | assumption | omega | (simp only [r_z, zaa, zab, zad, zae, zbc, za9] <;> omega) | decide) only [r_r, ↓reduceIte, Nat.reduceEqDiff, Nat.reduceAdd, D.fix, Int.reduceToNat, Nat.reduceMul, Nat.reduceBNe, Nat.reduceBEq, r_m, zas, zaz, zaf, zag, shD, zby, zb2]
  refine hK8 _ _ ?_
  refine zbt hp zaj hc rfl fun K9 hK9 => ?_
  simp -dsimp -implicitDefEqProofs (disch := first | assumption | omega | (simp only [r_z, zaa, zab, zad, zae, zbc, za9] <;> omega) | decide) only [r_r, ↓reduceIte, Nat.reduceEqDiff, Nat.reduceAdd, D.fix, Int.reduceToNat, Nat.reduceMul, Nat.reduceBNe, Nat.reduceBEq, r_m, zas, zaz, zaf, zag, shD, zby, zb2, zfi]
  refine hK9 _ _ (hK7 _ _ ?_)
  refine zbt hp zaj hc rfl fun K10 hK10 => ?_
  simp -dsimp -implicitDefEqProofs (disch := first | assumption | omega | (simp only [r_z, zaa, zab, zad, zae, zbc, za9] <;> omega) | decide) only [r_r, ↓reduceIte, Nat.reduceEqDiff, Nat.reduceAdd, D.fix, Int.reduceToNat, Nat.reduceMul, Nat.reduceBNe, Nat.reduceBEq, r_m, zas, zaz, zaf, zag, shD, zby, zb2, zfi]
  refine hK10 _ _ ⟨_, _, _, ?_, ⟨i + 1, by omega, rfl, rfl, rfl⟩, ?_⟩
  ·first | omega | (simp only [List.length_cons]; omega) | (dsimp only; omega)
  ·refine Rt.trans (Rt.gc (keep := [0,1]) (by decide) (by decide) (by simp [fzH, gcH])) ?_
   refine Rt.end (by repeat (first | exact zal _ | refine zai ?_ (by first | rfl | (simp [r_f, zaa, zab, zad, zae, zbc, za9]; done) | simp [r_f, zaa, zab, zad, zae, zbc, za9, *]))) ?_
   simp only [r_g, Nat.reduceAdd, ↓reduceIte, Nat.reduceEqDiff, r_m, zas, zaz, zaf, zag, shD, zby, zb2]; rw [← zrc hlt]; rfl
 ·have hie : i = 2 + n.ins.length + n.gates.length := by simp at ht; omega
  have hfa : zix (fun j => (j : Int)) (2 + n.ins.length + n.gates.length) i = (zya n).map iD := by rw [hie, jed]; unfold zya; rw [List.map_map]; rfl
  rw [hfa]
  refine zbl (hK3 _ _ ?_)
  refine zb3 hp (τ' := frL [(1, .d (shD sh)), (2, .op 0 0), (4, .d (.val (.slice none 0 0))), (5, .d (iD 0)), (6, .d (intsD (zya n)))]) (H' := [.cells (avs (zaz n))]) ?_ ?_
  ·refine Rt.trans (Rt.fz (id := 1) rfl) ?_
   refine Rt.trans (Rt.slot 6 (zv7 (zdz (by simp [r_z, zaa, zab, zad, zae, zbc, za9])))) ?_
   refine Rt.trans (Rt.gc (keep := [0]) (by decide) (by decide) (by simp [fzH, gcH])) ?_
   refine Rt.end (by repeat (first | exact zal _ | refine zai ?_ (by first | rfl | (simp [r_f, zaa, zab, zad, zae, zbc, za9]; done) | simp [r_f, zaa, zab, zad, zae, zbc, za9, *]))) ?_
   first | rfl | (simp only [r_g, Nat.reduceAdd, ↓reduceIte, Nat.reduceEqDiff, r_m, zas, zaz, zaf, zag, shD, zby, zb2]; first | done | rfl)
  refine zac hp zaj hc rfl fun K11 hK11 => ?_
  simp -dsimp -implicitDefEqProofs (disch := first | assumption | omega | (simp only [r_z, zaa, zab, zad, zae, zbc, za9] <;> omega) | decide) only [r_r, ↓reduceIte, Nat.reduceEqDiff, Nat.reduceAdd, D.fix, Int.reduceToNat, Nat.reduceMul, Nat.reduceBNe, Nat.reduceBEq, r_m, zas, zaz, zaf, zag, shD, zby, zb2, zfi]
  refine zb8 (h) rfl ?_
  simp -dsimp -implicitDefEqProofs (disch := first | assumption | omega | (simp only [r_z, zaa, zab, zad, zae, zbc, za9] <;> omega) | decide) only [r_r, ↓reduceIte, Nat.reduceEqDiff, Nat.reduceAdd, D.fix, Int.reduceToNat, Nat.reduceMul, Nat.reduceBNe, Nat.reduceBEq, r_m, zas, zaz, zaf, zag, shD, zby, zb2, zfi]
  refine hK11 _ _ ?_
  refine zan fun K12 hK12 => ?_
  refine zac hp zaj hc rfl fun K13 hK13 => ?_
  simp -dsimp -implicitDefEqProofs (disch := first | assumption | omega | (simp only [r_z, zaa, zab, zad, zae, zbc, za9] <;> omega) | decide) only [r_r, ↓reduceIte, Nat.reduceEqDiff, Nat.reduceAdd, D.fix, Int.reduceToNat, Nat.reduceMul, Nat.reduceBNe, Nat.reduceBEq, r_m, zas, zaz, zaf, zag, shD, zby, zb2, zfi]
  refine hK13 _ _ ?_
  refine zap rfl (fun ht => ?_) (fun ht => ?_)
  ·cases ht
  ·refine za0 (hK12 _ _ ?_)
   refine zac hp zaj hc rfl fun K14 hK14 => ?_
   simp -dsimp -implicitDefEqProofs (disch := first | assumption | omega | (simp only [r_z, zaa, zab, zad, zae, zbc, za9] <;> omega) | decide) only [r_r, ↓reduceIte, Nat.reduceEqDiff, Nat.reduceAdd, D.fix, Int.reduceToNat, Nat.reduceMul, Nat.reduceBNe, Nat.reduceBEq, r_m, zas, zaz, zaf, zag, shD, zby, zb2, zfi]
   refine hK14 _ _ ?_
   refine zac hp zaj hc rfl fun K15 hK15 => ?_
   simp -dsimp -implicitDefEqProofs (disch := first | assumption | omega | (simp only [r_z, zaa, zab, zad, zae, zbc, za9] <;> omega) | decide) only [r_r, ↓reduceIte, Nat.reduceEqDiff, Nat.reduceAdd, D.fix, Int.reduceToNat, Nat.reduceMul, Nat.reduceBNe, Nat.reduceBEq, r_m, zas, zaz, zaf, zag, shD, zby, zb2, zfi]
   refine hK15 _ _ ?_
   refine zan fun K16 hK16 => ?_
   refine zac hp zaj hc rfl fun K17 hK17 => ?_
   simp -dsimp -implicitDefEqProofs (disch := first | assumption | omega | (simp only [r_z, zaa, zab, zad, zae, zbc, za9] <;> omega) | decide) only [r_r, ↓reduceIte, Nat.reduceEqDiff, Nat.reduceAdd, D.fix, Int.reduceToNat, Nat.reduceMul, Nat.reduceBNe, Nat.reduceBEq, r_m, zas, zaz, zaf, zag, shD, zby, zb2, zfi]
   refine hK17 _ _ ?_
   refine za1 ?_
   refine zbd hp (fun τ' H' mm => ∃ (k : Nat) (μ : Mp), (k ≤ rs.length ∧ LsP rs k μ) ∧ mm = rs.length - k ∧ H' = [.cells (avs (zaz n)), .cells (avs (zb2 ns rs)), mO μ, .cells (avs (zix (fun j => (znt rs (nth rs j) : Int)) rs.length k))] ∧ τ' = frL [(4, .d (.val (.slice none 0 0))), (5, .d (iD 0)), (10, .om 2), (11, .os 1 3 0 rs.length), (50, .d (.fs (rs.map zb1) rs.length)), (51, .d (iD rs.length)), (52, .d (iD k))]) (rs.length) ?_ ⟨0, ([], 0), ⟨Nat.zero_le _, LsP.nil rs⟩, rfl, rfl, rfl⟩ ?_
   ·refine Rt.trans (Rt.gc (keep := [0,1,2,3]) (by decide) (by decide) (by simp [fzH, gcH])) ?_
    refine Rt.end (by repeat (first | exact zal _ | refine zai ?_ (by first | rfl | (simp [r_f, zaa, zab, zad, zae, zbc, za9]; done) | simp [r_f, zaa, zab, zad, zae, zbc, za9, *]))) ?_
    simp only [r_g, Nat.reduceAdd, ↓reduceIte, Nat.reduceEqDiff, r_m, zas, zaz, zaf, zag, shD, zby, zb2]; rw [za9, ← hrl, ← jec]; rfl
   rintro τ' H' mm ⟨k, μ, ⟨hk, hL⟩, rfl, rfl, rfl⟩
   refine zac hp zaj hc rfl fun K18 hK18 => ?_
   simp -dsimp -implicitDefEqProofs (disch := first | assumption | omega | (simp only [r_z, zaa, zab, zad, zae, zbc, za9] <;> omega) | decide) only [r_r, ↓reduceIte, Nat.reduceEqDiff, Nat.reduceAdd, D.fix, Int.reduceToNat, Nat.reduceMul, Nat.reduceBNe, Nat.reduceBEq, r_m, zas, zaz, zaf, zag, shD, zby, zb2, zfi]
   refine hK18 _ _ ?_
   refine zan fun K19 hK19 => ?_
   refine zap rfl (fun ht => ?_) (fun ht => ?_)
   ·have hlt : k < rs.length := by simp at ht; omega
    have hky : zp5 Try.prog tI (.int .i64 ((nth rs k : Nat) : Int)) := jjq (hb _ (zb6 hlt))
    refine za0 (hK19 _ _ ?_)
    refine zan fun K20 hK20 => ?_
    refine za1 ?_
    refine zac hp zaj hc rfl fun K21 hK21 => ?_
    simp -dsimp -implicitDefEqProofs (disch := first | assumption | omega | (simp only [r_z, zaa, zab, zad, zae, zbc, za9] <;> omega) | decide) only [r_r, ↓reduceIte, Nat.reduceEqDiff, Nat.reduceAdd, D.fix, Int.reduceToNat, Nat.reduceMul, Nat.reduceBNe, Nat.reduceBEq, r_m, zas, zaz, zaf, zag, shD, zby, zb2, zc4, zb1, zfi]
    refine hK21 _ _ ?_
    refine zan fun K22 hK22 => ?_
    have hJ22 : ∀ τ' H', (∃ τ1 H1, ∃ (μ' : Mp), (LsP rs (k + 1) μ') ∧ H1 = [.cells (avs (zaz n)), .cells (avs (zb2 ns rs)), mO μ', .cells (avs (zix (fun j => (znt rs (nth rs j) : Int)) rs.length k))] ∧ τ1 = frL [(4, .d (.val (.slice none 0 0))), (5, .d (iD 0)), (10, .om 2), (11, .os 1 3 0 rs.length), (12, .d (iD k)), (13, .d (iD ((nth rs k : Nat) : Int))), (50, .d (.fs (rs.map zb1) rs.length)), (51, .d (iD rs.length)), (52, .d (iD k))] ∧ Rt [] τ' H' τ1 H1) → K22 τ' H' := by
     rintro τ' H' ⟨_, _, μ', hL', rfl, rfl, hrt⟩
     refine hK22 _ _ (zb3 hp hrt ?_)
     clear hrt
     have hgm' : zgy (.int .i64 ((nth rs k : Nat) : Int)) μ' = some (vi (znt rs (nth rs k))) := hL'.yes k (by omega)
     refine zbt hp zaj hc rfl fun K23 hK23 => ?_
     simp -dsimp -implicitDefEqProofs (disch := first | assumption | omega | (simp only [r_z, zaa, zab, zad, zae, zbc, za9] <;> omega) | decide) only [r_r, ↓reduceIte, Nat.reduceEqDiff, Nat.reduceAdd, D.fix, Int.reduceToNat, Nat.reduceMul, Nat.reduceBNe, Nat.reduceBEq, r_m, zas, zaz, zaf, zag, shD, zby, zb2, zia, jks mtI hky hL'.ok, hgm', Option.getD_some, vi, zfi]
     refine hK23 _ _ (hK20 _ _ ?_)
     refine zbt hp zaj hc rfl fun K24 hK24 => ?_
     simp -dsimp -implicitDefEqProofs (disch := first | assumption | omega | (simp only [r_z, zaa, zab, zad, zae, zbc, za9] <;> omega) | decide) only [r_r, ↓reduceIte, Nat.reduceEqDiff, Nat.reduceAdd, D.fix, Int.reduceToNat, Nat.reduceMul, Nat.reduceBNe, Nat.reduceBEq, r_m, zas, zaz, zaf, zag, shD, zby, zb2, zfi]
     refine hK24 _ _ ⟨_, _, _, ?_, ⟨k + 1, μ', ⟨by omega, hL'⟩, rfl, rfl, rfl⟩, ?_⟩
     ·first | omega | (simp only [List.length_cons]; omega) | (dsimp only; omega)
     ·refine Rt.trans (Rt.gc (keep := [0,1,2,3]) (by decide) (by decide) (by simp [fzH, gcH])) ?_
      refine Rt.end (by repeat (first | exact zal _ | refine zai ?_ (by first | rfl | (simp [r_f, zaa, zab, zad, zae, zbc, za9]; done) | simp [r_f, zaa, zab, zad, zae, zbc, za9, *]))) ?_
      simp only [r_g, Nat.reduceAdd, ↓reduceIte, Nat.reduceEqDiff, r_m, zas, zaz, zaf, zag, shD, zby, zb2]; rw [← zrc hlt]; rfl
    refine zac hp zaj hc rfl fun K25 hK25 => ?_
    by_cases hex : ∃ j, j < k ∧ nth rs j = nth rs k
    ·obtain ⟨j, hj, e⟩ := hex
     have hgm : zgy (.int .i64 ((nth rs k : Nat) : Int)) μ = some (vi (znt rs (nth rs k))) := by rw [← e]; exact hL.yes j hj
     simp -dsimp -implicitDefEqProofs (disch := first | assumption | omega | (simp only [r_z, zaa, zab, zad, zae, zbc, za9] <;> omega) | decide) only [r_r, ↓reduceIte, Nat.reduceEqDiff, Nat.reduceAdd, D.fix, Int.reduceToNat, Nat.reduceMul, Nat.reduceBNe, Nat.reduceBEq, r_m, zas, zaz, zaf, zag, shD, zby, zb2, zia, zsp mtI hky hL.ok, hgm, Option.getD_some, Option.getD_none, Option.isSome_some, Option.isSome_none, vi, zfi]
     refine hK25 _ _ ?_
     refine zac hp zaj hc rfl fun K26 hK26 => ?_
     simp -dsimp -implicitDefEqProofs (disch := first | assumption | omega | (simp only [r_z, zaa, zab, zad, zae, zbc, za9] <;> omega) | decide) only [r_r, ↓reduceIte, Nat.reduceEqDiff, Nat.reduceAdd, D.fix, Int.reduceToNat, Nat.reduceMul, Nat.reduceBNe, Nat.reduceBEq, r_m, zas, zaz, zaf, zag, shD, zby, zb2, zfi]
     refine hK26 _ _ ?_
     refine zap rfl (fun ht => ?_) (fun ht => ?_)
     ·cases ht
     ·refine za0 (hJ22 _ _ ⟨_, _, μ, hL.same hj e, rfl, rfl, ?_⟩)
      refine Rt.trans (Rt.gc (keep := [0,1,2,3]) (by decide) (by decide) (by simp [fzH, gcH])) ?_
      refine Rt.end (by repeat (first | exact zal _ | refine zai ?_ (by first | rfl | (simp [r_f, zaa, zab, zad, zae, zbc, za9]; done) | simp [r_f, zaa, zab, zad, zae, zbc, za9, *]))) ?_
      first | rfl | (simp only [r_g, Nat.reduceAdd, ↓reduceIte, Nat.reduceEqDiff, r_m, zas, zaz, zaf, zag, shD, zby, zb2]; first | done | rfl)
    ·have hnx : ∀ j, j < k → nth rs j ≠ nth rs k := fun j hj e => hex ⟨j, hj, e⟩
     have hgm : zgy (.int .i64 ((nth rs k : Nat) : Int)) μ = none := hL.no _ hnx (hb _ (zb6 hlt))
     simp -dsimp -implicitDefEqProofs (disch := first | assumption | omega | (simp only [r_z, zaa, zab, zad, zae, zbc, za9] <;> omega) | decide) only [r_r, ↓reduceIte, Nat.reduceEqDiff, Nat.reduceAdd, D.fix, Int.reduceToNat, Nat.reduceMul, Nat.reduceBNe, Nat.reduceBEq, r_m, zas, zaz, zaf, zag, shD, zby, zb2, zia, zsp mtI hky hL.ok, hgm, Option.getD_some, Option.getD_none, Option.isSome_some, Option.isSome_none, vi, zfi]
     refine hK25 _ _ ?_
     refine zac hp zaj hc rfl fun K27 hK27 => ?_
     simp -dsimp -implicitDefEqProofs (disch := first | assumption | omega | (simp only [r_z, zaa, zab, zad, zae, zbc, za9] <;> omega) | decide) only [r_r, ↓reduceIte, Nat.reduceEqDiff, Nat.reduceAdd, D.fix, Int.reduceToNat, Nat.reduceMul, Nat.reduceBNe, Nat.reduceBEq, r_m, zas, zaz, zaf, zag, shD, zby, zb2, zfi]
     refine hK27 _ _ ?_
     refine zap rfl (fun ht => ?_) (fun ht => ?_)
     ·refine zbt hp zaj hc rfl fun K28 hK28 => ?_
      simp -dsimp -implicitDefEqProofs (disch := first | assumption | omega | (simp only [r_z, zaa, zab, zad, zae, zbc, za9] <;> omega) | decide) only [r_r, ↓reduceIte, Nat.reduceEqDiff, Nat.reduceAdd, D.fix, Int.reduceToNat, Nat.reduceMul, Nat.reduceBNe, Nat.reduceBEq, r_m, zas, zaz, zaf, zag, shD, zby, zb2, jb4 mtI hky hL.ok, zfi]
      refine hK28 _ _ (hJ22 _ _ ⟨_, _, zny (.int .i64 ((nth rs k : Nat) : Int)) (.int .i64 (k : Int)) μ, hL.new hlt hb hnx, rfl, rfl, ?_⟩)
      refine Rt.trans (Rt.gc (keep := [0,1,2,3]) (by decide) (by decide) (by simp [fzH, gcH])) ?_
      refine Rt.end (by repeat (first | exact zal _ | refine zai ?_ (by first | rfl | (simp [r_f, zaa, zab, zad, zae, zbc, za9]; done) | simp [r_f, zaa, zab, zad, zae, zbc, za9, *]))) ?_
      first | rfl | (simp only [r_g, Nat.reduceAdd, ↓reduceIte, Nat.reduceEqDiff, r_m, zas, zaz, zaf, zag, shD, zby, zb2]; first | done | rfl)
     ·cases ht
   ·have hke : k = rs.length := by simp at ht; omega
    have hfr : zix (fun j => (znt rs (nth rs j) : Int)) rs.length k = (rs.map fun r => (znt rs r : Int)).map iD := by
     rw [hke, jed, List.map_map]
     refine List.ext_getElem (by simp) fun i h1 h2 => ?_
     simp only [List.getElem_map, List.getElem_range, Function.comp]
     rw [zb9 (by simpa using h2)]
    rw [hfr]
    refine zbl (hK16 _ _ ?_)
    refine zac hp zaj hc rfl fun K29 hK29 => ?_
    simp -dsimp -implicitDefEqProofs (disch := first | assumption | omega | (simp only [r_z, zaa, zab, zad, zae, zbc, za9] <;> omega) | decide) only [r_r, ↓reduceIte, Nat.reduceEqDiff, Nat.reduceAdd, D.fix, Int.reduceToNat, Nat.reduceMul, Nat.reduceBNe, Nat.reduceBEq, r_m, zas, zaz, zaf, zag, shD, zby, zb2]
    refine hK29 _ _ ?_
    refine za6 ?_
    show closeA _ _ = _
    simp (disch := first | assumption | omega | (simp only [r_z, zaa, zab, zad, zae, zbc, za9] <;> omega) | decide) only [r_c, Nat.reduceAdd, D.fix, ↓reduceIte, Nat.reduceEqDiff, r_m, zas, zaz, zaf, zag, shD, zby, zb2]
end Go.Proofs.Ytignimmnnccblaa
