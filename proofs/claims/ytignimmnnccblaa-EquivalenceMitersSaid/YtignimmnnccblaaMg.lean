/- Changed nets; small nets. -/
import Derived.Test.YtignimmnnccblaaQr
import Derived.Test.YtignimmnnccblaaMe
set_option linter.unusedVariables false
set_option linter.unusedSimpArgs false
set_option maxRecDepth 100000
set_option maxHeartbeats 4000000
namespace Go.Proofs.Ytignimmnnccblaa
open Go Go.RowKit
theorem zes : ((((((type_of% @zds) ∧ ((type_of% @zdt) ∧ (type_of% @zyy))) ∧ (((type_of% @zyz) ∧ (type_of% @zy0)) ∧ ((type_of% @zh0) ∧ (type_of% @zhz)))) ∧ (((type_of% @zcr) ∧ ((type_of% @zcs) ∧ (type_of% @ze4))) ∧ (((type_of% @ze5) ∧ (type_of% @ze6)) ∧ ((type_of% @zfq) ∧ (type_of% @zfr))))) ∧ ((((type_of% @zfs) ∧ ((type_of% @zft) ∧ (type_of% @zlz))) ∧ (((type_of% @zl0) ∧ (type_of% @zc6)) ∧ ((type_of% @zc7) ∧ (type_of% @zgu)))) ∧ (((type_of% @zgv) ∧ ((type_of% @zde) ∧ (type_of% @zdf))) ∧ (((type_of% @zdg) ∧ (type_of% @zdq)) ∧ ((type_of% @zfc) ∧ (type_of% @zfd)))))) ∧ (((((type_of% @zsj) ∧ ((type_of% @zii) ∧ (type_of% @zij))) ∧ (((type_of% @zik) ∧ (type_of% @zil)) ∧ ((type_of% @ji4) ∧ (type_of% @ji5)))) ∧ (((type_of% @jmo) ∧ ((type_of% @zex) ∧ (type_of% @zey))) ∧ (((type_of% @zfa) ∧ (type_of% @ze7)) ∧ ((type_of% @zfe) ∧ (type_of% @zff))))) ∧ ((((type_of% @zh1) ∧ ((type_of% @zh2) ∧ (type_of% @zgw))) ∧ (((type_of% @zgx) ∧ (type_of% @zst)) ∧ ((type_of% @zim) ∧ (type_of% @zin)))) ∧ (((type_of% @zio) ∧ ((type_of% @ziq) ∧ (type_of% @zit))) ∧ (((type_of% @zkv) ∧ (type_of% @zku)) ∧ ((type_of% @zhq) ∧ (type_of% @zhr))))))) := ⟨⟨⟨⟨⟨@zds, ⟨@zdt, @zyy⟩⟩, ⟨⟨@zyz, @zy0⟩, ⟨@zh0, @zhz⟩⟩⟩, ⟨⟨@zcr, ⟨@zcs, @ze4⟩⟩, ⟨⟨@ze5, @ze6⟩, ⟨@zfq, @zfr⟩⟩⟩⟩, ⟨⟨⟨@zfs, ⟨@zft, @zlz⟩⟩, ⟨⟨@zl0, @zc6⟩, ⟨@zc7, @zgu⟩⟩⟩, ⟨⟨@zgv, ⟨@zde, @zdf⟩⟩, ⟨⟨@zdg, @zdq⟩, ⟨@zfc, @zfd⟩⟩⟩⟩⟩, ⟨⟨⟨⟨@zsj, ⟨@zii, @zij⟩⟩, ⟨⟨@zik, @zil⟩, ⟨@ji4, @ji5⟩⟩⟩, ⟨⟨@jmo, ⟨@zex, @zey⟩⟩, ⟨⟨@zfa, @ze7⟩, ⟨@zfe, @zff⟩⟩⟩⟩, ⟨⟨⟨@zh1, ⟨@zh2, @zgw⟩⟩, ⟨⟨@zgx, @zst⟩, ⟨@zim, @zin⟩⟩⟩, ⟨⟨@zio, ⟨@ziq, @zit⟩⟩, ⟨⟨@zkv, @zku⟩, ⟨@zhq, @zhr⟩⟩⟩⟩⟩⟩
theorem zq1 {α : Type} [Inhabited α] {f : α → List D} {w : Nat} (hw : ∀ a, (f a).length = w) {x : D} {y : α} {j : Nat} (hj : j < w) : ∀ {l : List α} {k : Nat}, k < l.length → f y = (f (nth l k)).set j x → (l.flatMap f).set (k * w + j) x = (l.set k y).flatMap f
 | [], k, hk, _ => by simp at hk
 | a :: l, 0, _, hy => by
  have hy' : f y = (f a).set j x := hy
  simp only [List.flatMap_cons, List.set_cons_zero, Nat.zero_mul, Nat.zero_add]
  rw [List.set_append_left _ _ (by rw [hw]; exact hj), hy']
 | a :: l, k + 1, hk, hy => by
  have ih := zq1 hw hj (l := l) (k := k) (by simpa using hk) hy
  simp only [List.flatMap_cons, List.set_cons_succ]
  rw [List.set_append_right _ _ (by rw [hw, Nat.succ_mul]; omega), ← ih, hw]
  congr 2
  rw [Nat.succ_mul]; omega
structure NetQ (m : Nat) (n : Net) : Prop where
 i1 : 1 ≤ n.ins.length
 i2 : n.ins.length ≤ 9
 g1 : n.gates.length ≤ m
 g2 : GatesOk (2 + n.ins.length) n.gates
 d0 : n.out.length = n.drive.length
 d1 : n.drive.length ≤ 9
 d2 : DriveOk (2 + n.ins.length + n.gates.length) n.drive
 d3 : 1 ≤ n.drive.length
theorem NetOk.q {n : Net} (h : NetOk n) : NetQ 60 n := ⟨h.i1, h.i2, h.g1, h.g2, h.d0, h.d1, h.d2, h.d3⟩
structure Chg (m : Nat) (a b : Net) : Prop where
 q : NetQ (m + 18) b
 ins : b.ins = a.ins
 out : b.out = a.out
 dl : b.drive.length = a.drive.length
 gv : (∀ g ∈ a.gates, GateV g) → ∀ g ∈ b.gates, GateV g
theorem jer {m : Nat} {l : List Gate} {k : Nat} {g : Gate} (h : GatesOk m l) (hk : k < l.length) (hg : GateOk (m + k) g) : GatesOk m (l.set k g) := fun q hq => by
 rw [List.length_set] at hq
 by_cases e : k = q
 ·subst e; rw [zg3 hk]; exact hg
 ·rw [zfz e]; exact h q hq
theorem jes {m : Nat} {l : List Int} {k : Nat} {d : Int} (h : DriveOk m l) (h0 : 0 ≤ d) (h1 : d < m) : DriveOk m (l.set k d) := fun q hq => by
 rw [List.length_set] at hq
 by_cases e : k = q
 ·subst e; rw [zg3 hq]; exact ⟨h0, h1⟩
 ·rw [zfz e]; exact h q hq
theorem DriveOk.up {m k : Nat} {l : List Int} (h : DriveOk m l) (hk : m ≤ k) : DriveOk k l := fun q hq => by have := h q hq; omega
theorem zye {m k : Nat} {n : Net} {l : List Gate} {dr : List Int} {g : Gate} (h : Chg m n ⟨n.ins, l, n.out, dr⟩) (hk : k < l.length) (hg : GateOk (2 + n.ins.length + k) g) (hv : GateV (nth l k) → GateV g) : Chg m n ⟨n.ins, l.set k g, n.out, dr⟩ := by
 have hl : (l.set k g).length = l.length := List.length_set
 exact ⟨⟨h.q.i1, h.q.i2, by simp only [hl]; exact h.q.g1, jer h.q.g2 hk hg, h.q.d0, h.q.d1, by simp only [hl]; exact h.q.d2, h.q.d3⟩, rfl, rfl, h.dl, fun ha x hx => by
  rcases List.mem_or_eq_of_mem_set hx with hx | hx
  ·exact h.gv ha x hx
  ·rw [hx]; exact hv (h.gv ha _ (zb3 hk))⟩
theorem ztb {m k : Nat} {n : Net} {l : List Gate} {dr : List Int} {d : Int} (h : Chg m n ⟨n.ins, l, n.out, dr⟩) (h0 : 0 ≤ d) (h1 : d < (2 + n.ins.length + l.length : Nat)) : Chg m n ⟨n.ins, l, n.out, dr.set k d⟩ := by
 have hl : (dr.set k d).length = dr.length := List.length_set
 exact ⟨⟨h.q.i1, h.q.i2, h.q.g1, h.q.g2, by simp only [hl]; exact h.q.d0, by simp only [hl]; exact h.q.d1, jes h.q.d2 h0 h1, by simp only [hl]; exact h.q.d3⟩, rfl, rfl, by simp only [hl]; exact h.dl, h.gv⟩
theorem jl1 {m : Nat} {n : Net} {l gs : List Gate} {dr : List Int} (h : Chg m n ⟨n.ins, l, n.out, dr⟩) (hl : l.length + gs.length ≤ m + 18) (hg : GatesOk (2 + n.ins.length + l.length) gs) (hv : ∀ g ∈ gs, GateV g) : Chg m n ⟨n.ins, l ++ gs, n.out, dr⟩ :=
 ⟨⟨h.q.i1, h.q.i2, by simp only [List.length_append]; exact hl, h.q.g2.app hg, h.q.d0, h.q.d1, h.q.d2.up (by simp only [List.length_append]; omega), h.q.d3⟩, rfl, rfl, h.dl, fun ha x hx => (List.mem_append.1 hx).elim (h.gv ha x) (hv x)⟩
theorem op4 (x : Nat) (o : Int) : x = 0 ∨ (0 < x ∧ o < 2) ∨ (0 < x ∧ 4 < o) ∨ (0 < x ∧ 2 ≤ o ∧ o ≤ 4) := by omega
theorem jet {m : Nat} {d : Int} (h0 : 0 ≤ d) (h1 : d < m) : GateOk m ⟨1, d, 0, 0, 0⟩ := ⟨show (1 : Int) ≤ 1 by decide, show (1 : Int) ≤ 7 by decide, h0, h1, show (0 : Int) ≤ 0 by decide, by simp only; omega, show (0 : Int) ≤ 0 by decide, by simp only; omega, show (0 : Int) ≤ 0 by decide, show (0 : Int) < 1000000 by decide⟩
theorem jg5 {m : Nat} {d : Int} (h0 : 0 ≤ d) (h1 : d < m) : GatesOk m [⟨1, d, 0, 0, 0⟩, ⟨1, m, 0, 0, 0⟩] := fun k hk => by
 match k, hk with
 | 0, _ => exact jet h0 h1
 | 1, _ => exact jet (by omega) (by omega)
theorem jtk {l : List Gate} {k : Nat} {v : Int} (hk : k < l.length) : (l.flatMap zap).set (k * 5 + 1) (.val (.int .i64 v)) = (l.set k ⟨(nth l k).op, v, (nth l k).b, (nth l k).c, (nth l k).n⟩).flatMap zap := zq1 zaw (by decide) hk rfl
theorem jtl {l : List Gate} {k : Nat} {v : Int} (hk : k < l.length) : (l.flatMap zap).set (k * 5) (.val (.int .i64 v)) = (l.set k ⟨v, (nth l k).a, (nth l k).b, (nth l k).c, (nth l k).n⟩).flatMap zap := zq1 (j := 0) zaw (by decide) hk rfl
theorem juj (l : List Gate) (g : Gate) : l.flatMap zap ++ [.val (.int .i64 g.op)] ++ [.val (.int .i64 g.a)] ++ [.val (.int .i64 g.b)] ++ [.val (.int .i64 g.c)] ++ [.val (.int .i64 g.n)] = (l ++ [g]).flatMap zap := by simp [zap, iD]
def chH (n : Net) (ks : List Nat) (l : List Gate) (dr : List Int) : zar := [.cells (avs (zax n)), .cells (avs (ks.map u8D)), .cells [.d (.val (.slice none 0 0)), .d (.val (.slice none 0 0)), .d (.val (.slice none 0 0)), .d (.val (.slice none 0 0))], .cells [.d (zae n.ins), .os 5 4 0 l.length, .d (zae n.out), .os 1 5 0 dr.length], .cells (avs (l.flatMap zap)), .cells (avs (dr.map iD))]
theorem jeu (m : Nat) (n : Net) (hn : NetQ m n) (hm : m ≤ 200) (ho : n.out.length ≤ 100) (k0 k1 k2 k3 : Nat) (h0 : k0 < 256) (h1 : k1 < 256) (h2 : k2 < 256) : RCalls Try.prog 9 [zas n, .agg [u8D k0, u8D k1, u8D k2, u8D k3]] (fun r => ∃ b, Chg m n b ∧ r = .d (zas b)) := by
 have hi1 := hn.i1
 have hi9 := hn.i2
 have hg1 := hn.g1
 have hd9 := hn.d1
 have hd3 := hn.d3
 have hC0 : Chg m n ⟨n.ins, n.gates, n.out, n.drive⟩ := ⟨⟨hn.i1, hn.i2, by have := hn.g1; simp only; omega, hn.g2, hn.d0, hn.d1, hn.d2, hn.d3⟩, rfl, rfl, rfl, fun h => h⟩
 have hkw : IntKind.i64.wrap (k1 : Int) = k1 := zty (by omega) (by omega)
 have hkw2 : IntKind.i64.wrap (k2 : Int) = k2 := zty (by omega) (by omega)
 refine zd4 (fn := Try.f9) (by kernel_rfl) Try.func9 rfl (Nat.le_of_ble_eq_true rfl) fun c hc hp => ?_
 refine zbf (τ' := frL [(0, .d (zas n)), (1, .d (.agg [u8D k0, u8D k1, u8D k2, u8D k3]))]) (by repeat (first | exact zak _ | refine zah ?_ (by first | rfl | (simp [r_f, zaa, zab]; done) | simp [r_f, zaa, zab, *]))) ?_
 refine zac hp zaj hc rfl fun K1 hK1 => ?_
 simp -dsimp -implicitDefEqProofs (disch := first | assumption | omega | (simp only [r_z, zaa, zab] <;> omega) | decide) only [r_r, ↓reduceIte, Nat.reduceEqDiff, Nat.reduceAdd, D.fix, Int.reduceToNat, Nat.reduceMul, Nat.reduceBNe, Nat.reduceBEq, zas, zax, zae, zaf, u8D, zes]
 refine hK1 _ _ ?_
 refine zbn zaj hc mixed rfl (q := 5) (by kernel_rfl) (by kernel_rfl) fun K2 hK2 => ?_
 simp -dsimp -implicitDefEqProofs (disch := first | assumption | omega | (simp only [r_z, zaa, zab] <;> omega) | decide) only [r_r, ↓reduceIte, Nat.reduceEqDiff, Nat.reduceAdd, D.fix, Int.reduceToNat, Nat.reduceMul, Nat.reduceBNe, Nat.reduceBEq, zas, zax, zae, zaf, u8D, List.filterMap_cons, List.filterMap_nil, zes]
 refine hK2 _ _ ?_
 refine zb2 hp (τ' := frL [(2, .op 0 0), (3, .op 1 0), (4, .op 2 0), (5, .op 3 0)]) (H' := chH n [k0, k1, k2, k3] n.gates n.drive) ?_ ?_
 ·refine Rt.trans (Rt.gc (keep := [0,1,2,7,4,6]) (by decide) (by decide) (by simp [fzH, gcH])) ?_
  refine Rt.end (by repeat (first | exact zak _ | refine zah ?_ (by first | rfl | (simp [r_f, zaa, zab]; done) | simp [r_f, zaa, zab, *]))) ?_
  first | rfl | (simp only [r_g, Nat.reduceAdd, ↓reduceIte, Nat.reduceEqDiff, zas, zax, zae, zaf, u8D]; first | done | rfl)
 unfold chH
 simp only [List.map_cons, List.map_nil]
 refine zac hp zaj hc rfl fun K3 hK3 => ?_
 simp -dsimp -implicitDefEqProofs (disch := first | assumption | omega | (simp only [r_z, zaa, zab] <;> omega) | decide) only [r_r, ↓reduceIte, Nat.reduceEqDiff, Nat.reduceAdd, D.fix, Int.reduceToNat, Nat.reduceMul, Nat.reduceBNe, Nat.reduceBEq, zas, zax, zae, zaf, u8D, zes]
 refine hK3 _ _ ?_
 refine zam fun K4 hK4 => ?_
 have hJ4 : ∀ τ' H', (∃ τ1 H1, ∃ (l : List Gate) (dr : List Int), (Chg m n ⟨n.ins, l, n.out, dr⟩) ∧ H1 = chH n [k0, k1, k2, k3] l dr ∧ τ1 = frL [(4, .op 2 0), (5, .op 3 0)] ∧ Rt [] τ' H' τ1 H1) → K4 τ' H' := by
  rintro τ' H' ⟨_, _, l, dr, hC, rfl, rfl, hrt⟩
  refine hK4 _ _ (zb2 hp hrt ?_)
  clear hrt
  unfold chH
  simp only [List.map_cons, List.map_nil]
  refine zac hp zaj hc rfl fun K5 hK5 => ?_
  simp -dsimp -implicitDefEqProofs (disch := first | assumption | omega | (simp only [r_z, zaa, zab] <;> omega) | decide) only [r_r, ↓reduceIte, Nat.reduceEqDiff, Nat.reduceAdd, D.fix, Int.reduceToNat, Nat.reduceMul, Nat.reduceBNe, Nat.reduceBEq, zas, zax, zae, zaf, u8D, zes]
  refine hK5 _ _ ?_
  refine za4 ?_
  try dsimp only [zjj, zc3]
  refine zdo rfl ?_
  simp -dsimp -implicitDefEqProofs (disch := first | assumption | omega | (simp only [r_z, zaa, zab] <;> omega) | decide) only [r_r, ↓reduceIte, Nat.reduceEqDiff, Nat.reduceAdd, D.fix, Int.reduceToNat, Nat.reduceMul, Nat.reduceBNe, Nat.reduceBEq, zas, zax, zae, zaf, u8D, zds, zdt]
  show ∃ r, closeA _ _ = some r ∧ _
  simp (disch := first | assumption | omega | (simp only [r_z, zaa, zab] <;> omega) | decide) only [r_c, Nat.reduceAdd, D.fix, ↓reduceIte, Nat.reduceEqDiff, zas, zax, zae, zaf, u8D, zjh]
  exact ⟨_, rfl, _, hC, rfl⟩
 refine zac hp zaj hc rfl fun K6 hK6 => ?_
 simp -dsimp -implicitDefEqProofs (disch := first | assumption | omega | (simp only [r_z, zaa, zab] <;> omega) | decide) only [r_r, ↓reduceIte, Nat.reduceEqDiff, Nat.reduceAdd, D.fix, Int.reduceToNat, Nat.reduceMul, Nat.reduceBNe, Nat.reduceBEq, zas, zax, zae, zaf, u8D, zes]
 refine hK6 _ _ ?_
 refine zaz ?_
 refine zac hp zaj hc rfl fun K7 hK7 => ?_
 simp -dsimp -implicitDefEqProofs (disch := first | assumption | omega | (simp only [r_z, zaa, zab] <;> omega) | decide) only [r_r, ↓reduceIte, Nat.reduceEqDiff, Nat.reduceAdd, D.fix, Int.reduceToNat, Nat.reduceMul, Nat.reduceBNe, Nat.reduceBEq, zas, zax, zae, zaf, u8D, zes]
 refine hK7 _ _ ?_
 refine zaq rfl (fun ht => ?_) (fun ht => ?_)
 ·refine zac hp zaj hc rfl fun K8 hK8 => ?_
  simp -dsimp -implicitDefEqProofs (disch := first | assumption | omega | (simp only [r_z, zaa, zab] <;> omega) | decide) only [r_r, ↓reduceIte, Nat.reduceEqDiff, Nat.reduceAdd, D.fix, Int.reduceToNat, Nat.reduceMul, Nat.reduceBNe, Nat.reduceBEq, zas, zax, zae, zaf, u8D, zes]
  refine hK8 _ _ ?_
  refine zaq rfl (fun ht => ?_) (fun ht => ?_)
  ·have hgl : 0 < n.gates.length := by simp at ht; omega
   obtain ⟨kn, hkn⟩ : ∃ kn, kn = k1 % n.gates.length := ⟨_, rfl⟩
   have hkl : kn < n.gates.length := by rw [hkn]; exact Nat.mod_lt _ hgl
   have hkm : (k1 : Int) % (n.gates.length : Int) = (kn : Int) := by rw [hkn]; push_cast; rfl
   obtain ⟨am, ham⟩ : ∃ am, am = k2 % (2 + n.ins.length + kn) := ⟨_, rfl⟩
   have hal : am < 2 + n.ins.length + kn := by rw [ham]; exact Nat.mod_lt _ (by omega)
   have hamz : (k2 : Int) % (2 + (n.ins.length : Int) + (kn : Int)) = (am : Int) := by rw [ham]; push_cast; rfl
   have hgk := hn.g2 kn hkl
   refine zac hp zaj hc rfl fun K9 hK9 => ?_
   simp -dsimp -implicitDefEqProofs (disch := first | assumption | omega | (simp only [r_z, zaa, zab] <;> omega) | decide) only [r_r, ↓reduceIte, Nat.reduceEqDiff, Nat.reduceAdd, D.fix, Int.reduceToNat, Nat.reduceMul, Nat.reduceBNe, Nat.reduceBEq, zas, zax, zae, zaf, u8D, hkm, zes]
   refine hK9 _ _ ?_
   refine zrv zaj hc mixed rfl (q := 0) (by kernel_rfl) (by kernel_rfl) fun K10 hK10 => ?_
   simp -dsimp -implicitDefEqProofs (disch := first | assumption | omega | (simp only [r_z, zaa, zab] <;> omega) | decide) only [r_r, ↓reduceIte, Nat.reduceEqDiff, Nat.reduceAdd, D.fix, Int.reduceToNat, Nat.reduceMul, Nat.reduceBNe, Nat.reduceBEq, zas, zax, zae, zaf, u8D, hamz, zes]
   refine hK10 _ _ (hJ4 _ _ ⟨_, _, n.gates.set kn ⟨(nth n.gates kn).op, am, (nth n.gates kn).b, (nth n.gates kn).c, (nth n.gates kn).n⟩, n.drive, zye hC0 hkl ⟨hgk.o1, hgk.o2, by simp only; omega, by simp only; omega, hgk.b0, hgk.b1, hgk.c0, hgk.c1, hgk.n0, hgk.n1⟩ (fun h => ⟨h.c, h.b, h.n, h.m⟩), rfl, rfl, ?_⟩)
   refine Rt.trans (Rt.gc (keep := [0,1,2,3,4,5]) (by decide) (by decide) (by simp [fzH, gcH])) ?_
   refine Rt.end (by repeat (first | exact zak _ | refine zah ?_ (by first | rfl | (simp [r_f, zaa, zab]; done) | simp [r_f, zaa, zab, *]))) ?_
   simp only [r_g, Nat.reduceAdd, ↓reduceIte, Nat.reduceEqDiff, zas, zax, zae, zaf, u8D]; unfold chH; simp only [List.length_set, jtk hkl]; rfl
  ·refine zay (hJ4 _ _ ⟨_, _, n.gates, n.drive, hC0, rfl, rfl, ?_⟩)
   refine Rt.trans (Rt.gc (keep := [0,1,2,3,4,5]) (by decide) (by decide) (by simp [fzH, gcH])) ?_
   refine Rt.end (by repeat (first | exact zak _ | refine zah ?_ (by first | rfl | (simp [r_f, zaa, zab]; done) | simp [r_f, zaa, zab, *]))) ?_
   first | rfl | (simp only [r_g, Nat.reduceAdd, ↓reduceIte, Nat.reduceEqDiff, zas, zax, zae, zaf, u8D]; first | done | rfl)
 ·refine zac hp zaj hc rfl fun K11 hK11 => ?_
  simp -dsimp -implicitDefEqProofs (disch := first | assumption | omega | (simp only [r_z, zaa, zab] <;> omega) | decide) only [r_r, ↓reduceIte, Nat.reduceEqDiff, Nat.reduceAdd, D.fix, Int.reduceToNat, Nat.reduceMul, Nat.reduceBNe, Nat.reduceBEq, zas, zax, zae, zaf, u8D, zes]
  refine hK11 _ _ ?_
  refine zaq rfl (fun ht => ?_) (fun ht => ?_)
  ·refine zac hp zaj hc rfl fun K12 hK12 => ?_
   simp -dsimp -implicitDefEqProofs (disch := first | assumption | omega | (simp only [r_z, zaa, zab] <;> omega) | decide) only [r_r, ↓reduceIte, Nat.reduceEqDiff, Nat.reduceAdd, D.fix, Int.reduceToNat, Nat.reduceMul, Nat.reduceBNe, Nat.reduceBEq, zas, zax, zae, zaf, u8D, zes]
   refine hK12 _ _ ?_
   refine zaq rfl (fun ht => ?_) (fun ht => ?_)
   ·have hgl : 0 < n.drive.length := by omega
    obtain ⟨kn, hkn⟩ : ∃ kn, kn = k1 % n.drive.length := ⟨_, rfl⟩
    have hkl : kn < n.drive.length := by rw [hkn]; exact Nat.mod_lt _ hgl
    have hkm : (k1 : Int) % (n.drive.length : Int) = (kn : Int) := by rw [hkn]; push_cast; rfl
    obtain ⟨am, ham⟩ : ∃ am, am = k2 % (2 + n.ins.length + n.gates.length) := ⟨_, rfl⟩
    have hal : am < 2 + n.ins.length + n.gates.length := by rw [ham]; exact Nat.mod_lt _ (by omega)
    have hamz : (k2 : Int) % (2 + (n.ins.length : Int) + (n.gates.length : Int)) = (am : Int) := by rw [ham]; push_cast; rfl
    refine zrv zaj hc mixed rfl (q := 0) (by kernel_rfl) (by kernel_rfl) fun K13 hK13 => ?_
    simp -dsimp -implicitDefEqProofs (disch := first | assumption | omega | (simp only [r_z, zaa, zab] <;> omega) | decide) only [r_r, ↓reduceIte, Nat.reduceEqDiff, Nat.reduceAdd, D.fix, Int.reduceToNat, Nat.reduceMul, Nat.reduceBNe, Nat.reduceBEq, zas, zax, zae, zaf, u8D, hkm, hamz, zes]
    refine zb4 (zqw n (by omega) (by omega)) rfl ?_
    simp -dsimp -implicitDefEqProofs (disch := first | assumption | omega | (simp only [r_z, zaa, zab] <;> omega) | decide) only [r_r, ↓reduceIte, Nat.reduceEqDiff, Nat.reduceAdd, D.fix, Int.reduceToNat, Nat.reduceMul, Nat.reduceBNe, Nat.reduceBEq, zas, zax, zae, zaf, u8D, hkm, hamz, zes]
    refine hK13 _ _ (hJ4 _ _ ⟨_, _, n.gates, n.drive.set kn am, ztb hC0 (by omega) (by omega), rfl, rfl, ?_⟩)
    refine Rt.trans (Rt.gc (keep := [0,1,2,3,4,5]) (by decide) (by decide) (by simp [fzH, gcH])) ?_
    refine Rt.end (by repeat (first | exact zak _ | refine zah ?_ (by first | rfl | (simp [r_f, zaa, zab]; done) | simp [r_f, zaa, zab, *]))) ?_
    simp only [r_g, Nat.reduceAdd, ↓reduceIte, Nat.reduceEqDiff, zas, zax, zae, zaf, u8D]; unfold chH; simp only [List.length_set]; rfl
   ·refine zay (hJ4 _ _ ⟨_, _, n.gates, n.drive, hC0, rfl, rfl, ?_⟩)
    refine Rt.trans (Rt.gc (keep := [0,1,2,3,4,5]) (by decide) (by decide) (by simp [fzH, gcH])) ?_
    refine Rt.end (by repeat (first | exact zak _ | refine zah ?_ (by first | rfl | (simp [r_f, zaa, zab]; done) | simp [r_f, zaa, zab, *]))) ?_
    first | rfl | (simp only [r_g, Nat.reduceAdd, ↓reduceIte, Nat.reduceEqDiff, zas, zax, zae, zaf, u8D]; first | done | rfl)
  ·refine zac hp zaj hc rfl fun K14 hK14 => ?_
   simp -dsimp -implicitDefEqProofs (disch := first | assumption | omega | (simp only [r_z, zaa, zab] <;> omega) | decide) only [r_r, ↓reduceIte, Nat.reduceEqDiff, Nat.reduceAdd, D.fix, Int.reduceToNat, Nat.reduceMul, Nat.reduceBNe, Nat.reduceBEq, zas, zax, zae, zaf, u8D, zes]
   refine hK14 _ _ ?_
   refine zaq rfl (fun ht => ?_) (fun ht => ?_)
   ·refine zbn zaj hc mixed rfl (q := 0) (by kernel_rfl) (by kernel_rfl) fun K15 hK15 => ?_
    rcases op4 n.gates.length (nth n.gates (k1 % n.gates.length)).op with q | ⟨q, q'⟩ | ⟨q, q'⟩ | ⟨q, q', q''⟩
    ·have q1 : decide ((0 : Int) < n.gates.length) = false := decide_eq_false (by omega)
     have q2 := q1
     have q3 := q1
     have q4 := q1
     simp -dsimp -implicitDefEqProofs (disch := first | assumption | omega | (simp only [r_z, zaa, zab] <;> omega) | decide) only [r_r, ↓reduceIte, Nat.reduceEqDiff, Nat.reduceAdd, D.fix, Int.reduceToNat, Nat.reduceMul, Nat.reduceBNe, Nat.reduceBEq, zas, zax, zae, zaf, u8D, q1, q2, q3, q4, zxv, zes]
     refine hK15 _ _ ?_
     refine zaq rfl (fun ht => ?_) (fun ht => ?_)
     ·cases ht
     ·refine zay (hJ4 _ _ ⟨_, _, n.gates, n.drive, hC0, rfl, rfl, ?_⟩)
      refine Rt.trans (Rt.gc (keep := [0,1,2,3,4,5]) (by decide) (by decide) (by simp [fzH, gcH])) ?_
      refine Rt.end (by repeat (first | exact zak _ | refine zah ?_ (by first | rfl | (simp [r_f, zaa, zab]; done) | simp [r_f, zaa, zab, *]))) ?_
      first | rfl | (simp only [r_g, Nat.reduceAdd, ↓reduceIte, Nat.reduceEqDiff, zas, zax, zae, zaf, u8D]; first | done | rfl)
    ·obtain ⟨kn, hkn⟩ : ∃ kn, kn = k1 % n.gates.length := ⟨_, rfl⟩
     have hkl : kn < n.gates.length := by rw [hkn]; exact Nat.mod_lt _ q
     have q4 : (k1 : Int) % (n.gates.length : Int) = (kn : Int) := by rw [hkn]; push_cast; rfl
     rw [← hkn] at q'
     have q1 : decide ((0 : Int) < n.gates.length) = true := decide_eq_true (by omega)
     have q2 : decide (2 ≤ (nth n.gates kn).op) = false := decide_eq_false (by omega)
     have q3 := q1
     simp -dsimp -implicitDefEqProofs (disch := first | assumption | omega | (simp only [r_z, zaa, zab] <;> omega) | decide) only [r_r, ↓reduceIte, Nat.reduceEqDiff, Nat.reduceAdd, D.fix, Int.reduceToNat, Nat.reduceMul, Nat.reduceBNe, Nat.reduceBEq, zas, zax, zae, zaf, u8D, q1, q2, q3, q4, zxv, zes]
     refine hK15 _ _ ?_
     refine zaq rfl (fun ht => ?_) (fun ht => ?_)
     ·cases ht
     ·refine zay (hJ4 _ _ ⟨_, _, n.gates, n.drive, hC0, rfl, rfl, ?_⟩)
      refine Rt.trans (Rt.gc (keep := [0,1,2,3,4,5]) (by decide) (by decide) (by simp [fzH, gcH])) ?_
      refine Rt.end (by repeat (first | exact zak _ | refine zah ?_ (by first | rfl | (simp [r_f, zaa, zab]; done) | simp [r_f, zaa, zab, *]))) ?_
      first | rfl | (simp only [r_g, Nat.reduceAdd, ↓reduceIte, Nat.reduceEqDiff, zas, zax, zae, zaf, u8D]; first | done | rfl)
    ·obtain ⟨kn, hkn⟩ : ∃ kn, kn = k1 % n.gates.length := ⟨_, rfl⟩
     have hkl : kn < n.gates.length := by rw [hkn]; exact Nat.mod_lt _ q
     have q4 : (k1 : Int) % (n.gates.length : Int) = (kn : Int) := by rw [hkn]; push_cast; rfl
     rw [← hkn] at q'
     have q1 : decide ((0 : Int) < n.gates.length) = true := decide_eq_true (by omega)
     have q2 : decide (2 ≤ (nth n.gates kn).op) = true := decide_eq_true (by omega)
     have q3 : decide ((nth n.gates kn).op ≤ 4) = false := decide_eq_false (by omega)
     simp -dsimp -implicitDefEqProofs (disch := first | assumption | omega | (simp only [r_z, zaa, zab] <;> omega) | decide) only [r_r, ↓reduceIte, Nat.reduceEqDiff, Nat.reduceAdd, D.fix, Int.reduceToNat, Nat.reduceMul, Nat.reduceBNe, Nat.reduceBEq, zas, zax, zae, zaf, u8D, q1, q2, q3, q4, zxv, zes]
     refine hK15 _ _ ?_
     refine zaq rfl (fun ht => ?_) (fun ht => ?_)
     ·cases ht
     ·refine zay (hJ4 _ _ ⟨_, _, n.gates, n.drive, hC0, rfl, rfl, ?_⟩)
      refine Rt.trans (Rt.gc (keep := [0,1,2,3,4,5]) (by decide) (by decide) (by simp [fzH, gcH])) ?_
      refine Rt.end (by repeat (first | exact zak _ | refine zah ?_ (by first | rfl | (simp [r_f, zaa, zab]; done) | simp [r_f, zaa, zab, *]))) ?_
      first | rfl | (simp only [r_g, Nat.reduceAdd, ↓reduceIte, Nat.reduceEqDiff, zas, zax, zae, zaf, u8D]; first | done | rfl)
    ·obtain ⟨kn, hkn⟩ : ∃ kn, kn = k1 % n.gates.length := ⟨_, rfl⟩
     have hkl : kn < n.gates.length := by rw [hkn]; exact Nat.mod_lt _ q
     have q4 : (k1 : Int) % (n.gates.length : Int) = (kn : Int) := by rw [hkn]; push_cast; rfl
     rw [← hkn] at q' q''
     have q1 : decide ((0 : Int) < n.gates.length) = true := decide_eq_true (by omega)
     have q2 : decide (2 ≤ (nth n.gates kn).op) = true := decide_eq_true (by omega)
     have q3 : decide ((nth n.gates kn).op ≤ 4) = true := decide_eq_true (by omega)
     have hgk := hn.g2 kn hkl
     have hm3 : 0 ≤ (k2 : Int) % 3 ∧ (k2 : Int) % 3 < 3 := by omega
     simp -dsimp -implicitDefEqProofs (disch := first | assumption | omega | (simp only [r_z, zaa, zab] <;> omega) | decide) only [r_r, ↓reduceIte, Nat.reduceEqDiff, Nat.reduceAdd, D.fix, Int.reduceToNat, Nat.reduceMul, Nat.reduceBNe, Nat.reduceBEq, zas, zax, zae, zaf, u8D, q1, q2, q3, q4, zxv, zes]
     refine hK15 _ _ ?_
     refine zaq rfl (fun ht => ?_) (fun ht => ?_)
     ·refine zrv zaj hc mixed rfl (q := 0) (by kernel_rfl) (by kernel_rfl) fun K16 hK16 => ?_
      simp -dsimp -implicitDefEqProofs (disch := first | assumption | omega | (simp only [r_z, zaa, zab] <;> omega) | decide) only [r_r, ↓reduceIte, Nat.reduceEqDiff, Nat.reduceAdd, D.fix, Int.reduceToNat, Nat.reduceMul, Nat.reduceBNe, Nat.reduceBEq, zas, zax, zae, zaf, u8D, q4, zes]
      refine hK16 _ _ (hJ4 _ _ ⟨_, _, n.gates.set kn ⟨2 + (k2 : Int) % 3, (nth n.gates kn).a, (nth n.gates kn).b, (nth n.gates kn).c, (nth n.gates kn).n⟩, n.drive, zye hC0 hkl ⟨by simp only; omega, by simp only; omega, hgk.a0, hgk.a1, hgk.b0, hgk.b1, hgk.c0, hgk.c1, hgk.n0, hgk.n1⟩ (fun h => ⟨fun _ => h.c q'', fun h2 => by simp only at h2; omega, fun _ => h.n (by omega), h.m⟩), rfl, rfl, ?_⟩)
      refine Rt.trans (Rt.gc (keep := [0,1,2,3,4,5]) (by decide) (by decide) (by simp [fzH, gcH])) ?_
      refine Rt.end (by repeat (first | exact zak _ | refine zah ?_ (by first | rfl | (simp [r_f, zaa, zab]; done) | simp [r_f, zaa, zab, *]))) ?_
      simp only [r_g, Nat.reduceAdd, ↓reduceIte, Nat.reduceEqDiff, zas, zax, zae, zaf, u8D]; unfold chH; simp only [List.length_set, jtl hkl]; rfl
     ·cases ht
   ·refine zac hp zaj hc rfl fun K17 hK17 => ?_
    simp -dsimp -implicitDefEqProofs (disch := first | assumption | omega | (simp only [r_z, zaa, zab] <;> omega) | decide) only [r_r, ↓reduceIte, Nat.reduceEqDiff, Nat.reduceAdd, D.fix, Int.reduceToNat, Nat.reduceMul, Nat.reduceBNe, Nat.reduceBEq, zas, zax, zae, zaf, u8D, zes]
    refine hK17 _ _ ?_
    refine zaq rfl (fun ht => ?_) (fun ht => ?_)
    ·refine zac hp zaj hc rfl fun K18 hK18 => ?_
     simp -dsimp -implicitDefEqProofs (disch := first | assumption | omega | (simp only [r_z, zaa, zab] <;> omega) | decide) only [r_r, ↓reduceIte, Nat.reduceEqDiff, Nat.reduceAdd, D.fix, Int.reduceToNat, Nat.reduceMul, Nat.reduceBNe, Nat.reduceBEq, zas, zax, zae, zaf, u8D]
     refine hK18 _ _ ?_
     refine zaz ?_
     refine za7 hp (fun τ' H' mm => ∃ (i : Nat) (l : List Gate) (dr : List Int), (i ≤ n.drive.length ∧ l.length = n.gates.length + 2 * i ∧ Chg m n ⟨n.ins, l, n.out, dr⟩) ∧ mm = n.drive.length - i ∧ H' = chH n [k0, k1, k2, k3] l dr ∧ τ' = frL [(2, .op 0 0), (3, .op 1 0), (4, .op 2 0), (5, .op 3 0), (7, .d (iD i))]) (n.drive.length) ?_ ⟨0, n.gates, n.drive, ⟨Nat.zero_le _, rfl, hC0⟩, rfl, rfl, rfl⟩ ?_
     ·refine Rt.trans (Rt.gc (keep := [0,1,2,3,4,5]) (by decide) (by decide) (by simp [fzH, gcH])) ?_
      refine Rt.end (by repeat (first | exact zak _ | refine zah ?_ (by first | rfl | (simp [r_f, zaa, zab]; done) | simp [r_f, zaa, zab, *]))) ?_
      first | rfl | (simp only [r_g, Nat.reduceAdd, ↓reduceIte, Nat.reduceEqDiff, zas, zax, zae, zaf, u8D]; first | done | rfl)
     rintro τ' H' mm ⟨i, l, dr, ⟨hi2, hll, hC⟩, rfl, rfl, rfl⟩
     have hdl : dr.length = n.drive.length := hC.dl
     unfold chH
     simp only [List.map_cons, List.map_nil]
     refine zam fun K19 hK19 => ?_
     refine zac hp zaj hc rfl fun K20 hK20 => ?_
     simp -dsimp -implicitDefEqProofs (disch := first | assumption | omega | (simp only [r_z, zaa, zab] <;> omega) | decide) only [r_r, ↓reduceIte, Nat.reduceEqDiff, Nat.reduceAdd, D.fix, Int.reduceToNat, Nat.reduceMul, Nat.reduceBNe, Nat.reduceBEq, zas, zax, zae, zaf, u8D, zes]
     refine hK20 _ _ ?_
     refine zaq rfl (fun ht => ?_) (fun ht => ?_)
     ·have hlt : i < dr.length := by simp at ht; omega
      have hdk := hC.q.d2 i hlt
      simp only at hdk
      obtain ⟨l1, hl1d⟩ : ∃ l1, l1 = l ++ [⟨1, nth dr i, 0, 0, 0⟩] := ⟨_, rfl⟩
      have hl1 : l1.length = l.length + 1 := by rw [hl1d]; simp
      have hg1 : l.flatMap zap ++ [.val (.int .i64 1)] ++ [.val (.int .i64 (nth dr i))] ++ [.val (.int .i64 0)] ++ [.val (.int .i64 0)] ++ [.val (.int .i64 0)] = l1.flatMap zap := by rw [hl1d]; exact juj l ⟨1, nth dr i, 0, 0, 0⟩
      obtain ⟨l2, hl2d⟩ : ∃ l2, l2 = l1 ++ [⟨1, 2 + (n.ins.length : Int) + (l1.length : Int) - 1, 0, 0, 0⟩] := ⟨_, rfl⟩
      have hl2 : l2.length = l.length + 1 + 1 := by rw [hl2d]; simp [hl1]
      have hg2 : l1.flatMap zap ++ [.val (.int .i64 1)] ++ [.val (.int .i64 (2 + (n.ins.length : Int) + (l1.length : Int) - 1))] ++ [.val (.int .i64 0)] ++ [.val (.int .i64 0)] ++ [.val (.int .i64 0)] = l2.flatMap zap := by rw [hl2d]; exact juj l1 ⟨1, _, 0, 0, 0⟩
      refine zay (hK19 _ _ ?_)
      refine zam fun K21 hK21 => ?_
      refine zaz ?_
      refine zbn zaj hc mixed rfl (q := 2) (by kernel_rfl) (by kernel_rfl) fun K22 hK22 => ?_
      simp -dsimp -implicitDefEqProofs (disch := first | assumption | omega | (simp only [r_z, zaa, zab] <;> omega) | decide) only [r_r, ↓reduceIte, Nat.reduceEqDiff, Nat.reduceAdd, D.fix, Int.reduceToNat, Nat.reduceMul, Nat.reduceBNe, Nat.reduceBEq, zas, zax, zae, zaf, u8D, zcc, zes]
      refine hK22 _ _ ?_
      refine zbn zaj hc mixed rfl (q := 2) (by kernel_rfl) (by kernel_rfl) fun K23 hK23 => ?_
      simp -dsimp -implicitDefEqProofs (disch := first | assumption | omega | (simp only [r_z, zaa, zab] <;> omega) | decide) only [r_r, ↓reduceIte, Nat.reduceEqDiff, Nat.reduceAdd, D.fix, Int.reduceToNat, Nat.reduceMul, Nat.reduceBNe, Nat.reduceBEq, zas, zax, zae, zaf, u8D, zes]
      refine zfk (zqw ⟨n.ins, l1, n.out, dr⟩ (by simp only; omega) (by simp only; omega)) ?_ ?_
      ·simp (disch := first | assumption | omega | (simp only [r_z, zaa, zab] <;> omega) | decide) only [r_c, Nat.reduceAdd, D.fix, ↓reduceIte, Nat.reduceEqDiff, zas, zax, zae, zaf, u8D, hg1, zjh, hl1]
      simp -dsimp -implicitDefEqProofs (disch := first | assumption | omega | (simp only [r_z, zaa, zab] <;> omega) | decide) only [r_r, ↓reduceIte, Nat.reduceEqDiff, Nat.reduceAdd, D.fix, Int.reduceToNat, Nat.reduceMul, Nat.reduceBNe, Nat.reduceBEq, zas, zax, zae, zaf, u8D, zes]
      refine hK23 _ _ ?_
      refine zrv zaj hc mixed rfl (q := 0) (by kernel_rfl) (by kernel_rfl) fun K24 hK24 => ?_
      simp -dsimp -implicitDefEqProofs (disch := first | assumption | omega | (simp only [r_z, zaa, zab] <;> omega) | decide) only [r_r, ↓reduceIte, Nat.reduceEqDiff, Nat.reduceAdd, D.fix, Int.reduceToNat, Nat.reduceMul, Nat.reduceBNe, Nat.reduceBEq, zas, zax, zae, zaf, u8D, zes]
      refine zfk (zqw ⟨n.ins, l2, n.out, dr⟩ (by simp only; omega) (by simp only; omega)) ?_ ?_
      ·simp (disch := first | assumption | omega | (simp only [r_z, zaa, zab] <;> omega) | decide) only [r_c, Nat.reduceAdd, D.fix, ↓reduceIte, Nat.reduceEqDiff, zas, zax, zae, zaf, u8D, hg1, hg2, zjh, hl2]
      simp -dsimp -implicitDefEqProofs (disch := first | assumption | omega | (simp only [r_z, zaa, zab] <;> omega) | decide) only [r_r, ↓reduceIte, Nat.reduceEqDiff, Nat.reduceAdd, D.fix, Int.reduceToNat, Nat.reduceMul, Nat.reduceBNe, Nat.reduceBEq, zas, zax, zae, zaf, u8D, zes]
      refine hK24 _ _ (hK21 _ _ ?_)
      refine zbo hp zaj hc rfl fun K25 hK25 => ?_
      simp -dsimp -implicitDefEqProofs (disch := first | assumption | omega | (simp only [r_z, zaa, zab] <;> omega) | decide) only [r_r, ↓reduceIte, Nat.reduceEqDiff, Nat.reduceAdd, D.fix, Int.reduceToNat, Nat.reduceMul, Nat.reduceBNe, Nat.reduceBEq, zas, zax, zae, zaf, u8D, zes]
      have e2 : l2 = l ++ [⟨1, nth dr i, 0, 0, 0⟩, ⟨1, ((2 + n.ins.length + l.length : Nat) : Int), 0, 0, 0⟩] := by rw [hl2d, hl1d]; simp; omega
      have hC2 : Chg m n ⟨n.ins, l2, n.out, dr⟩ := by rw [e2]; exact jl1 hC (by simp; omega) (jg5 hdk.1 (by omega)) (fun g hg => by simp only [List.mem_cons, List.not_mem_nil, or_false] at hg; rcases hg with rfl | rfl <;> exact ⟨fun _ => rfl, fun _ => rfl, fun _ => rfl, show (0 : Int) ≤ 63 by decide⟩)
      have hC3 := ztb (k := i) (d := 2 + (n.ins.length : Int) + (l2.length : Int) - 1) hC2 (by omega) (by omega)
      refine hK25 _ _ ⟨_, _, _, ?_, ⟨i + 1, l2, dr.set i (2 + (n.ins.length : Int) + (l2.length : Int) - 1), ⟨by omega, by omega, hC3⟩, rfl, rfl, rfl⟩, ?_⟩
      ·first | omega | (simp only [List.length_cons]; omega) | (dsimp only; omega)
      ·refine Rt.trans (Rt.gc (keep := [0,1,2,3,9,5]) (by decide) (by decide) (by simp [fzH, gcH])) ?_
       refine Rt.end (by repeat (first | exact zak _ | refine zah ?_ (by first | rfl | (simp [r_f, zaa, zab]; done) | simp [r_f, zaa, zab, *]))) ?_
       simp only [r_g, Nat.reduceAdd, ↓reduceIte, Nat.reduceEqDiff, zas, zax, zae, zaf, u8D]; simp only [List.length_set, hg1, hg2, hl2]; rfl
     ·refine zbj (hJ4 _ _ ⟨_, _, l, dr, hC, rfl, rfl, ?_⟩)
      refine Rt.trans (Rt.gc (keep := [0,1,2,3,4,5]) (by decide) (by decide) (by simp [fzH, gcH])) ?_
      refine Rt.end (by repeat (first | exact zak _ | refine zah ?_ (by first | rfl | (simp [r_f, zaa, zab]; done) | simp [r_f, zaa, zab, *]))) ?_
      first | rfl | (simp only [r_g, Nat.reduceAdd, ↓reduceIte, Nat.reduceEqDiff, zas, zax, zae, zaf, u8D]; first | done | rfl)
    ·refine zay (hJ4 _ _ ⟨_, _, n.gates, n.drive, hC0, rfl, rfl, ?_⟩)
     refine Rt.trans (Rt.gc (keep := [0,1,2,3,4,5]) (by decide) (by decide) (by simp [fzH, gcH])) ?_
     refine Rt.end (by repeat (first | exact zak _ | refine zah ?_ (by first | rfl | (simp [r_f, zaa, zab]; done) | simp [r_f, zaa, zab, *]))) ?_
     first | rfl | (simp only [r_g, Nat.reduceAdd, ↓reduceIte, Nat.reduceEqDiff, zas, zax, zae, zaf, u8D]; first | done | rfl)
end Go.Proofs.Ytignimmnnccblaa

/- Small nets; the classes of nodes. -/
set_option linter.unusedVariables false
set_option linter.unusedSimpArgs false
set_option maxRecDepth 100000
set_option maxHeartbeats 4000000
namespace Go.Proofs.Ytignimmnnccblaa
open Go Go.RowKit
theorem zfy : (((((((type_of% @zyw) ∧ (type_of% @zyx)) ∧ ((type_of% @zds) ∧ (type_of% @zdt))) ∧ (((type_of% @zh0) ∧ (type_of% @zhz)) ∧ ((type_of% @zp6) ∧ ((type_of% @zp7) ∧ (type_of% @jfv))))) ∧ ((((type_of% @jfw) ∧ (type_of% @jfx)) ∧ ((type_of% @jfy) ∧ (type_of% @zex))) ∧ (((type_of% @zey) ∧ (type_of% @zp8)) ∧ ((type_of% @zp9) ∧ ((type_of% @jfz) ∧ (type_of% @jf0)))))) ∧ (((((type_of% @jf1) ∧ (type_of% @jf2)) ∧ ((type_of% @zqa) ∧ (type_of% @zqb))) ∧ (((type_of% @jf3) ∧ (type_of% @jf4)) ∧ ((type_of% @jf5) ∧ ((type_of% @jf6) ∧ (type_of% @jpk))))) ∧ ((((type_of% @jcq) ∧ (type_of% @jcr)) ∧ ((type_of% @jcs) ∧ (type_of% @jpj))) ∧ (((type_of% @jpi) ∧ (type_of% @zcr)) ∧ ((type_of% @zcs) ∧ ((type_of% @ze4) ∧ (type_of% @ze5))))))) ∧ ((((((type_of% @ze6) ∧ (type_of% @ze7)) ∧ ((type_of% @zfa) ∧ (type_of% @zc6))) ∧ (((type_of% @zc7) ∧ (type_of% @zfq)) ∧ ((type_of% @zfr) ∧ ((type_of% @zfs) ∧ (type_of% @zft))))) ∧ ((((type_of% @zde) ∧ (type_of% @zdf)) ∧ ((type_of% @zdg) ∧ (type_of% @zdq))) ∧ (((type_of% @zfu) ∧ (type_of% @zfv)) ∧ ((type_of% @zfw) ∧ ((type_of% @zfx) ∧ (type_of% @zlz)))))) ∧ (((((type_of% @zl0) ∧ (type_of% @zhq)) ∧ ((type_of% @zhr) ∧ (type_of% @zeg))) ∧ (((type_of% @zeh) ∧ (type_of% @zju)) ∧ ((type_of% @zjt) ∧ ((type_of% @zko) ∧ (type_of% @zkp))))) ∧ ((((type_of% @zkq) ∧ (type_of% @zou)) ∧ ((type_of% @zov) ∧ ((type_of% @zow) ∧ (type_of% @zox)))) ∧ (((type_of% @zi8) ∧ (type_of% @zi9)) ∧ ((type_of% @zmk) ∧ ((type_of% @zml) ∧ (type_of% @zq4)))))))) := ⟨⟨⟨⟨⟨⟨@zyw, @zyx⟩, ⟨@zds, @zdt⟩⟩, ⟨⟨@zh0, @zhz⟩, ⟨@zp6, ⟨@zp7, @jfv⟩⟩⟩⟩, ⟨⟨⟨@jfw, @jfx⟩, ⟨@jfy, @zex⟩⟩, ⟨⟨@zey, @zp8⟩, ⟨@zp9, ⟨@jfz, @jf0⟩⟩⟩⟩⟩, ⟨⟨⟨⟨@jf1, @jf2⟩, ⟨@zqa, @zqb⟩⟩, ⟨⟨@jf3, @jf4⟩, ⟨@jf5, ⟨@jf6, @jpk⟩⟩⟩⟩, ⟨⟨⟨@jcq, @jcr⟩, ⟨@jcs, @jpj⟩⟩, ⟨⟨@jpi, @zcr⟩, ⟨@zcs, ⟨@ze4, @ze5⟩⟩⟩⟩⟩⟩, ⟨⟨⟨⟨⟨@ze6, @ze7⟩, ⟨@zfa, @zc6⟩⟩, ⟨⟨@zc7, @zfq⟩, ⟨@zfr, ⟨@zfs, @zft⟩⟩⟩⟩, ⟨⟨⟨@zde, @zdf⟩, ⟨@zdg, @zdq⟩⟩, ⟨⟨@zfu, @zfv⟩, ⟨@zfw, ⟨@zfx, @zlz⟩⟩⟩⟩⟩, ⟨⟨⟨⟨@zl0, @zhq⟩, ⟨@zhr, @zeg⟩⟩, ⟨⟨@zeh, @zju⟩, ⟨@zjt, ⟨@zko, @zkp⟩⟩⟩⟩, ⟨⟨⟨@zkq, @zou⟩, ⟨@zov, ⟨@zow, @zox⟩⟩⟩, ⟨⟨@zi8, @zi9⟩, ⟨@zmk, ⟨@zml, @zq4⟩⟩⟩⟩⟩⟩⟩
def jr0 (x : RawN) (a b c : Nat) : RawN := ⟨x.ins.take a, x.gates.take b, x.out.take c⟩
theorem jr1 {x : RawN} (h : RawOk x) (a b c : Nat) : RawOk (jr0 x a b c) := by
 refine ⟨fun k hk => ?_, fun k hk => ?_, fun k hk => ?_⟩ <;> simp only [jr0, List.length_take] at hk ⊢ <;> rw [zei (by omega)]
 ·exact h.ins k (by omega)
 ·exact h.gates k (by omega)
 ·exact h.out k (by omega)
theorem jtm {α : Type} {f : α → List D} {w : Nat} (hw : ∀ a, (f a).length = w) : ∀ (n : Nat) (l : List α), (l.flatMap f).take (n * w) = (l.take n).flatMap f
 | 0, l => by simp
 | n + 1, [] => by simp
 | n + 1, a :: l => by
  have e : (n + 1) * w = (f a).length + n * w := by rw [hw, Nat.succ_mul]; omega
  rw [e]
  simp only [List.flatMap_cons, List.take_succ_cons]
  rw [List.take_length_add_append, jtm hw n l]
theorem jl2 (x : RawN) (hx : RawOk x) (hi : x.ins.length ≤ maxLen) (hg : x.gates.length ≤ maxLen) (ho : x.out.length ≤ maxLen) : RCalls Try.prog 8 [.agg (zch x)] (fun r => ∃ n, NetOk n ∧ r = .d (zas n)) := by
 unfold maxLen at hi hg ho
 have hmc := jrl (jr0 x (min x.ins.length 4) (min x.gates.length 24) (min x.out.length 4)) (jr1 hx _ _ _)
 obtain ⟨u, hu⟩ : ∃ u, u = min x.ins.length 4 := ⟨_, rfl⟩
 obtain ⟨v, hv⟩ : ∃ v, v = min x.gates.length 24 := ⟨_, rfl⟩
 obtain ⟨w, hw⟩ : ∃ w, w = min x.out.length 4 := ⟨_, rfl⟩
 have e1 : min (x.ins.length : Int) 4 = (u : Int) := by omega
 have e2 : min (x.gates.length : Int) 24 = (v : Int) := by omega
 have e3 : min (x.out.length : Int) 4 = (w : Int) := by omega
 rw [← hu, ← hv, ← hw] at hmc
 have hcut : zch (jr0 x u v w) = [.fs (List.take u (x.ins.map bD)) u, .fs (List.take (v * 5) (x.gates.flatMap r5C)) v, .fs (List.take (w * 4) (x.out.flatMap r4C)) w] := by
  unfold zch jr0 bytesD
  rw [jtm jrh, jtm jri]
  simp only [List.map_take, List.length_take]
  rw [Nat.min_eq_left (by omega), Nat.min_eq_left (by omega), Nat.min_eq_left (by omega)]
 rw [hcut] at hmc
 refine zd4 (fn := Try.f8) (by kernel_rfl) Try.func8 rfl (Nat.le_of_ble_eq_true rfl) fun c hc hp => ?_
 refine zbf (τ' := frL [(0, .d (.agg (zch x)))]) (by repeat (first | exact zak _ | refine zah ?_ (by first | rfl | (simp [r_f, zb7, zb8, zaa, zab]; done) | simp [r_f, zb7, zb8, zaa, zab, *]))) ?_
 refine zac hp zaj hc rfl fun K1 hK1 => ?_
 simp -dsimp -implicitDefEqProofs (disch := first | assumption | omega | (simp only [r_z, zb7, zb8, zaa, zab] <;> omega) | decide) only [r_r, ↓reduceIte, Nat.reduceEqDiff, Nat.reduceAdd, D.fix, Int.reduceToNat, Nat.reduceMul, Nat.reduceBNe, Nat.reduceBEq, zch, bytesD, zas, zax, zae, zaf, zfy]
 refine hK1 _ _ ?_
 refine zd5 zaj hp hc mixed rfl [(0, []), (1, []), (2, []), (3, []), (4, []), (5, []), (6, []), (7, []), (8, []), (9, []), (10, []), (11, []), (12, []), (13, []), (14, []), (15, []), (16, []), (17, []), (18, []), (19, []), (20, []), (21, []), (22, []), (23, [])] [[], [0], [], [2], [2, 3], [2, 3, 4], [0, 1, 2, 3, 4, 5], [], [7], [], [9], [9, 10], [9, 10, 11], [7, 8, 9, 10, 11, 12], [], [14], [], [16], [16, 17], [16, 17, 18], [14, 15, 16, 17, 18, 19], [0, 1, 2, 3, 4, 5, 6, 7, 8, 9, 10, 11, 12, 13, 14, 15, 16, 17, 18, 19, 20], [0, 1, 2, 3, 4, 5, 6, 7, 8, 9, 10, 11, 12, 13, 14, 15, 16, 17, 18, 19, 20, 21], [0, 1, 2, 3, 4, 5, 6, 7, 8, 9, 10, 11, 12, 13, 14, 15, 16, 17, 18, 19, 20, 21, 22]] 0 (by kernel_rfl) fun K2 hK2 => ?_
 simp -dsimp -implicitDefEqProofs (disch := first | assumption | omega | (simp only [r_z, zb7, zb8, zaa, zab] <;> omega) | decide) only [r_r, ↓reduceIte, Nat.reduceEqDiff, Nat.reduceAdd, D.fix, Int.reduceToNat, Nat.reduceMul, Nat.reduceBNe, Nat.reduceBEq, r_w, zch, bytesD, zas, zax, zae, zaf, e1, e2, e3, zfy]
 refine jpd (hmc) rfl fun r hr => ?_
 obtain ⟨n, hn, rfl⟩ := hr
 simp -dsimp -implicitDefEqProofs (disch := first | assumption | omega | (simp only [r_z, zb7, zb8, zaa, zab] <;> omega) | decide) only [r_r, ↓reduceIte, Nat.reduceEqDiff, Nat.reduceAdd, D.fix, Int.reduceToNat, Nat.reduceMul, Nat.reduceBNe, Nat.reduceBEq, r_w, zch, bytesD, zas, zax, zae, zaf, e1, e2, e3, zfy]
 refine hK2 _ _ ?_
 refine za4 ?_
 try dsimp only [zjj, zc3]
 refine zdo rfl ?_
 simp -dsimp -implicitDefEqProofs (disch := first | assumption | omega | (simp only [r_z, zb7, zb8, zaa, zab] <;> omega) | decide) only [r_r, ↓reduceIte, Nat.reduceEqDiff, Nat.reduceAdd, D.fix, Int.reduceToNat, Nat.reduceMul, Nat.reduceBNe, Nat.reduceBEq, zch, bytesD, zas, zax, zae, zaf, zds, zdt]
 show ∃ r, closeA _ _ = some r ∧ _
 simp (disch := first | assumption | omega | (simp only [r_z, zb7, zb8, zaa, zab] <;> omega) | decide) only [r_c, Nat.reduceAdd, D.fix, ↓reduceIte, Nat.reduceEqDiff, zch, bytesD, zas, zax, zae, zaf]
 exact ⟨_, rfl, n, hn, rfl⟩
def ziz (f : Nat → Int) (n i : Nat) : List D := (List.range n).map fun j => iD (if j < i then f j else 0)
theorem zbd (f : Nat → Int) (n i : Nat) : (ziz f n i).length = n := by simp [ziz]
theorem jev (f : Nat → Int) (n : Nat) : List.replicate n (iD 0) = ziz f n 0 := by
 refine List.ext_getElem (by simp [ziz]) fun i h1 h2 => ?_
 simp [ziz]
theorem zq2 {f : Nat → Int} {n i : Nat} (h : i < n) : (ziz f n i).set i (iD (f i)) = ziz f n (i + 1) := by
 refine List.ext_getElem (by simp [ziz]) fun j h1 h2 => ?_
 rw [List.getElem_set]
 simp only [ziz, List.getElem_map, List.getElem_range]
 by_cases e : i = j
 ·subst e; rw [if_pos rfl, if_pos (by omega)]
 ·rw [if_neg e]
  by_cases h3 : j < i
  ·rw [if_pos h3, if_pos (by omega)]
  ·rw [if_neg h3, if_neg (by omega)]
theorem jew (f : Nat → Int) (n : Nat) : ziz f n n = (List.range n).map fun j => iD (f j) := by
 refine List.map_congr_left fun j hj => ?_
 rw [if_pos (List.mem_range.1 hj)]
def zzs (rs : List Nat) (r : Nat) : Nat := rs.findIdx fun x => x == r
theorem jr2 {rs : List Nat} {k : Nat} (hk : k < rs.length) (h : ∀ j, j < k → nth rs j ≠ nth rs k) : zzs rs (nth rs k) = k := by
 unfold zzs
 rw [List.findIdx_eq hk]
 refine ⟨by rw [zb9 hk]; simp, fun j hj => ?_⟩
 have := h j hj
 rw [zb9 (by omega)] at this
 simpa using this
structure LsP (rs : List Nat) (k : Nat) (μ : Mp) : Prop where
 ok : OkM Try.prog tI μ
 yes : ∀ j, j < k → zg5 (vi (nth rs j)) μ = some (vi (zzs rs (nth rs j)))
 no : ∀ r, (∀ j, j < k → nth rs j ≠ r) → r ≤ 4000000000 → zg5 (vi r) μ = none
theorem LsP.nil (rs : List Nat) : LsP rs 0 ([], 0) := ⟨OkM.nil _ _, fun j hj => by omega, fun r _ _ => rfl⟩
theorem LsP.same {rs : List Nat} {k : Nat} {μ : Mp} (h : LsP rs k μ) {j : Nat} (hj : j < k) (e : nth rs j = nth rs k) : LsP rs (k + 1) μ :=
 ⟨h.ok, fun q hq => by
  by_cases hqk : q = k
  ·rw [hqk, ← e]; exact h.yes j hj
  ·exact h.yes q (by omega), fun r hr hr4 => h.no r (fun q hq => hr q (by omega)) hr4⟩
theorem LsP.new {rs : List Nat} {k : Nat} {μ : Mp} (h : LsP rs k μ) (hk : k < rs.length) (hb : ∀ r ∈ rs, r ≤ 4000000000) (e : ∀ j, j < k → nth rs j ≠ nth rs k) : LsP rs (k + 1) (znz (vi (nth rs k)) (vi k) μ) := by
 classical
 have hkk := jjv (hb _ (zb3 hk))
 refine ⟨h.ok.put hkk, fun q hq => ?_, fun r hr hr4 => ?_⟩
 ·have hqq := jjv (hb _ (zb3 (show q < rs.length by omega)))
  rw [zge hkk.1 hqq.1]
  by_cases hqk : q = k
  ·rw [hqk, if_pos rfl, jr2 hk e]
  ·rw [if_neg fun h2 => e q (by omega) (znj h2)]
   exact h.yes q (by omega)
 ·have hrr := jjv hr4
  rw [zge hkk.1 hrr.1, if_neg fun h2 => hr k (by omega) (znj h2).symm]
  exact h.no r (fun q hq => hr q (by omega)) hr4
theorem zzi (n : Net) (sh : Sh) (hi : n.ins.length ≤ 1000) (hg : n.gates.length ≤ 1000) (ns : List Nd) (rs : List Nat) (hrl : rs.length = 2 + n.ins.length + n.gates.length) (hb : ∀ r ∈ rs, r ≤ 4000000000) (h : za9 Try.prog 48 [zas n, shD sh, intsD (zx4 n)] (.tup [.d (zbt ns rs), .d (iD 0)])) : za9 Try.prog 32 [zas n, shD sh] (.tup [.d (intsD (rs.map fun r => (zzs rs r : Int))), .d (iD 0)]) := by
 refine zbc (fn := Try.f32) (by kernel_rfl) Try.func32 rfl (Nat.le_of_ble_eq_true rfl) fun c hc hp => ?_
 refine zbf (τ' := frL [(0, .d (zas n)), (1, .d (shD sh))]) (by repeat (first | exact zak _ | refine zah ?_ (by first | rfl | (simp [r_f, zaa, zab, zag, zad, zbd, za8]; done) | simp [r_f, zaa, zab, zag, zad, zbd, za8, *]))) ?_
 refine zac hp zaj hc rfl fun K1 hK1 => ?_
 simp -dsimp -implicitDefEqProofs (disch := first | assumption | omega | (simp only [r_z, zaa, zab, zag, zad, zbd, za8] <;> omega) | decide) only [r_r, ↓reduceIte, Nat.reduceEqDiff, Nat.reduceAdd, D.fix, Int.reduceToNat, Nat.reduceMul, Nat.reduceBNe, Nat.reduceBEq, r_m, zas, zax, zae, zaf, shD, zbt, zby, zfy]
 refine hK1 _ _ ?_
 refine zac hp zaj hc rfl fun K2 hK2 => ?_
 simp -dsimp -implicitDefEqProofs (disch := first | assumption | omega | (simp only [r_z, zaa, zab, zag, zad, zbd, za8] <;> omega) | decide) only [r_r, ↓reduceIte, Nat.reduceEqDiff, Nat.reduceAdd, D.fix, Int.reduceToNat, Nat.reduceMul, Nat.reduceBNe, Nat.reduceBEq, r_m, zas, zax, zae, zaf, shD, zbt, zby, zfy]
 refine hK2 _ _ ?_
 refine zam fun K3 hK3 => ?_
 refine zac hp zaj hc rfl fun K4 hK4 => ?_
 simp -dsimp -implicitDefEqProofs (disch := first | assumption | omega | (simp only [r_z, zaa, zab, zag, zad, zbd, za8] <;> omega) | decide) only [r_r, ↓reduceIte, Nat.reduceEqDiff, Nat.reduceAdd, D.fix, Int.reduceToNat, Nat.reduceMul, Nat.reduceBNe, Nat.reduceBEq, r_m, zas, zax, zae, zaf, shD, zbt, zby, zfy]
 refine hK4 _ _ ?_
 refine zaz ?_
 refine za7 hp (fun τ' H' mm => ∃ (i : Nat), (i ≤ 2 + n.ins.length + n.gates.length) ∧ mm = 2 + n.ins.length + n.gates.length - i ∧ H' = [.cells (avs (zax n)), .cells (avs (ziz (fun j => (j : Int)) (2 + n.ins.length + n.gates.length) i))] ∧ τ' = frL [(1, .d (shD sh)), (2, .op 0 0), (4, .d (.val (.slice none 0 0))), (5, .d (iD 0)), (6, .os 1 1 0 (2 + n.ins.length + n.gates.length)), (26, .d (iD (2 + n.ins.length + n.gates.length : Nat))), (27, .d (iD i))]) (2 + n.ins.length + n.gates.length) ?_ ⟨0, Nat.zero_le _, rfl, rfl, rfl⟩ ?_
 ·refine Rt.trans (Rt.gc (keep := [0,1]) (by decide) (by decide) (by simp [fzH, gcH])) ?_
  refine Rt.end (by repeat (first | exact zak _ | refine zah ?_ (by first | rfl | (simp [r_f, zaa, zab, zag, zad, zbd, za8]; done) | simp [r_f, zaa, zab, zag, zad, zbd, za8, *]))) ?_
  simp only [r_g, Nat.reduceAdd, ↓reduceIte, Nat.reduceEqDiff, r_m, zas, zax, zae, zaf, shD, zbt, zby]; rw [← jev]; rfl
 rintro τ' H' mm ⟨i, hi2, rfl, rfl, rfl⟩
 refine zac hp zaj hc rfl fun K5 hK5 => ?_
 simp -dsimp -implicitDefEqProofs (disch := first | assumption | omega | (simp only [r_z, zaa, zab, zag, zad, zbd, za8] <;> omega) | decide) only [r_r, ↓reduceIte, Nat.reduceEqDiff, Nat.reduceAdd, D.fix, Int.reduceToNat, Nat.reduceMul, Nat.reduceBNe, Nat.reduceBEq, r_m, zas, zax, zae, zaf, shD, zbt, zby, zfy]
 refine hK5 _ _ ?_
 refine zam fun K6 hK6 => ?_
 refine zaq rfl (fun ht => ?_) (fun ht => ?_)
 ·have hlt : i < 2 + n.ins.length + n.gates.length := by simp at ht; omega
  refine zay (hK6 _ _ ?_)
  refine zam fun K7 hK7 => ?_
  refine zaz ?_
  refine zac hp zaj hc rfl fun K8 hK8 => ?_
  simp -dsimp -implicitDefEqProofs (disch := first | assumption | omega | (simp only [r_z, zaa, zab, zag, zad, zbd, za8] <;> omega) | decide) only [r_r, ↓reduceIte, Nat.reduceEqDiff, Nat.reduceAdd, D.fix, Int.reduceToNat, Nat.reduceMul, Nat.reduceBNe, Nat.reduceBEq, r_m, zas, zax, zae, zaf, shD, zbt, zby]
  refine hK8 _ _ ?_
  refine zbo hp zaj hc rfl fun K9 hK9 => ?_
  simp -dsimp -implicitDefEqProofs (disch := first | assumption | omega | (simp only [r_z, zaa, zab, zag, zad, zbd, za8] <;> omega) | decide) only [r_r, ↓reduceIte, Nat.reduceEqDiff, Nat.reduceAdd, D.fix, Int.reduceToNat, Nat.reduceMul, Nat.reduceBNe, Nat.reduceBEq, r_m, zas, zax, zae, zaf, shD, zbt, zby, zfy]
  refine hK9 _ _ (hK7 _ _ ?_)
  refine zbo hp zaj hc rfl fun K10 hK10 => ?_
  simp -dsimp -implicitDefEqProofs (disch := first | assumption | omega | (simp only [r_z, zaa, zab, zag, zad, zbd, za8] <;> omega) | decide) only [r_r, ↓reduceIte, Nat.reduceEqDiff, Nat.reduceAdd, D.fix, Int.reduceToNat, Nat.reduceMul, Nat.reduceBNe, Nat.reduceBEq, r_m, zas, zax, zae, zaf, shD, zbt, zby, zfy]
  refine hK10 _ _ ⟨_, _, _, ?_, ⟨i + 1, by omega, rfl, rfl, rfl⟩, ?_⟩
  ·first | omega | (simp only [List.length_cons]; omega) | (dsimp only; omega)
  ·refine Rt.trans (Rt.gc (keep := [0,1]) (by decide) (by decide) (by simp [fzH, gcH])) ?_
   refine Rt.end (by repeat (first | exact zak _ | refine zah ?_ (by first | rfl | (simp [r_f, zaa, zab, zag, zad, zbd, za8]; done) | simp [r_f, zaa, zab, zag, zad, zbd, za8, *]))) ?_
   simp only [r_g, Nat.reduceAdd, ↓reduceIte, Nat.reduceEqDiff, r_m, zas, zax, zae, zaf, shD, zbt, zby]; rw [← zq2 hlt]; rfl
 ·have hie : i = 2 + n.ins.length + n.gates.length := by simp at ht; omega
  have hfa : ziz (fun j => (j : Int)) (2 + n.ins.length + n.gates.length) i = (zx4 n).map iD := by rw [hie, jew]; unfold zx4; rw [List.map_map]; rfl
  rw [hfa]
  refine zbj (hK3 _ _ ?_)
  refine zb2 hp (τ' := frL [(1, .d (shD sh)), (2, .op 0 0), (4, .d (.val (.slice none 0 0))), (5, .d (iD 0)), (6, .d (intsD (zx4 n)))]) (H' := [.cells (avs (zax n))]) ?_ ?_
  ·refine Rt.trans (Rt.fz (id := 1) rfl) ?_
   refine Rt.trans (Rt.slot 6 (jb3 (zec (by simp [r_z, zaa, zab, zag, zad, zbd, za8])))) ?_
   refine Rt.trans (Rt.gc (keep := [0]) (by decide) (by decide) (by simp [fzH, gcH])) ?_
   refine Rt.end (by repeat (first | exact zak _ | refine zah ?_ (by first | rfl | (simp [r_f, zaa, zab, zag, zad, zbd, za8]; done) | simp [r_f, zaa, zab, zag, zad, zbd, za8, *]))) ?_
   first | rfl | (simp only [r_g, Nat.reduceAdd, ↓reduceIte, Nat.reduceEqDiff, r_m, zas, zax, zae, zaf, shD, zbt, zby]; first | done | rfl)
  refine zac hp zaj hc rfl fun K11 hK11 => ?_
  simp -dsimp -implicitDefEqProofs (disch := first | assumption | omega | (simp only [r_z, zaa, zab, zag, zad, zbd, za8] <;> omega) | decide) only [r_r, ↓reduceIte, Nat.reduceEqDiff, Nat.reduceAdd, D.fix, Int.reduceToNat, Nat.reduceMul, Nat.reduceBNe, Nat.reduceBEq, r_m, zas, zax, zae, zaf, shD, zbt, zby, zfy]
  refine zb4 (h) rfl ?_
  simp -dsimp -implicitDefEqProofs (disch := first | assumption | omega | (simp only [r_z, zaa, zab, zag, zad, zbd, za8] <;> omega) | decide) only [r_r, ↓reduceIte, Nat.reduceEqDiff, Nat.reduceAdd, D.fix, Int.reduceToNat, Nat.reduceMul, Nat.reduceBNe, Nat.reduceBEq, r_m, zas, zax, zae, zaf, shD, zbt, zby, zfy]
  refine hK11 _ _ ?_
  refine zam fun K12 hK12 => ?_
  refine zac hp zaj hc rfl fun K13 hK13 => ?_
  simp -dsimp -implicitDefEqProofs (disch := first | assumption | omega | (simp only [r_z, zaa, zab, zag, zad, zbd, za8] <;> omega) | decide) only [r_r, ↓reduceIte, Nat.reduceEqDiff, Nat.reduceAdd, D.fix, Int.reduceToNat, Nat.reduceMul, Nat.reduceBNe, Nat.reduceBEq, r_m, zas, zax, zae, zaf, shD, zbt, zby, zfy]
  refine hK13 _ _ ?_
  refine zaq rfl (fun ht => ?_) (fun ht => ?_)
  ·cases ht
  ·refine zay (hK12 _ _ ?_)
   refine zac hp zaj hc rfl fun K14 hK14 => ?_
   simp -dsimp -implicitDefEqProofs (disch := first | assumption | omega | (simp only [r_z, zaa, zab, zag, zad, zbd, za8] <;> omega) | decide) only [r_r, ↓reduceIte, Nat.reduceEqDiff, Nat.reduceAdd, D.fix, Int.reduceToNat, Nat.reduceMul, Nat.reduceBNe, Nat.reduceBEq, r_m, zas, zax, zae, zaf, shD, zbt, zby, zfy]
   refine hK14 _ _ ?_
   refine zac hp zaj hc rfl fun K15 hK15 => ?_
   simp -dsimp -implicitDefEqProofs (disch := first | assumption | omega | (simp only [r_z, zaa, zab, zag, zad, zbd, za8] <;> omega) | decide) only [r_r, ↓reduceIte, Nat.reduceEqDiff, Nat.reduceAdd, D.fix, Int.reduceToNat, Nat.reduceMul, Nat.reduceBNe, Nat.reduceBEq, r_m, zas, zax, zae, zaf, shD, zbt, zby, zfy]
   refine hK15 _ _ ?_
   refine zam fun K16 hK16 => ?_
   refine zac hp zaj hc rfl fun K17 hK17 => ?_
   simp -dsimp -implicitDefEqProofs (disch := first | assumption | omega | (simp only [r_z, zaa, zab, zag, zad, zbd, za8] <;> omega) | decide) only [r_r, ↓reduceIte, Nat.reduceEqDiff, Nat.reduceAdd, D.fix, Int.reduceToNat, Nat.reduceMul, Nat.reduceBNe, Nat.reduceBEq, r_m, zas, zax, zae, zaf, shD, zbt, zby, zfy]
   refine hK17 _ _ ?_
   refine zaz ?_
   refine za7 hp (fun τ' H' mm => ∃ (k : Nat) (μ : Mp), (k ≤ rs.length ∧ LsP rs k μ) ∧ mm = rs.length - k ∧ H' = [.cells (avs (zax n)), .cells (avs (zby ns rs)), mO μ, .cells (avs (ziz (fun j => (zzs rs (nth rs j) : Int)) rs.length k))] ∧ τ' = frL [(4, .d (.val (.slice none 0 0))), (5, .d (iD 0)), (10, .om 2), (11, .os 1 3 0 rs.length), (50, .d (.fs (rs.map zbw) rs.length)), (51, .d (iD rs.length)), (52, .d (iD k))]) (rs.length) ?_ ⟨0, ([], 0), ⟨Nat.zero_le _, LsP.nil rs⟩, rfl, rfl, rfl⟩ ?_
   ·refine Rt.trans (Rt.gc (keep := [0,1,2,3]) (by decide) (by decide) (by simp [fzH, gcH])) ?_
    refine Rt.end (by repeat (first | exact zak _ | refine zah ?_ (by first | rfl | (simp [r_f, zaa, zab, zag, zad, zbd, za8]; done) | simp [r_f, zaa, zab, zag, zad, zbd, za8, *]))) ?_
    simp only [r_g, Nat.reduceAdd, ↓reduceIte, Nat.reduceEqDiff, r_m, zas, zax, zae, zaf, shD, zbt, zby]; rw [za8, ← hrl, ← jev]; rfl
   rintro τ' H' mm ⟨k, μ, ⟨hk, hL⟩, rfl, rfl, rfl⟩
   refine zac hp zaj hc rfl fun K18 hK18 => ?_
   simp -dsimp -implicitDefEqProofs (disch := first | assumption | omega | (simp only [r_z, zaa, zab, zag, zad, zbd, za8] <;> omega) | decide) only [r_r, ↓reduceIte, Nat.reduceEqDiff, Nat.reduceAdd, D.fix, Int.reduceToNat, Nat.reduceMul, Nat.reduceBNe, Nat.reduceBEq, r_m, zas, zax, zae, zaf, shD, zbt, zby, zfy]
   refine hK18 _ _ ?_
   refine zam fun K19 hK19 => ?_
   refine zaq rfl (fun ht => ?_) (fun ht => ?_)
   ·have hlt : k < rs.length := by simp at ht; omega
    have hky : zpz Try.prog tI (.int .i64 ((nth rs k : Nat) : Int)) := jjv (hb _ (zb3 hlt))
    refine zay (hK19 _ _ ?_)
    refine zam fun K20 hK20 => ?_
    refine zaz ?_
    refine zac hp zaj hc rfl fun K21 hK21 => ?_
    simp -dsimp -implicitDefEqProofs (disch := first | assumption | omega | (simp only [r_z, zaa, zab, zag, zad, zbd, za8] <;> omega) | decide) only [r_r, ↓reduceIte, Nat.reduceEqDiff, Nat.reduceAdd, D.fix, Int.reduceToNat, Nat.reduceMul, Nat.reduceBNe, Nat.reduceBEq, r_m, zas, zax, zae, zaf, shD, zbt, zby, zcc, zbw, zfy]
    refine hK21 _ _ ?_
    refine zam fun K22 hK22 => ?_
    have hJ22 : ∀ τ' H', (∃ τ1 H1, ∃ (μ' : Mp), (LsP rs (k + 1) μ') ∧ H1 = [.cells (avs (zax n)), .cells (avs (zby ns rs)), mO μ', .cells (avs (ziz (fun j => (zzs rs (nth rs j) : Int)) rs.length k))] ∧ τ1 = frL [(4, .d (.val (.slice none 0 0))), (5, .d (iD 0)), (10, .om 2), (11, .os 1 3 0 rs.length), (12, .d (iD k)), (13, .d (iD ((nth rs k : Nat) : Int))), (50, .d (.fs (rs.map zbw) rs.length)), (51, .d (iD rs.length)), (52, .d (iD k))] ∧ Rt [] τ' H' τ1 H1) → K22 τ' H' := by
     rintro τ' H' ⟨_, _, μ', hL', rfl, rfl, hrt⟩
     refine hK22 _ _ (zb2 hp hrt ?_)
     clear hrt
     have hgm' : zg5 (.int .i64 ((nth rs k : Nat) : Int)) μ' = some (vi (zzs rs (nth rs k))) := hL'.yes k (by omega)
     refine zbo hp zaj hc rfl fun K23 hK23 => ?_
     simp -dsimp -implicitDefEqProofs (disch := first | assumption | omega | (simp only [r_z, zaa, zab, zag, zad, zbd, za8] <;> omega) | decide) only [r_r, ↓reduceIte, Nat.reduceEqDiff, Nat.reduceAdd, D.fix, Int.reduceToNat, Nat.reduceMul, Nat.reduceBNe, Nat.reduceBEq, r_m, zas, zax, zae, zaf, shD, zbt, zby, zih, jk1 mtI hky hL'.ok, hgm', Option.getD_some, vi, zfy]
     refine hK23 _ _ (hK20 _ _ ?_)
     refine zbo hp zaj hc rfl fun K24 hK24 => ?_
     simp -dsimp -implicitDefEqProofs (disch := first | assumption | omega | (simp only [r_z, zaa, zab, zag, zad, zbd, za8] <;> omega) | decide) only [r_r, ↓reduceIte, Nat.reduceEqDiff, Nat.reduceAdd, D.fix, Int.reduceToNat, Nat.reduceMul, Nat.reduceBNe, Nat.reduceBEq, r_m, zas, zax, zae, zaf, shD, zbt, zby, zfy]
     refine hK24 _ _ ⟨_, _, _, ?_, ⟨k + 1, μ', ⟨by omega, hL'⟩, rfl, rfl, rfl⟩, ?_⟩
     ·first | omega | (simp only [List.length_cons]; omega) | (dsimp only; omega)
     ·refine Rt.trans (Rt.gc (keep := [0,1,2,3]) (by decide) (by decide) (by simp [fzH, gcH])) ?_
      refine Rt.end (by repeat (first | exact zak _ | refine zah ?_ (by first | rfl | (simp [r_f, zaa, zab, zag, zad, zbd, za8]; done) | simp [r_f, zaa, zab, zag, zad, zbd, za8, *]))) ?_
      simp only [r_g, Nat.reduceAdd, ↓reduceIte, Nat.reduceEqDiff, r_m, zas, zax, zae, zaf, shD, zbt, zby]; rw [← zq2 hlt]; rfl
    refine zac hp zaj hc rfl fun K25 hK25 => ?_
    by_cases hex : ∃ j, j < k ∧ nth rs j = nth rs k
    ·obtain ⟨j, hj, e⟩ := hex
     have hgm : zg5 (.int .i64 ((nth rs k : Nat) : Int)) μ = some (vi (zzs rs (nth rs k))) := by rw [← e]; exact hL.yes j hj
     simp -dsimp -implicitDefEqProofs (disch := first | assumption | omega | (simp only [r_z, zaa, zab, zag, zad, zbd, za8] <;> omega) | decide) only [r_r, ↓reduceIte, Nat.reduceEqDiff, Nat.reduceAdd, D.fix, Int.reduceToNat, Nat.reduceMul, Nat.reduceBNe, Nat.reduceBEq, r_m, zas, zax, zae, zaf, shD, zbt, zby, zih, zsh mtI hky hL.ok, hgm, Option.getD_some, Option.getD_none, Option.isSome_some, Option.isSome_none, vi, zfy]
     refine hK25 _ _ ?_
     refine zac hp zaj hc rfl fun K26 hK26 => ?_
     simp -dsimp -implicitDefEqProofs (disch := first | assumption | omega | (simp only [r_z, zaa, zab, zag, zad, zbd, za8] <;> omega) | decide) only [r_r, ↓reduceIte, Nat.reduceEqDiff, Nat.reduceAdd, D.fix, Int.reduceToNat, Nat.reduceMul, Nat.reduceBNe, Nat.reduceBEq, r_m, zas, zax, zae, zaf, shD, zbt, zby, zfy]
     refine hK26 _ _ ?_
     refine zaq rfl (fun ht => ?_) (fun ht => ?_)
     ·cases ht
     ·refine zay (hJ22 _ _ ⟨_, _, μ, hL.same hj e, rfl, rfl, ?_⟩)
      refine Rt.trans (Rt.gc (keep := [0,1,2,3]) (by decide) (by decide) (by simp [fzH, gcH])) ?_
      refine Rt.end (by repeat (first | exact zak _ | refine zah ?_ (by first | rfl | (simp [r_f, zaa, zab, zag, zad, zbd, za8]; done) | simp [r_f, zaa, zab, zag, zad, zbd, za8, *]))) ?_
      first | rfl | (simp only [r_g, Nat.reduceAdd, ↓reduceIte, Nat.reduceEqDiff, r_m, zas, zax, zae, zaf, shD, zbt, zby]; first | done | rfl)
    ·have hnx : ∀ j, j < k → nth rs j ≠ nth rs k := fun j hj e => hex ⟨j, hj, e⟩
     have hgm : zg5 (.int .i64 ((nth rs k : Nat) : Int)) μ = none := hL.no _ hnx (hb _ (zb3 hlt))
     simp -dsimp -implicitDefEqProofs (disch := first | assumption | omega | (simp only [r_z, zaa, zab, zag, zad, zbd, za8] <;> omega) | decide) only [r_r, ↓reduceIte, Nat.reduceEqDiff, Nat.reduceAdd, D.fix, Int.reduceToNat, Nat.reduceMul, Nat.reduceBNe, Nat.reduceBEq, r_m, zas, zax, zae, zaf, shD, zbt, zby, zih, zsh mtI hky hL.ok, hgm, Option.getD_some, Option.getD_none, Option.isSome_some, Option.isSome_none, vi, zfy]
     refine hK25 _ _ ?_
     refine zac hp zaj hc rfl fun K27 hK27 => ?_
     simp -dsimp -implicitDefEqProofs (disch := first | assumption | omega | (simp only [r_z, zaa, zab, zag, zad, zbd, za8] <;> omega) | decide) only [r_r, ↓reduceIte, Nat.reduceEqDiff, Nat.reduceAdd, D.fix, Int.reduceToNat, Nat.reduceMul, Nat.reduceBNe, Nat.reduceBEq, r_m, zas, zax, zae, zaf, shD, zbt, zby, zfy]
     refine hK27 _ _ ?_
     refine zaq rfl (fun ht => ?_) (fun ht => ?_)
     ·refine zbo hp zaj hc rfl fun K28 hK28 => ?_
      simp -dsimp -implicitDefEqProofs (disch := first | assumption | omega | (simp only [r_z, zaa, zab, zag, zad, zbd, za8] <;> omega) | decide) only [r_r, ↓reduceIte, Nat.reduceEqDiff, Nat.reduceAdd, D.fix, Int.reduceToNat, Nat.reduceMul, Nat.reduceBNe, Nat.reduceBEq, r_m, zas, zax, zae, zaf, shD, zbt, zby, jcg mtI hky hL.ok, zfy]
      refine hK28 _ _ (hJ22 _ _ ⟨_, _, znz (.int .i64 ((nth rs k : Nat) : Int)) (.int .i64 (k : Int)) μ, hL.new hlt hb hnx, rfl, rfl, ?_⟩)
      refine Rt.trans (Rt.gc (keep := [0,1,2,3]) (by decide) (by decide) (by simp [fzH, gcH])) ?_
      refine Rt.end (by repeat (first | exact zak _ | refine zah ?_ (by first | rfl | (simp [r_f, zaa, zab, zag, zad, zbd, za8]; done) | simp [r_f, zaa, zab, zag, zad, zbd, za8, *]))) ?_
      first | rfl | (simp only [r_g, Nat.reduceAdd, ↓reduceIte, Nat.reduceEqDiff, r_m, zas, zax, zae, zaf, shD, zbt, zby]; first | done | rfl)
     ·cases ht
   ·have hke : k = rs.length := by simp at ht; omega
    have hfr : ziz (fun j => (zzs rs (nth rs j) : Int)) rs.length k = (rs.map fun r => (zzs rs r : Int)).map iD := by
     rw [hke, jew, List.map_map]
     refine List.ext_getElem (by simp) fun i h1 h2 => ?_
     simp only [List.getElem_map, List.getElem_range, Function.comp]
     rw [zb9 (by simpa using h2)]
    rw [hfr]
    refine zbj (hK16 _ _ ?_)
    refine zac hp zaj hc rfl fun K29 hK29 => ?_
    simp -dsimp -implicitDefEqProofs (disch := first | assumption | omega | (simp only [r_z, zaa, zab, zag, zad, zbd, za8] <;> omega) | decide) only [r_r, ↓reduceIte, Nat.reduceEqDiff, Nat.reduceAdd, D.fix, Int.reduceToNat, Nat.reduceMul, Nat.reduceBNe, Nat.reduceBEq, r_m, zas, zax, zae, zaf, shD, zbt, zby]
    refine hK29 _ _ ?_
    refine za4 ?_
    show closeA _ _ = _
    simp (disch := first | assumption | omega | (simp only [r_z, zaa, zab, zag, zad, zbd, za8] <;> omega) | decide) only [r_c, Nat.reduceAdd, D.fix, ↓reduceIte, Nat.reduceEqDiff, r_m, zas, zax, zae, zaf, shD, zbt, zby]
end Go.Proofs.Ytignimmnnccblaa
