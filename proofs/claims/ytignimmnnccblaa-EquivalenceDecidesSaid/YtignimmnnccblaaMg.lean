/- Changed nets; small nets. -/
import Derived.Test.YtignimmnnccblaaQr
import Derived.Test.YtignimmnnccblaaMe
set_option linter.unusedVariables false
set_option linter.unusedSimpArgs false
set_option maxRecDepth 100000
set_option maxHeartbeats 4000000
namespace Go.Proofs.Ytignimmnnccblaa
open Go Go.RowKit
theorem zes : ((((((type_of% @zd1) ∧ ((type_of% @zd2) ∧ (type_of% @zyt))) ∧ (((type_of% @zyu) ∧ (type_of% @zyv)) ∧ ((type_of% @zht) ∧ (type_of% @zhs)))) ∧ (((type_of% @zda) ∧ ((type_of% @zdb) ∧ (type_of% @zfs))) ∧ (((type_of% @zft) ∧ (type_of% @zfu)) ∧ ((type_of% @zgz) ∧ (type_of% @zg0))))) ∧ ((((type_of% @zg1) ∧ ((type_of% @zg2) ∧ (type_of% @zl0))) ∧ (((type_of% @zl1) ∧ (type_of% @zdq)) ∧ ((type_of% @zdr) ∧ (type_of% @zla)))) ∧ (((type_of% @zlb) ∧ ((type_of% @zdm) ∧ (type_of% @zdn))) ∧ (((type_of% @zdo) ∧ (type_of% @zdv)) ∧ ((type_of% @zgi) ∧ (type_of% @zgj)))))) ∧ (((((type_of% @zr9) ∧ ((type_of% @zib) ∧ (type_of% @zic))) ∧ (((type_of% @zid) ∧ (type_of% @zie)) ∧ ((type_of% @jix) ∧ (type_of% @jiy)))) ∧ (((type_of% @jl7) ∧ ((type_of% @ze4) ∧ (type_of% @ze5))) ∧ (((type_of% @ze7) ∧ (type_of% @zfv)) ∧ ((type_of% @zgk) ∧ (type_of% @zgl))))) ∧ ((((type_of% @zjf) ∧ ((type_of% @zjg) ∧ (type_of% @zif))) ∧ (((type_of% @zig) ∧ (type_of% @zsi)) ∧ ((type_of% @zih) ∧ (type_of% @zii)))) ∧ (((type_of% @zij) ∧ ((type_of% @zik) ∧ (type_of% @zil))) ∧ (((type_of% @zl6) ∧ (type_of% @zl5)) ∧ ((type_of% @zhw) ∧ (type_of% @zhx))))))) := ⟨⟨⟨⟨⟨@zd1, ⟨@zd2, @zyt⟩⟩, ⟨⟨@zyu, @zyv⟩, ⟨@zht, @zhs⟩⟩⟩, ⟨⟨@zda, ⟨@zdb, @zfs⟩⟩, ⟨⟨@zft, @zfu⟩, ⟨@zgz, @zg0⟩⟩⟩⟩, ⟨⟨⟨@zg1, ⟨@zg2, @zl0⟩⟩, ⟨⟨@zl1, @zdq⟩, ⟨@zdr, @zla⟩⟩⟩, ⟨⟨@zlb, ⟨@zdm, @zdn⟩⟩, ⟨⟨@zdo, @zdv⟩, ⟨@zgi, @zgj⟩⟩⟩⟩⟩, ⟨⟨⟨⟨@zr9, ⟨@zib, @zic⟩⟩, ⟨⟨@zid, @zie⟩, ⟨@jix, @jiy⟩⟩⟩, ⟨⟨@jl7, ⟨@ze4, @ze5⟩⟩, ⟨⟨@ze7, @zfv⟩, ⟨@zgk, @zgl⟩⟩⟩⟩, ⟨⟨⟨@zjf, ⟨@zjg, @zif⟩⟩, ⟨⟨@zig, @zsi⟩, ⟨@zih, @zii⟩⟩⟩, ⟨⟨@zij, ⟨@zik, @zil⟩⟩, ⟨⟨@zl6, @zl5⟩, ⟨@zhw, @zhx⟩⟩⟩⟩⟩⟩
theorem zqs {α : Type} [Inhabited α] {f : α → List D} {w : Nat} (hw : ∀ a, (f a).length = w) {x : D} {y : α} {j : Nat} (hj : j < w) : ∀ {l : List α} {k : Nat}, k < l.length → f y = (f (nth l k)).set j x → (l.flatMap f).set (k * w + j) x = (l.set k y).flatMap f
 | [], k, hk, _ => by simp at hk
 | a :: l, 0, _, hy => by
  have hy' : f y = (f a).set j x := hy
  simp only [List.flatMap_cons, List.set_cons_zero, Nat.zero_mul, Nat.zero_add]
  rw [List.set_append_left _ _ (by rw [hw]; exact hj), hy']
 | a :: l, k + 1, hk, hy => by
  have ih := zqs hw hj (l := l) (k := k) (by simpa using hk) hy
  simp only [List.flatMap_cons, List.set_cons_succ]
  rw [List.set_append_right _ _ (by rw [hw, Nat.succ_mul]; omega), ← ih, hw]
  congr 2
  rw [Nat.succ_mul]; omega
structure NetQ (m : Nat) (n : Net) : Prop where
 i1 : 1 ≤ n.ins.length
 i2 : n.ins.length ≤ 9
 g1 : n.gates.length ≤ m
 g2 : GatesOk (2 + n.ins.length) n.gates
 d0 : n.out.length = n.drive.length
 d1 : n.drive.length ≤ 9
 d2 : DriveOk (2 + n.ins.length + n.gates.length) n.drive
 d3 : 1 ≤ n.drive.length
theorem NetOk.q {n : Net} (h : NetOk n) : NetQ 60 n := ⟨h.i1, h.i2, h.g1, h.g2, h.d0, h.d1, h.d2, h.d3⟩
structure Chg (m : Nat) (a b : Net) : Prop where
 q : NetQ (m + 18) b
 ins : b.ins = a.ins
 out : b.out = a.out
 dl : b.drive.length = a.drive.length
 gv : (∀ g ∈ a.gates, GateV g) → ∀ g ∈ b.gates, GateV g
theorem jed {m : Nat} {l : List Gate} {k : Nat} {g : Gate} (h : GatesOk m l) (hk : k < l.length) (hg : GateOk (m + k) g) : GatesOk m (l.set k g) := fun q hq => by
 rw [List.length_set] at hq
 by_cases e : k = q
 ·subst e; rw [zgu hk]; exact hg
 ·rw [zfj e]; exact h q hq
theorem jee {m : Nat} {l : List Int} {k : Nat} {d : Int} (h : DriveOk m l) (h0 : 0 ≤ d) (h1 : d < m) : DriveOk m (l.set k d) := fun q hq => by
 rw [List.length_set] at hq
 by_cases e : k = q
 ·subst e; rw [zgu hq]; exact ⟨h0, h1⟩
 ·rw [zfj e]; exact h q hq
theorem DriveOk.up {m k : Nat} {l : List Int} (h : DriveOk m l) (hk : m ≤ k) : DriveOk k l := fun q hq => by have := h q hq; omega
theorem zx9 {m k : Nat} {n : Net} {l : List Gate} {dr : List Int} {g : Gate} (h : Chg m n ⟨n.ins, l, n.out, dr⟩) (hk : k < l.length) (hg : GateOk (2 + n.ins.length + k) g) (hv : GateV (nth l k) → GateV g) : Chg m n ⟨n.ins, l.set k g, n.out, dr⟩ := by
 have hl : (l.set k g).length = l.length := List.length_set
 exact ⟨⟨h.q.i1, h.q.i2, by simp only [hl]; exact h.q.g1, jed h.q.g2 hk hg, h.q.d0, h.q.d1, by simp only [hl]; exact h.q.d2, h.q.d3⟩, rfl, rfl, h.dl, fun ha x hx => by
  rcases List.mem_or_eq_of_mem_set hx with hx | hx
  ·exact h.gv ha x hx
  ·rw [hx]; exact hv (h.gv ha _ (zb9 hk))⟩
theorem zsz {m k : Nat} {n : Net} {l : List Gate} {dr : List Int} {d : Int} (h : Chg m n ⟨n.ins, l, n.out, dr⟩) (h0 : 0 ≤ d) (h1 : d < (2 + n.ins.length + l.length : Nat)) : Chg m n ⟨n.ins, l, n.out, dr.set k d⟩ := by
 have hl : (dr.set k d).length = dr.length := List.length_set
 exact ⟨⟨h.q.i1, h.q.i2, h.q.g1, h.q.g2, by simp only [hl]; exact h.q.d0, by simp only [hl]; exact h.q.d1, jee h.q.d2 h0 h1, by simp only [hl]; exact h.q.d3⟩, rfl, rfl, by simp only [hl]; exact h.dl, h.gv⟩
theorem jlt {m : Nat} {n : Net} {l gs : List Gate} {dr : List Int} (h : Chg m n ⟨n.ins, l, n.out, dr⟩) (hl : l.length + gs.length ≤ m + 18) (hg : GatesOk (2 + n.ins.length + l.length) gs) (hv : ∀ g ∈ gs, GateV g) : Chg m n ⟨n.ins, l ++ gs, n.out, dr⟩ :=
 ⟨⟨h.q.i1, h.q.i2, by simp only [List.length_append]; exact hl, h.q.g2.app hg, h.q.d0, h.q.d1, h.q.d2.up (by simp only [List.length_append]; omega), h.q.d3⟩, rfl, rfl, h.dl, fun ha x hx => (List.mem_append.1 hx).elim (h.gv ha x) (hv x)⟩
theorem op4 (x : Nat) (o : Int) : x = 0 ∨ (0 < x ∧ o < 2) ∨ (0 < x ∧ 4 < o) ∨ (0 < x ∧ 2 ≤ o ∧ o ≤ 4) := by omega
theorem jef {m : Nat} {d : Int} (h0 : 0 ≤ d) (h1 : d < m) : GateOk m ⟨1, d, 0, 0, 0⟩ := ⟨show (1 : Int) ≤ 1 by decide, show (1 : Int) ≤ 7 by decide, h0, h1, show (0 : Int) ≤ 0 by decide, by simp only; omega, show (0 : Int) ≤ 0 by decide, by simp only; omega, show (0 : Int) ≤ 0 by decide, show (0 : Int) < 1000000 by decide⟩
theorem jgx {m : Nat} {d : Int} (h0 : 0 ≤ d) (h1 : d < m) : GatesOk m [⟨1, d, 0, 0, 0⟩, ⟨1, m, 0, 0, 0⟩] := fun k hk => by
 match k, hk with
 | 0, _ => exact jef h0 h1
 | 1, _ => exact jef (by omega) (by omega)
theorem js5 {l : List Gate} {k : Nat} {v : Int} (hk : k < l.length) : (l.flatMap zar).set (k * 5 + 1) (.val (.int .i64 v)) = (l.set k ⟨(nth l k).op, v, (nth l k).b, (nth l k).c, (nth l k).n⟩).flatMap zar := zqs zav (by decide) hk rfl
theorem js6 {l : List Gate} {k : Nat} {v : Int} (hk : k < l.length) : (l.flatMap zar).set (k * 5) (.val (.int .i64 v)) = (l.set k ⟨v, (nth l k).a, (nth l k).b, (nth l k).c, (nth l k).n⟩).flatMap zar := zqs (j := 0) zav (by decide) hk rfl
theorem jt0 (l : List Gate) (g : Gate) : l.flatMap zar ++ [.val (.int .i64 g.op)] ++ [.val (.int .i64 g.a)] ++ [.val (.int .i64 g.b)] ++ [.val (.int .i64 g.c)] ++ [.val (.int .i64 g.n)] = (l ++ [g]).flatMap zar := by simp [zar, iD]
def chH (n : Net) (ks : List Nat) (l : List Gate) (dr : List Int) : zap := [.cells (avs (zax n)), .cells (avs (ks.map u8D)), .cells [.d (.val (.slice none 0 0)), .d (.val (.slice none 0 0)), .d (.val (.slice none 0 0)), .d (.val (.slice none 0 0))], .cells [.d (zaf n.ins), .os 5 4 0 l.length, .d (zaf n.out), .os 1 5 0 dr.length], .cells (avs (l.flatMap zar)), .cells (avs (dr.map iD))]
theorem jeg (m : Nat) (n : Net) (hn : NetQ m n) (hm : m ≤ 200) (ho : n.out.length ≤ 100) (k0 k1 k2 k3 : Nat) (h0 : k0 < 256) (h1 : k1 < 256) (h2 : k2 < 256) : RCalls Try.prog 9 [zaw n, .agg [u8D k0, u8D k1, u8D k2, u8D k3]] (fun r => ∃ b, Chg m n b ∧ r = .d (zaw b)) := by
 have hi1 := hn.i1
 have hi9 := hn.i2
 have hg1 := hn.g1
 have hd9 := hn.d1
 have hd3 := hn.d3
 have hC0 : Chg m n ⟨n.ins, n.gates, n.out, n.drive⟩ := ⟨⟨hn.i1, hn.i2, by have := hn.g1; simp only; omega, hn.g2, hn.d0, hn.d1, hn.d2, hn.d3⟩, rfl, rfl, rfl, fun h => h⟩
 have hkw : IntKind.i64.wrap (k1 : Int) = k1 := zto (by omega) (by omega)
 have hkw2 : IntKind.i64.wrap (k2 : Int) = k2 := zto (by omega) (by omega)
 refine zfi (fn := Try.f9) (by kernel_rfl) Try.func9 rfl (Nat.le_of_ble_eq_true rfl) fun c hc hp => ?_
 refine zbh (τ' := frL [(0, .d (zaw n)), (1, .d (.agg [u8D k0, u8D k1, u8D k2, u8D k3]))]) (by repeat (first | exact zam _ | refine zai ?_ (by first | rfl | (simp [r_f, zaa, zab]; done) | simp [r_f, zaa, zab, *]))) ?_
 refine zac hp zak hc rfl fun K1 hK1 => ?_
 simp -dsimp -implicitDefEqProofs (disch := first | assumption | omega | (simp only [r_z, zaa, zab] <;> omega) | decide) only [r_r, ↓reduceIte, Nat.reduceEqDiff, Nat.reduceAdd, D.fix, Int.reduceToNat, Nat.reduceMul, Nat.reduceBNe, Nat.reduceBEq, zaw, zax, zaf, zag, u8D, zes]
 refine hK1 _ _ ?_
 refine zbp zak hc mixed rfl (q := 5) (by kernel_rfl) (by kernel_rfl) fun K2 hK2 => ?_
 simp -dsimp -implicitDefEqProofs (disch := first | assumption | omega | (simp only [r_z, zaa, zab] <;> omega) | decide) only [r_r, ↓reduceIte, Nat.reduceEqDiff, Nat.reduceAdd, D.fix, Int.reduceToNat, Nat.reduceMul, Nat.reduceBNe, Nat.reduceBEq, zaw, zax, zaf, zag, u8D, List.filterMap_cons, List.filterMap_nil, zes]
 refine hK2 _ _ ?_
 refine zb3 hp (τ' := frL [(2, .op 0 0), (3, .op 1 0), (4, .op 2 0), (5, .op 3 0)]) (H' := chH n [k0, k1, k2, k3] n.gates n.drive) ?_ ?_
 ·refine Rt.trans (Rt.gc (keep := [0,1,2,7,4,6]) (by decide) (by decide) (by simp [fzH, gcH])) ?_
  refine Rt.end (by repeat (first | exact zam _ | refine zai ?_ (by first | rfl | (simp [r_f, zaa, zab]; done) | simp [r_f, zaa, zab, *]))) ?_
  first | rfl | (simp only [r_g, Nat.reduceAdd, ↓reduceIte, Nat.reduceEqDiff, zaw, zax, zaf, zag, u8D]; first | done | rfl)
 unfold chH
 simp only [List.map_cons, List.map_nil]
 refine zac hp zak hc rfl fun K3 hK3 => ?_
 simp -dsimp -implicitDefEqProofs (disch := first | assumption | omega | (simp only [r_z, zaa, zab] <;> omega) | decide) only [r_r, ↓reduceIte, Nat.reduceEqDiff, Nat.reduceAdd, D.fix, Int.reduceToNat, Nat.reduceMul, Nat.reduceBNe, Nat.reduceBEq, zaw, zax, zaf, zag, u8D, zes]
 refine hK3 _ _ ?_
 refine zao fun K4 hK4 => ?_
 have hJ4 : ∀ τ' H', (∃ τ1 H1, ∃ (l : List Gate) (dr : List Int), (Chg m n ⟨n.ins, l, n.out, dr⟩) ∧ H1 = chH n [k0, k1, k2, k3] l dr ∧ τ1 = frL [(4, .op 2 0), (5, .op 3 0)] ∧ Rt [] τ' H' τ1 H1) → K4 τ' H' := by
  rintro τ' H' ⟨_, _, l, dr, hC, rfl, rfl, hrt⟩
  refine hK4 _ _ (zb3 hp hrt ?_)
  clear hrt
  unfold chH
  simp only [List.map_cons, List.map_nil]
  refine zac hp zak hc rfl fun K5 hK5 => ?_
  simp -dsimp -implicitDefEqProofs (disch := first | assumption | omega | (simp only [r_z, zaa, zab] <;> omega) | decide) only [r_r, ↓reduceIte, Nat.reduceEqDiff, Nat.reduceAdd, D.fix, Int.reduceToNat, Nat.reduceMul, Nat.reduceBNe, Nat.reduceBEq, zaw, zax, zaf, zag, u8D, zes]
  refine hK5 _ _ ?_
  refine za4 ?_
  try dsimp only [zjd, zcz]
  refine zdk rfl ?_
  simp -dsimp -implicitDefEqProofs (disch := first | assumption | omega | (simp only [r_z, zaa, zab] <;> omega) | decide) only [r_r, ↓reduceIte, Nat.reduceEqDiff, Nat.reduceAdd, D.fix, Int.reduceToNat, Nat.reduceMul, Nat.reduceBNe, Nat.reduceBEq, zaw, zax, zaf, zag, u8D, zd1, zd2]
  show ∃ r, closeA _ _ = some r ∧ _
  simp (disch := first | assumption | omega | (simp only [r_z, zaa, zab] <;> omega) | decide) only [r_c, Nat.reduceAdd, D.fix, ↓reduceIte, Nat.reduceEqDiff, zaw, zax, zaf, zag, u8D, zjb]
  exact ⟨_, rfl, _, hC, rfl⟩
 refine zac hp zak hc rfl fun K6 hK6 => ?_
 simp -dsimp -implicitDefEqProofs (disch := first | assumption | omega | (simp only [r_z, zaa, zab] <;> omega) | decide) only [r_r, ↓reduceIte, Nat.reduceEqDiff, Nat.reduceAdd, D.fix, Int.reduceToNat, Nat.reduceMul, Nat.reduceBNe, Nat.reduceBEq, zaw, zax, zaf, zag, u8D, zes]
 refine hK6 _ _ ?_
 refine zaz ?_
 refine zac hp zak hc rfl fun K7 hK7 => ?_
 simp -dsimp -implicitDefEqProofs (disch := first | assumption | omega | (simp only [r_z, zaa, zab] <;> omega) | decide) only [r_r, ↓reduceIte, Nat.reduceEqDiff, Nat.reduceAdd, D.fix, Int.reduceToNat, Nat.reduceMul, Nat.reduceBNe, Nat.reduceBEq, zaw, zax, zaf, zag, u8D, zes]
 refine hK7 _ _ ?_
 refine zaq rfl (fun ht => ?_) (fun ht => ?_)
 ·refine zac hp zak hc rfl fun K8 hK8 => ?_
  simp -dsimp -implicitDefEqProofs (disch := first | assumption | omega | (simp only [r_z, zaa, zab] <;> omega) | decide) only [r_r, ↓reduceIte, Nat.reduceEqDiff, Nat.reduceAdd, D.fix, Int.reduceToNat, Nat.reduceMul, Nat.reduceBNe, Nat.reduceBEq, zaw, zax, zaf, zag, u8D, zes]
  refine hK8 _ _ ?_
  refine zaq rfl (fun ht => ?_) (fun ht => ?_)
  ·have hgl : 0 < n.gates.length := by simp at ht; omega
   obtain ⟨kn, hkn⟩ : ∃ kn, kn = k1 % n.gates.length := ⟨_, rfl⟩
   have hkl : kn < n.gates.length := by rw [hkn]; exact Nat.mod_lt _ hgl
   have hkm : (k1 : Int) % (n.gates.length : Int) = (kn : Int) := by rw [hkn]; push_cast; rfl
   obtain ⟨am, ham⟩ : ∃ am, am = k2 % (2 + n.ins.length + kn) := ⟨_, rfl⟩
   have hal : am < 2 + n.ins.length + kn := by rw [ham]; exact Nat.mod_lt _ (by omega)
   have hamz : (k2 : Int) % (2 + (n.ins.length : Int) + (kn : Int)) = (am : Int) := by rw [ham]; push_cast; rfl
   have hgk := hn.g2 kn hkl
   refine zac hp zak hc rfl fun K9 hK9 => ?_
   simp -dsimp -implicitDefEqProofs (disch := first | assumption | omega | (simp only [r_z, zaa, zab] <;> omega) | decide) only [r_r, ↓reduceIte, Nat.reduceEqDiff, Nat.reduceAdd, D.fix, Int.reduceToNat, Nat.reduceMul, Nat.reduceBNe, Nat.reduceBEq, zaw, zax, zaf, zag, u8D, hkm, zes]
   refine hK9 _ _ ?_
   refine zon zak hc mixed rfl (q := 0) (by kernel_rfl) (by kernel_rfl) fun K10 hK10 => ?_
   simp -dsimp -implicitDefEqProofs (disch := first | assumption | omega | (simp only [r_z, zaa, zab] <;> omega) | decide) only [r_r, ↓reduceIte, Nat.reduceEqDiff, Nat.reduceAdd, D.fix, Int.reduceToNat, Nat.reduceMul, Nat.reduceBNe, Nat.reduceBEq, zaw, zax, zaf, zag, u8D, hamz, zes]
   refine hK10 _ _ (hJ4 _ _ ⟨_, _, n.gates.set kn ⟨(nth n.gates kn).op, am, (nth n.gates kn).b, (nth n.gates kn).c, (nth n.gates kn).n⟩, n.drive, zx9 hC0 hkl ⟨hgk.o1, hgk.o2, by simp only; omega, by simp only; omega, hgk.b0, hgk.b1, hgk.c0, hgk.c1, hgk.n0, hgk.n1⟩ (fun h => ⟨h.c, h.b, h.n, h.m⟩), rfl, rfl, ?_⟩)
   refine Rt.trans (Rt.gc (keep := [0,1,2,3,4,5]) (by decide) (by decide) (by simp [fzH, gcH])) ?_
   refine Rt.end (by repeat (first | exact zam _ | refine zai ?_ (by first | rfl | (simp [r_f, zaa, zab]; done) | simp [r_f, zaa, zab, *]))) ?_
   simp only [r_g, Nat.reduceAdd, ↓reduceIte, Nat.reduceEqDiff, zaw, zax, zaf, zag, u8D]; unfold chH; simp only [List.length_set, js5 hkl]; rfl
  ·refine zay (hJ4 _ _ ⟨_, _, n.gates, n.drive, hC0, rfl, rfl, ?_⟩)
   refine Rt.trans (Rt.gc (keep := [0,1,2,3,4,5]) (by decide) (by decide) (by simp [fzH, gcH])) ?_
   refine Rt.end (by repeat (first | exact zam _ | refine zai ?_ (by first | rfl | (simp [r_f, zaa, zab]; done) | simp [r_f, zaa, zab, *]))) ?_
   first | rfl | (simp only [r_g, Nat.reduceAdd, ↓reduceIte, Nat.reduceEqDiff, zaw, zax, zaf, zag, u8D]; first | done | rfl)
 ·refine zac hp zak hc rfl fun K11 hK11 => ?_
  simp -dsimp -implicitDefEqProofs (disch := first | assumption | omega | (simp only [r_z, zaa, zab] <;> omega) | decide) only [r_r, ↓reduceIte, Nat.reduceEqDiff, Nat.reduceAdd, D.fix, Int.reduceToNat, Nat.reduceMul, Nat.reduceBNe, Nat.reduceBEq, zaw, zax, zaf, zag, u8D, zes]
  refine hK11 _ _ ?_
  refine zaq rfl (fun ht => ?_) (fun ht => ?_)
  ·refine zac hp zak hc rfl fun K12 hK12 => ?_
   simp -dsimp -implicitDefEqProofs (disch := first | assumption | omega | (simp only [r_z, zaa, zab] <;> omega) | decide) only [r_r, ↓reduceIte, Nat.reduceEqDiff, Nat.reduceAdd, D.fix, Int.reduceToNat, Nat.reduceMul, Nat.reduceBNe, Nat.reduceBEq, zaw, zax, zaf, zag, u8D, zes]
   refine hK12 _ _ ?_
   refine zaq rfl (fun ht => ?_) (fun ht => ?_)
   ·have hgl : 0 < n.drive.length := by omega
    obtain ⟨kn, hkn⟩ : ∃ kn, kn = k1 % n.drive.length := ⟨_, rfl⟩
    have hkl : kn < n.drive.length := by rw [hkn]; exact Nat.mod_lt _ hgl
    have hkm : (k1 : Int) % (n.drive.length : Int) = (kn : Int) := by rw [hkn]; push_cast; rfl
    obtain ⟨am, ham⟩ : ∃ am, am = k2 % (2 + n.ins.length + n.gates.length) := ⟨_, rfl⟩
    have hal : am < 2 + n.ins.length + n.gates.length := by rw [ham]; exact Nat.mod_lt _ (by omega)
    have hamz : (k2 : Int) % (2 + (n.ins.length : Int) + (n.gates.length : Int)) = (am : Int) := by rw [ham]; push_cast; rfl
    refine zon zak hc mixed rfl (q := 0) (by kernel_rfl) (by kernel_rfl) fun K13 hK13 => ?_
    simp -dsimp -implicitDefEqProofs (disch := first | assumption | omega | (simp only [r_z, zaa, zab] <;> omega) | decide) only [r_r, ↓reduceIte, Nat.reduceEqDiff, Nat.reduceAdd, D.fix, Int.reduceToNat, Nat.reduceMul, Nat.reduceBNe, Nat.reduceBEq, zaw, zax, zaf, zag, u8D, hkm, hamz, zes]
    refine zb8 (zt0 n (by omega) (by omega)) rfl ?_
    simp -dsimp -implicitDefEqProofs (disch := first | assumption | omega | (simp only [r_z, zaa, zab] <;> omega) | decide) only [r_r, ↓reduceIte, Nat.reduceEqDiff, Nat.reduceAdd, D.fix, Int.reduceToNat, Nat.reduceMul, Nat.reduceBNe, Nat.reduceBEq, zaw, zax, zaf, zag, u8D, hkm, hamz, zes]
    refine hK13 _ _ (hJ4 _ _ ⟨_, _, n.gates, n.drive.set kn am, zsz hC0 (by omega) (by omega), rfl, rfl, ?_⟩)
    refine Rt.trans (Rt.gc (keep := [0,1,2,3,4,5]) (by decide) (by decide) (by simp [fzH, gcH])) ?_
    refine Rt.end (by repeat (first | exact zam _ | refine zai ?_ (by first | rfl | (simp [r_f, zaa, zab]; done) | simp [r_f, zaa, zab, *]))) ?_
    simp only [r_g, Nat.reduceAdd, ↓reduceIte, Nat.reduceEqDiff, zaw, zax, zaf, zag, u8D]; unfold chH; simp only [List.length_set]; rfl
   ·refine zay (hJ4 _ _ ⟨_, _, n.gates, n.drive, hC0, rfl, rfl, ?_⟩)
    refine Rt.trans (Rt.gc (keep := [0,1,2,3,4,5]) (by decide) (by decide) (by simp [fzH, gcH])) ?_
    refine Rt.end (by repeat (first | exact zam _ | refine zai ?_ (by first | rfl | (simp [r_f, zaa, zab]; done) | simp [r_f, zaa, zab, *]))) ?_
    first | rfl | (simp only [r_g, Nat.reduceAdd, ↓reduceIte, Nat.reduceEqDiff, zaw, zax, zaf, zag, u8D]; first | done | rfl)
  ·refine zac hp zak hc rfl fun K14 hK14 => ?_
   simp -dsimp -implicitDefEqProofs (disch := first | assumption | omega | (simp only [r_z, zaa, zab] <;> omega) | decide) only [r_r, ↓reduceIte, Nat.reduceEqDiff, Nat.reduceAdd, D.fix, Int.reduceToNat, Nat.reduceMul, Nat.reduceBNe, Nat.reduceBEq, zaw, zax, zaf, zag, u8D, zes]
   refine hK14 _ _ ?_
   refine zaq rfl (fun ht => ?_) (fun ht => ?_)
   ·refine zbp zak hc mixed rfl (q := 0) (by kernel_rfl) (by kernel_rfl) fun K15 hK15 => ?_
    rcases op4 n.gates.length (nth n.gates (k1 % n.gates.length)).op with q | ⟨q, q'⟩ | ⟨q, q'⟩ | ⟨q, q', q''⟩
    ·have q1 : decide ((0 : Int) < n.gates.length) = false := decide_eq_false (by omega)
     have q2 := q1
     have q3 := q1
     have q4 := q1
     simp -dsimp -implicitDefEqProofs (disch := first | assumption | omega | (simp only [r_z, zaa, zab] <;> omega) | decide) only [r_r, ↓reduceIte, Nat.reduceEqDiff, Nat.reduceAdd, D.fix, Int.reduceToNat, Nat.reduceMul, Nat.reduceBNe, Nat.reduceBEq, zaw, zax, zaf, zag, u8D, q1, q2, q3, q4, zxo, zes]
     refine hK15 _ _ ?_
     refine zaq rfl (fun ht => ?_) (fun ht => ?_)
     ·cases ht
     ·refine zay (hJ4 _ _ ⟨_, _, n.gates, n.drive, hC0, rfl, rfl, ?_⟩)
      refine Rt.trans (Rt.gc (keep := [0,1,2,3,4,5]) (by decide) (by decide) (by simp [fzH, gcH])) ?_
      refine Rt.end (by repeat (first | exact zam _ | refine zai ?_ (by first | rfl | (simp [r_f, zaa, zab]; done) | simp [r_f, zaa, zab, *]))) ?_
      first | rfl | (simp only [r_g, Nat.reduceAdd, ↓reduceIte, Nat.reduceEqDiff, zaw, zax, zaf, zag, u8D]; first | done | rfl)
    ·obtain ⟨kn, hkn⟩ : ∃ kn, kn = k1 % n.gates.length := ⟨_, rfl⟩
     have hkl : kn < n.gates.length := by rw [hkn]; exact Nat.mod_lt _ q
     have q4 : (k1 : Int) % (n.gates.length : Int) = (kn : Int) := by rw [hkn]; push_cast; rfl
     rw [← hkn] at q'
     have q1 : decide ((0 : Int) < n.gates.length) = true := decide_eq_true (by omega)
     have q2 : decide (2 ≤ (nth n.gates kn).op) = false := decide_eq_false (by omega)
     have q3 := q1
     simp -dsimp -implicitDefEqProofs (disch := first | assumption | omega | (simp only [r_z, zaa, zab] <;> omega) | decide) only [r_r, ↓reduceIte, Nat.reduceEqDiff, Nat.reduceAdd, D.fix, Int.reduceToNat, Nat.reduceMul, Nat.reduceBNe, Nat.reduceBEq, zaw, zax, zaf, zag, u8D, q1, q2, q3, q4, zxo, zes]
     refine hK15 _ _ ?_
     refine zaq rfl (fun ht => ?_) (fun ht => ?_)
     ·cases ht
     ·refine zay (hJ4 _ _ ⟨_, _, n.gates, n.drive, hC0, rfl, rfl, ?_⟩)
      refine Rt.trans (Rt.gc (keep := [0,1,2,3,4,5]) (by decide) (by decide) (by simp [fzH, gcH])) ?_
      refine Rt.end (by repeat (first | exact zam _ | refine zai ?_ (by first | rfl | (simp [r_f, zaa, zab]; done) | simp [r_f, zaa, zab, *]))) ?_
      first | rfl | (simp only [r_g, Nat.reduceAdd, ↓reduceIte, Nat.reduceEqDiff, zaw, zax, zaf, zag, u8D]; first | done | rfl)
    ·obtain ⟨kn, hkn⟩ : ∃ kn, kn = k1 % n.gates.length := ⟨_, rfl⟩
     have hkl : kn < n.gates.length := by rw [hkn]; exact Nat.mod_lt _ q
     have q4 : (k1 : Int) % (n.gates.length : Int) = (kn : Int) := by rw [hkn]; push_cast; rfl
     rw [← hkn] at q'
     have q1 : decide ((0 : Int) < n.gates.length) = true := decide_eq_true (by omega)
     have q2 : decide (2 ≤ (nth n.gates kn).op) = true := decide_eq_true (by omega)
     have q3 : decide ((nth n.gates kn).op ≤ 4) = false := decide_eq_false (by omega)
     simp -dsimp -implicitDefEqProofs (disch := first | assumption | omega | (simp only [r_z, zaa, zab] <;> omega) | decide) only [r_r, ↓reduceIte, Nat.reduceEqDiff, Nat.reduceAdd, D.fix, Int.reduceToNat, Nat.reduceMul, Nat.reduceBNe, Nat.reduceBEq, zaw, zax, zaf, zag, u8D, q1, q2, q3, q4, zxo, zes]
     refine hK15 _ _ ?_
     refine zaq rfl (fun ht => ?_) (fun ht => ?_)
     ·cases ht
     ·refine zay (hJ4 _ _ ⟨_, _, n.gates, n.drive, hC0, rfl, rfl, ?_⟩)
      refine Rt.trans (Rt.gc (keep := [0,1,2,3,4,5]) (by decide) (by decide) (by simp [fzH, gcH])) ?_
      refine Rt.end (by repeat (first | exact zam _ | refine zai ?_ (by first | rfl | (simp [r_f, zaa, zab]; done) | simp [r_f, zaa, zab, *]))) ?_
      first | rfl | (simp only [r_g, Nat.reduceAdd, ↓reduceIte, Nat.reduceEqDiff, zaw, zax, zaf, zag, u8D]; first | done | rfl)
    ·obtain ⟨kn, hkn⟩ : ∃ kn, kn = k1 % n.gates.length := ⟨_, rfl⟩
     have hkl : kn < n.gates.length := by rw [hkn]; exact Nat.mod_lt _ q
     have q4 : (k1 : Int) % (n.gates.length : Int) = (kn : Int) := by rw [hkn]; push_cast; rfl
     rw [← hkn] at q' q''
     have q1 : decide ((0 : Int) < n.gates.length) = true := decide_eq_true (by omega)
     have q2 : decide (2 ≤ (nth n.gates kn).op) = true := decide_eq_true (by omega)
     have q3 : decide ((nth n.gates kn).op ≤ 4) = true := decide_eq_true (by omega)
     have hgk := hn.g2 kn hkl
     have hm3 : 0 ≤ (k2 : Int) % 3 ∧ (k2 : Int) % 3 < 3 := by omega
     simp -dsimp -implicitDefEqProofs (disch := first | assumption | omega | (simp only [r_z, zaa, zab] <;> omega) | decide) only [r_r, ↓reduceIte, Nat.reduceEqDiff, Nat.reduceAdd, D.fix, Int.reduceToNat, Nat.reduceMul, Nat.reduceBNe, Nat.reduceBEq, zaw, zax, zaf, zag, u8D, q1, q2, q3, q4, zxo, zes]
     refine hK15 _ _ ?_
     refine zaq rfl (fun ht => ?_) (fun ht => ?_)
     ·refine zon zak hc mixed rfl (q := 0) (by kernel_rfl) (by kernel_rfl) fun K16 hK16 => ?_
      simp -dsimp -implicitDefEqProofs (disch := first | assumption | omega | (simp only [r_z, zaa, zab] <;> omega) | decide) only [r_r, ↓reduceIte, Nat.reduceEqDiff, Nat.reduceAdd, D.fix, Int.reduceToNat, Nat.reduceMul, Nat.reduceBNe, Nat.reduceBEq, zaw, zax, zaf, zag, u8D, q4, zes]
      refine hK16 _ _ (hJ4 _ _ ⟨_, _, n.gates.set kn ⟨2 + (k2 : Int) % 3, (nth n.gates kn).a, (nth n.gates kn).b, (nth n.gates kn).c, (nth n.gates kn).n⟩, n.drive, zx9 hC0 hkl ⟨by simp only; omega, by simp only; omega, hgk.a0, hgk.a1, hgk.b0, hgk.b1, hgk.c0, hgk.c1, hgk.n0, hgk.n1⟩ (fun h => ⟨fun _ => h.c q'', fun h2 => by simp only at h2; omega, fun _ => h.n (by omega), h.m⟩), rfl, rfl, ?_⟩)
      refine Rt.trans (Rt.gc (keep := [0,1,2,3,4,5]) (by decide) (by decide) (by simp [fzH, gcH])) ?_
      refine Rt.end (by repeat (first | exact zam _ | refine zai ?_ (by first | rfl | (simp [r_f, zaa, zab]; done) | simp [r_f, zaa, zab, *]))) ?_
      simp only [r_g, Nat.reduceAdd, ↓reduceIte, Nat.reduceEqDiff, zaw, zax, zaf, zag, u8D]; unfold chH; simp only [List.length_set, js6 hkl]; rfl
     ·cases ht
   ·refine zac hp zak hc rfl fun K17 hK17 => ?_
    simp -dsimp -implicitDefEqProofs (disch := first | assumption | omega | (simp only [r_z, zaa, zab] <;> omega) | decide) only [r_r, ↓reduceIte, Nat.reduceEqDiff, Nat.reduceAdd, D.fix, Int.reduceToNat, Nat.reduceMul, Nat.reduceBNe, Nat.reduceBEq, zaw, zax, zaf, zag, u8D, zes]
    refine hK17 _ _ ?_
    refine zaq rfl (fun ht => ?_) (fun ht => ?_)
    ·refine zac hp zak hc rfl fun K18 hK18 => ?_
     simp -dsimp -implicitDefEqProofs (disch := first | assumption | omega | (simp only [r_z, zaa, zab] <;> omega) | decide) only [r_r, ↓reduceIte, Nat.reduceEqDiff, Nat.reduceAdd, D.fix, Int.reduceToNat, Nat.reduceMul, Nat.reduceBNe, Nat.reduceBEq, zaw, zax, zaf, zag, u8D]
     refine hK18 _ _ ?_
     refine zaz ?_
     refine zbb hp (fun τ' H' mm => ∃ (i : Nat) (l : List Gate) (dr : List Int), (i ≤ n.drive.length ∧ l.length = n.gates.length + 2 * i ∧ Chg m n ⟨n.ins, l, n.out, dr⟩) ∧ mm = n.drive.length - i ∧ H' = chH n [k0, k1, k2, k3] l dr ∧ τ' = frL [(2, .op 0 0), (3, .op 1 0), (4, .op 2 0), (5, .op 3 0), (7, .d (iD i))]) (n.drive.length) ?_ ⟨0, n.gates, n.drive, ⟨Nat.zero_le _, rfl, hC0⟩, rfl, rfl, rfl⟩ ?_
     ·refine Rt.trans (Rt.gc (keep := [0,1,2,3,4,5]) (by decide) (by decide) (by simp [fzH, gcH])) ?_
      refine Rt.end (by repeat (first | exact zam _ | refine zai ?_ (by first | rfl | (simp [r_f, zaa, zab]; done) | simp [r_f, zaa, zab, *]))) ?_
      first | rfl | (simp only [r_g, Nat.reduceAdd, ↓reduceIte, Nat.reduceEqDiff, zaw, zax, zaf, zag, u8D]; first | done | rfl)
     rintro τ' H' mm ⟨i, l, dr, ⟨hi2, hll, hC⟩, rfl, rfl, rfl⟩
     have hdl : dr.length = n.drive.length := hC.dl
     unfold chH
     simp only [List.map_cons, List.map_nil]
     refine zao fun K19 hK19 => ?_
     refine zac hp zak hc rfl fun K20 hK20 => ?_
     simp -dsimp -implicitDefEqProofs (disch := first | assumption | omega | (simp only [r_z, zaa, zab] <;> omega) | decide) only [r_r, ↓reduceIte, Nat.reduceEqDiff, Nat.reduceAdd, D.fix, Int.reduceToNat, Nat.reduceMul, Nat.reduceBNe, Nat.reduceBEq, zaw, zax, zaf, zag, u8D, zes]
     refine hK20 _ _ ?_
     refine zaq rfl (fun ht => ?_) (fun ht => ?_)
     ·have hlt : i < dr.length := by simp at ht; omega
      have hdk := hC.q.d2 i hlt
      simp only at hdk
      obtain ⟨l1, hl1d⟩ : ∃ l1, l1 = l ++ [⟨1, nth dr i, 0, 0, 0⟩] := ⟨_, rfl⟩
      have hl1 : l1.length = l.length + 1 := by rw [hl1d]; simp
      have hg1 : l.flatMap zar ++ [.val (.int .i64 1)] ++ [.val (.int .i64 (nth dr i))] ++ [.val (.int .i64 0)] ++ [.val (.int .i64 0)] ++ [.val (.int .i64 0)] = l1.flatMap zar := by rw [hl1d]; exact jt0 l ⟨1, nth dr i, 0, 0, 0⟩
      obtain ⟨l2, hl2d⟩ : ∃ l2, l2 = l1 ++ [⟨1, 2 + (n.ins.length : Int) + (l1.length : Int) - 1, 0, 0, 0⟩] := ⟨_, rfl⟩
      have hl2 : l2.length = l.length + 1 + 1 := by rw [hl2d]; simp [hl1]
      have hg2 : l1.flatMap zar ++ [.val (.int .i64 1)] ++ [.val (.int .i64 (2 + (n.ins.length : Int) + (l1.length : Int) - 1))] ++ [.val (.int .i64 0)] ++ [.val (.int .i64 0)] ++ [.val (.int .i64 0)] = l2.flatMap zar := by rw [hl2d]; exact jt0 l1 ⟨1, _, 0, 0, 0⟩
      refine zay (hK19 _ _ ?_)
      refine zao fun K21 hK21 => ?_
      refine zaz ?_
      refine zbp zak hc mixed rfl (q := 2) (by kernel_rfl) (by kernel_rfl) fun K22 hK22 => ?_
      simp -dsimp -implicitDefEqProofs (disch := first | assumption | omega | (simp only [r_z, zaa, zab] <;> omega) | decide) only [r_r, ↓reduceIte, Nat.reduceEqDiff, Nat.reduceAdd, D.fix, Int.reduceToNat, Nat.reduceMul, Nat.reduceBNe, Nat.reduceBEq, zaw, zax, zaf, zag, u8D, zc2, zes]
      refine hK22 _ _ ?_
      refine zbp zak hc mixed rfl (q := 2) (by kernel_rfl) (by kernel_rfl) fun K23 hK23 => ?_
      simp -dsimp -implicitDefEqProofs (disch := first | assumption | omega | (simp only [r_z, zaa, zab] <;> omega) | decide) only [r_r, ↓reduceIte, Nat.reduceEqDiff, Nat.reduceAdd, D.fix, Int.reduceToNat, Nat.reduceMul, Nat.reduceBNe, Nat.reduceBEq, zaw, zax, zaf, zag, u8D, zes]
      refine zfo (zt0 ⟨n.ins, l1, n.out, dr⟩ (by simp only; omega) (by simp only; omega)) ?_ ?_
      ·simp (disch := first | assumption | omega | (simp only [r_z, zaa, zab] <;> omega) | decide) only [r_c, Nat.reduceAdd, D.fix, ↓reduceIte, Nat.reduceEqDiff, zaw, zax, zaf, zag, u8D, hg1, zjb, hl1]
      simp -dsimp -implicitDefEqProofs (disch := first | assumption | omega | (simp only [r_z, zaa, zab] <;> omega) | decide) only [r_r, ↓reduceIte, Nat.reduceEqDiff, Nat.reduceAdd, D.fix, Int.reduceToNat, Nat.reduceMul, Nat.reduceBNe, Nat.reduceBEq, zaw, zax, zaf, zag, u8D, zes]
      refine hK23 _ _ ?_
      refine zon zak hc mixed rfl (q := 0) (by kernel_rfl) (by kernel_rfl) fun K24 hK24 => ?_
      simp -dsimp -implicitDefEqProofs (disch := first | assumption | omega | (simp only [r_z, zaa, zab] <;> omega) | decide) only [r_r, ↓reduceIte, Nat.reduceEqDiff, Nat.reduceAdd, D.fix, Int.reduceToNat, Nat.reduceMul, Nat.reduceBNe, Nat.reduceBEq, zaw, zax, zaf, zag, u8D, zes]
      refine zfo (zt0 ⟨n.ins, l2, n.out, dr⟩ (by simp only; omega) (by simp only; omega)) ?_ ?_
      ·simp (disch := first | assumption | omega | (simp only [r_z, zaa, zab] <;> omega) | decide) only [r_c, Nat.reduceAdd, D.fix, ↓reduceIte, Nat.reduceEqDiff, zaw, zax, zaf, zag, u8D, hg1, hg2, zjb, hl2]
      simp -dsimp -implicitDefEqProofs (disch := first | assumption | omega | (simp only [r_z, zaa, zab] <;> omega) | decide) only [r_r, ↓reduceIte, Nat.reduceEqDiff, Nat.reduceAdd, D.fix, Int.reduceToNat, Nat.reduceMul, Nat.reduceBNe, Nat.reduceBEq, zaw, zax, zaf, zag, u8D, zes]
      refine hK24 _ _ (hK21 _ _ ?_)
      refine zbt hp zak hc rfl fun K25 hK25 => ?_
      simp -dsimp -implicitDefEqProofs (disch := first | assumption | omega | (simp only [r_z, zaa, zab] <;> omega) | decide) only [r_r, ↓reduceIte, Nat.reduceEqDiff, Nat.reduceAdd, D.fix, Int.reduceToNat, Nat.reduceMul, Nat.reduceBNe, Nat.reduceBEq, zaw, zax, zaf, zag, u8D, zes]
      have e2 : l2 = l ++ [⟨1, nth dr i, 0, 0, 0⟩, ⟨1, ((2 + n.ins.length + l.length : Nat) : Int), 0, 0, 0⟩] := by rw [hl2d, hl1d]; simp; omega
      have hC2 : Chg m n ⟨n.ins, l2, n.out, dr⟩ := by rw [e2]; exact jlt hC (by simp; omega) (jgx hdk.1 (by omega)) (fun g hg => by simp only [List.mem_cons, List.not_mem_nil, or_false] at hg; rcases hg with rfl | rfl <;> exact ⟨fun _ => rfl, fun _ => rfl, fun _ => rfl, show (0 : Int) ≤ 63 by decide⟩)
      have hC3 := zsz (k := i) (d := 2 + (n.ins.length : Int) + (l2.length : Int) - 1) hC2 (by omega) (by omega)
      refine hK25 _ _ ⟨_, _, _, ?_, ⟨i + 1, l2, dr.set i (2 + (n.ins.length : Int) + (l2.length : Int) - 1), ⟨by omega, by omega, hC3⟩, rfl, rfl, rfl⟩, ?_⟩
      ·first | omega | (simp only [List.length_cons]; omega) | (dsimp only; omega)
      ·refine Rt.trans (Rt.gc (keep := [0,1,2,3,9,5]) (by decide) (by decide) (by simp [fzH, gcH])) ?_
       refine Rt.end (by repeat (first | exact zam _ | refine zai ?_ (by first | rfl | (simp [r_f, zaa, zab]; done) | simp [r_f, zaa, zab, *]))) ?_
       simp only [r_g, Nat.reduceAdd, ↓reduceIte, Nat.reduceEqDiff, zaw, zax, zaf, zag, u8D]; simp only [List.length_set, hg1, hg2, hl2]; rfl
     ·refine zbn (hJ4 _ _ ⟨_, _, l, dr, hC, rfl, rfl, ?_⟩)
      refine Rt.trans (Rt.gc (keep := [0,1,2,3,4,5]) (by decide) (by decide) (by simp [fzH, gcH])) ?_
      refine Rt.end (by repeat (first | exact zam _ | refine zai ?_ (by first | rfl | (simp [r_f, zaa, zab]; done) | simp [r_f, zaa, zab, *]))) ?_
      first | rfl | (simp only [r_g, Nat.reduceAdd, ↓reduceIte, Nat.reduceEqDiff, zaw, zax, zaf, zag, u8D]; first | done | rfl)
    ·refine zay (hJ4 _ _ ⟨_, _, n.gates, n.drive, hC0, rfl, rfl, ?_⟩)
     refine Rt.trans (Rt.gc (keep := [0,1,2,3,4,5]) (by decide) (by decide) (by simp [fzH, gcH])) ?_
     refine Rt.end (by repeat (first | exact zam _ | refine zai ?_ (by first | rfl | (simp [r_f, zaa, zab]; done) | simp [r_f, zaa, zab, *]))) ?_
     first | rfl | (simp only [r_g, Nat.reduceAdd, ↓reduceIte, Nat.reduceEqDiff, zaw, zax, zaf, zag, u8D]; first | done | rfl)
end Go.Proofs.Ytignimmnnccblaa

/- Small nets; the classes of nodes. -/
set_option linter.unusedVariables false
set_option linter.unusedSimpArgs false
set_option maxRecDepth 100000
set_option maxHeartbeats 4000000
namespace Go.Proofs.Ytignimmnnccblaa
open Go Go.RowKit
theorem zfh : (((((((type_of% @zyr) ∧ (type_of% @zys)) ∧ ((type_of% @zd1) ∧ (type_of% @zd2))) ∧ (((type_of% @zht) ∧ (type_of% @zhs)) ∧ ((type_of% @zp3) ∧ ((type_of% @zp4) ∧ (type_of% @jfi))))) ∧ ((((type_of% @jfj) ∧ (type_of% @jfk)) ∧ ((type_of% @jfl) ∧ (type_of% @ze4))) ∧ (((type_of% @ze5) ∧ (type_of% @zp5)) ∧ ((type_of% @zp6) ∧ ((type_of% @jfm) ∧ (type_of% @jfn)))))) ∧ (((((type_of% @jfo) ∧ (type_of% @jfp)) ∧ ((type_of% @zp7) ∧ (type_of% @zp8))) ∧ (((type_of% @jfq) ∧ (type_of% @jfr)) ∧ ((type_of% @jfs) ∧ ((type_of% @jft) ∧ (type_of% @jo3))))) ∧ ((((type_of% @jb9) ∧ (type_of% @jca)) ∧ ((type_of% @jcb) ∧ (type_of% @jo2))) ∧ (((type_of% @jo1) ∧ (type_of% @zda)) ∧ ((type_of% @zdb) ∧ ((type_of% @zfs) ∧ (type_of% @zft))))))) ∧ ((((((type_of% @zfu) ∧ (type_of% @zfv)) ∧ ((type_of% @ze7) ∧ (type_of% @zdq))) ∧ (((type_of% @zdr) ∧ (type_of% @zgz)) ∧ ((type_of% @zg0) ∧ ((type_of% @zg1) ∧ (type_of% @zg2))))) ∧ ((((type_of% @zdm) ∧ (type_of% @zdn)) ∧ ((type_of% @zdo) ∧ (type_of% @zdv))) ∧ (((type_of% @zfd) ∧ (type_of% @zfe)) ∧ ((type_of% @zff) ∧ ((type_of% @zfg) ∧ (type_of% @zl0)))))) ∧ (((((type_of% @zl1) ∧ (type_of% @zhw)) ∧ ((type_of% @zhx) ∧ (type_of% @zeg))) ∧ (((type_of% @zeh) ∧ (type_of% @zjq)) ∧ ((type_of% @zjp) ∧ ((type_of% @zkk) ∧ (type_of% @zkl))))) ∧ ((((type_of% @zkm) ∧ (type_of% @zou)) ∧ ((type_of% @zov) ∧ ((type_of% @zow) ∧ (type_of% @zox)))) ∧ (((type_of% @zi2) ∧ (type_of% @zi3)) ∧ ((type_of% @znt) ∧ ((type_of% @znu) ∧ (type_of% @zs1)))))))) := ⟨⟨⟨⟨⟨⟨@zyr, @zys⟩, ⟨@zd1, @zd2⟩⟩, ⟨⟨@zht, @zhs⟩, ⟨@zp3, ⟨@zp4, @jfi⟩⟩⟩⟩, ⟨⟨⟨@jfj, @jfk⟩, ⟨@jfl, @ze4⟩⟩, ⟨⟨@ze5, @zp5⟩, ⟨@zp6, ⟨@jfm, @jfn⟩⟩⟩⟩⟩, ⟨⟨⟨⟨@jfo, @jfp⟩, ⟨@zp7, @zp8⟩⟩, ⟨⟨@jfq, @jfr⟩, ⟨@jfs, ⟨@jft, @jo3⟩⟩⟩⟩, ⟨⟨⟨@jb9, @jca⟩, ⟨@jcb, @jo2⟩⟩, ⟨⟨@jo1, @zda⟩, ⟨@zdb, ⟨@zfs, @zft⟩⟩⟩⟩⟩⟩, ⟨⟨⟨⟨⟨@zfu, @zfv⟩, ⟨@ze7, @zdq⟩⟩, ⟨⟨@zdr, @zgz⟩, ⟨@zg0, ⟨@zg1, @zg2⟩⟩⟩⟩, ⟨⟨⟨@zdm, @zdn⟩, ⟨@zdo, @zdv⟩⟩, ⟨⟨@zfd, @zfe⟩, ⟨@zff, ⟨@zfg, @zl0⟩⟩⟩⟩⟩, ⟨⟨⟨⟨@zl1, @zhw⟩, ⟨@zhx, @zeg⟩⟩, ⟨⟨@zeh, @zjq⟩, ⟨@zjp, ⟨@zkk, @zkl⟩⟩⟩⟩, ⟨⟨⟨@zkm, @zou⟩, ⟨@zov, ⟨@zow, @zox⟩⟩⟩, ⟨⟨@zi2, @zi3⟩, ⟨@znt, ⟨@znu, @zs1⟩⟩⟩⟩⟩⟩⟩
def jrm (x : RawN) (a b c : Nat) : RawN := ⟨x.ins.take a, x.gates.take b, x.out.take c⟩
theorem jrn {x : RawN} (h : RawOk x) (a b c : Nat) : RawOk (jrm x a b c) := by
 refine ⟨fun k hk => ?_, fun k hk => ?_, fun k hk => ?_⟩ <;> simp only [jrm, List.length_take] at hk ⊢ <;> rw [zej (by omega)]
 ·exact h.ins k (by omega)
 ·exact h.gates k (by omega)
 ·exact h.out k (by omega)
theorem js7 {α : Type} {f : α → List D} {w : Nat} (hw : ∀ a, (f a).length = w) : ∀ (n : Nat) (l : List α), (l.flatMap f).take (n * w) = (l.take n).flatMap f
 | 0, l => by simp
 | n + 1, [] => by simp
 | n + 1, a :: l => by
  have e : (n + 1) * w = (f a).length + n * w := by rw [hw, Nat.succ_mul]; omega
  rw [e]
  simp only [List.flatMap_cons, List.take_succ_cons]
  rw [List.take_length_add_append, js7 hw n l]
theorem jlu (x : RawN) (hx : RawOk x) (hi : x.ins.length ≤ maxLen) (hg : x.gates.length ≤ maxLen) (ho : x.out.length ≤ maxLen) : RCalls Try.prog 8 [.agg (zb5 x)] (fun r => ∃ n, NetOk n ∧ r = .d (zaw n)) := by
 unfold maxLen at hi hg ho
 have hmc := jq6 (jrm x (min x.ins.length 4) (min x.gates.length 24) (min x.out.length 4)) (jrn hx _ _ _)
 obtain ⟨u, hu⟩ : ∃ u, u = min x.ins.length 4 := ⟨_, rfl⟩
 obtain ⟨v, hv⟩ : ∃ v, v = min x.gates.length 24 := ⟨_, rfl⟩
 obtain ⟨w, hw⟩ : ∃ w, w = min x.out.length 4 := ⟨_, rfl⟩
 have e1 : min (x.ins.length : Int) 4 = (u : Int) := by omega
 have e2 : min (x.gates.length : Int) 24 = (v : Int) := by omega
 have e3 : min (x.out.length : Int) 4 = (w : Int) := by omega
 rw [← hu, ← hv, ← hw] at hmc
 have hcut : zb5 (jrm x u v w) = [.fs (List.take u (x.ins.map bD)) u, .fs (List.take (v * 5) (x.gates.flatMap r5C)) v, .fs (List.take (w * 4) (x.out.flatMap r4C)) w] := by
  unfold zb5 jrm bytesD
  rw [js7 jq2, js7 jq3]
  simp only [List.map_take, List.length_take]
  rw [Nat.min_eq_left (by omega), Nat.min_eq_left (by omega), Nat.min_eq_left (by omega)]
 rw [hcut] at hmc
 refine zfi (fn := Try.f8) (by kernel_rfl) Try.func8 rfl (Nat.le_of_ble_eq_true rfl) fun c hc hp => ?_
 refine zbh (τ' := frL [(0, .d (.agg (zb5 x)))]) (by repeat (first | exact zam _ | refine zai ?_ (by first | rfl | (simp [r_f, zbi, zbj, zaa, zab]; done) | simp [r_f, zbi, zbj, zaa, zab, *]))) ?_
 refine zac hp zak hc rfl fun K1 hK1 => ?_
 simp -dsimp -implicitDefEqProofs (disch := first | assumption | omega | (simp only [r_z, zbi, zbj, zaa, zab] <;> omega) | decide) only [r_r, ↓reduceIte, Nat.reduceEqDiff, Nat.reduceAdd, D.fix, Int.reduceToNat, Nat.reduceMul, Nat.reduceBNe, Nat.reduceBEq, zb5, bytesD, zaw, zax, zaf, zag, zfh]
 refine hK1 _ _ ?_
 refine zd6 zak hp hc mixed rfl [(0, []), (1, []), (2, []), (3, []), (4, []), (5, []), (6, []), (7, []), (8, []), (9, []), (10, []), (11, []), (12, []), (13, []), (14, []), (15, []), (16, []), (17, []), (18, []), (19, []), (20, []), (21, []), (22, []), (23, [])] [[], [0], [], [2], [2, 3], [2, 3, 4], [0, 1, 2, 3, 4, 5], [], [7], [], [9], [9, 10], [9, 10, 11], [7, 8, 9, 10, 11, 12], [], [14], [], [16], [16, 17], [16, 17, 18], [14, 15, 16, 17, 18, 19], [0, 1, 2, 3, 4, 5, 6, 7, 8, 9, 10, 11, 12, 13, 14, 15, 16, 17, 18, 19, 20], [0, 1, 2, 3, 4, 5, 6, 7, 8, 9, 10, 11, 12, 13, 14, 15, 16, 17, 18, 19, 20, 21], [0, 1, 2, 3, 4, 5, 6, 7, 8, 9, 10, 11, 12, 13, 14, 15, 16, 17, 18, 19, 20, 21, 22]] 0 (by kernel_rfl) fun K2 hK2 => ?_
 simp -dsimp -implicitDefEqProofs (disch := first | assumption | omega | (simp only [r_z, zbi, zbj, zaa, zab] <;> omega) | decide) only [r_r, ↓reduceIte, Nat.reduceEqDiff, Nat.reduceAdd, D.fix, Int.reduceToNat, Nat.reduceMul, Nat.reduceBNe, Nat.reduceBEq, r_w, zb5, bytesD, zaw, zax, zaf, zag, e1, e2, e3, zfh]
 refine jow (hmc) rfl fun r hr => ?_
 obtain ⟨n, hn, rfl⟩ := hr
 simp -dsimp -implicitDefEqProofs (disch := first | assumption | omega | (simp only [r_z, zbi, zbj, zaa, zab] <;> omega) | decide) only [r_r, ↓reduceIte, Nat.reduceEqDiff, Nat.reduceAdd, D.fix, Int.reduceToNat, Nat.reduceMul, Nat.reduceBNe, Nat.reduceBEq, r_w, zb5, bytesD, zaw, zax, zaf, zag, e1, e2, e3, zfh]
 refine hK2 _ _ ?_
 refine za4 ?_
 try dsimp only [zjd, zcz]
 refine zdk rfl ?_
 simp -dsimp -implicitDefEqProofs (disch := first | assumption | omega | (simp only [r_z, zbi, zbj, zaa, zab] <;> omega) | decide) only [r_r, ↓reduceIte, Nat.reduceEqDiff, Nat.reduceAdd, D.fix, Int.reduceToNat, Nat.reduceMul, Nat.reduceBNe, Nat.reduceBEq, zb5, bytesD, zaw, zax, zaf, zag, zd1, zd2]
 show ∃ r, closeA _ _ = some r ∧ _
 simp (disch := first | assumption | omega | (simp only [r_z, zbi, zbj, zaa, zab] <;> omega) | decide) only [r_c, Nat.reduceAdd, D.fix, ↓reduceIte, Nat.reduceEqDiff, zb5, bytesD, zaw, zax, zaf, zag]
 exact ⟨_, rfl, n, hn, rfl⟩
def zit (f : Nat → Int) (n i : Nat) : List D := (List.range n).map fun j => iD (if j < i then f j else 0)
theorem za9 (f : Nat → Int) (n i : Nat) : (zit f n i).length = n := by simp [zit]
theorem jeh (f : Nat → Int) (n : Nat) : List.replicate n (iD 0) = zit f n 0 := by
 refine List.ext_getElem (by simp [zit]) fun i h1 h2 => ?_
 simp [zit]
theorem zqt {f : Nat → Int} {n i : Nat} (h : i < n) : (zit f n i).set i (iD (f i)) = zit f n (i + 1) := by
 refine List.ext_getElem (by simp [zit]) fun j h1 h2 => ?_
 rw [List.getElem_set]
 simp only [zit, List.getElem_map, List.getElem_range]
 by_cases e : i = j
 ·subst e; rw [if_pos rfl, if_pos (by omega)]
 ·rw [if_neg e]
  by_cases h3 : j < i
  ·rw [if_pos h3, if_pos (by omega)]
  ·rw [if_neg h3, if_neg (by omega)]
theorem jei (f : Nat → Int) (n : Nat) : zit f n n = (List.range n).map fun j => iD (f j) := by
 refine List.map_congr_left fun j hj => ?_
 rw [if_pos (List.mem_range.1 hj)]
def zzd (rs : List Nat) (r : Nat) : Nat := rs.findIdx fun x => x == r
theorem jro {rs : List Nat} {k : Nat} (hk : k < rs.length) (h : ∀ j, j < k → nth rs j ≠ nth rs k) : zzd rs (nth rs k) = k := by
 unfold zzd
 rw [List.findIdx_eq hk]
 refine ⟨by rw [zb6 hk]; simp, fun j hj => ?_⟩
 have := h j hj
 rw [zb6 (by omega)] at this
 simpa using this
structure LsP (rs : List Nat) (k : Nat) (μ : Mp) : Prop where
 ok : OkM Try.prog tI μ
 yes : ∀ j, j < k → zgw (vi (nth rs j)) μ = some (vi (zzd rs (nth rs j)))
 no : ∀ r, (∀ j, j < k → nth rs j ≠ r) → r ≤ 4000000000 → zgw (vi r) μ = none
theorem LsP.nil (rs : List Nat) : LsP rs 0 ([], 0) := ⟨OkM.nil _ _, fun j hj => by omega, fun r _ _ => rfl⟩
theorem LsP.same {rs : List Nat} {k : Nat} {μ : Mp} (h : LsP rs k μ) {j : Nat} (hj : j < k) (e : nth rs j = nth rs k) : LsP rs (k + 1) μ :=
 ⟨h.ok, fun q hq => by
  by_cases hqk : q = k
  ·rw [hqk, ← e]; exact h.yes j hj
  ·exact h.yes q (by omega), fun r hr hr4 => h.no r (fun q hq => hr q (by omega)) hr4⟩
theorem LsP.new {rs : List Nat} {k : Nat} {μ : Mp} (h : LsP rs k μ) (hk : k < rs.length) (hb : ∀ r ∈ rs, r ≤ 4000000000) (e : ∀ j, j < k → nth rs j ≠ nth rs k) : LsP rs (k + 1) (znz (vi (nth rs k)) (vi k) μ) := by
 classical
 have hkk := jjm (hb _ (zb9 hk))
 refine ⟨h.ok.put hkk, fun q hq => ?_, fun r hr hr4 => ?_⟩
 ·have hqq := jjm (hb _ (zb9 (show q < rs.length by omega)))
  rw [zf2 hkk.1 hqq.1]
  by_cases hqk : q = k
  ·rw [hqk, if_pos rfl, jro hk e]
  ·rw [if_neg fun h2 => e q (by omega) (znl h2)]
   exact h.yes q (by omega)
 ·have hrr := jjm hr4
  rw [zf2 hkk.1 hrr.1, if_neg fun h2 => hr k (by omega) (znl h2).symm]
  exact h.no r (fun q hq => hr q (by omega)) hr4
theorem zy9 (n : Net) (sh : Sh) (hi : n.ins.length ≤ 1000) (hg : n.gates.length ≤ 1000) (ns : List Nd) (rs : List Nat) (hrl : rs.length = 2 + n.ins.length + n.gates.length) (hb : ∀ r ∈ rs, r ≤ 4000000000) (h : zbd Try.prog 48 [zaw n, shD sh, intsD (zxz n)] (.tup [.d (zbw ns rs), .d (iD 0)])) : zbd Try.prog 32 [zaw n, shD sh] (.tup [.d (intsD (rs.map fun r => (zzd rs r : Int))), .d (iD 0)]) := by
 refine zbg (fn := Try.f32) (by kernel_rfl) Try.func32 rfl (Nat.le_of_ble_eq_true rfl) fun c hc hp => ?_
 refine zbh (τ' := frL [(0, .d (zaw n)), (1, .d (shD sh))]) (by repeat (first | exact zam _ | refine zai ?_ (by first | rfl | (simp [r_f, zaa, zab, zae, zad, za9, za6]; done) | simp [r_f, zaa, zab, zae, zad, za9, za6, *]))) ?_
 refine zac hp zak hc rfl fun K1 hK1 => ?_
 simp -dsimp -implicitDefEqProofs (disch := first | assumption | omega | (simp only [r_z, zaa, zab, zae, zad, za9, za6] <;> omega) | decide) only [r_r, ↓reduceIte, Nat.reduceEqDiff, Nat.reduceAdd, D.fix, Int.reduceToNat, Nat.reduceMul, Nat.reduceBNe, Nat.reduceBEq, r_m, zaw, zax, zaf, zag, shD, zbw, zb1, zfh]
 refine hK1 _ _ ?_
 refine zac hp zak hc rfl fun K2 hK2 => ?_
 simp -dsimp -implicitDefEqProofs (disch := first | assumption | omega | (simp only [r_z, zaa, zab, zae, zad, za9, za6] <;> omega) | decide) only [r_r, ↓reduceIte, Nat.reduceEqDiff, Nat.reduceAdd, D.fix, Int.reduceToNat, Nat.reduceMul, Nat.reduceBNe, Nat.reduceBEq, r_m, zaw, zax, zaf, zag, shD, zbw, zb1, zfh]
 refine hK2 _ _ ?_
 refine zao fun K3 hK3 => ?_
 refine zac hp zak hc rfl fun K4 hK4 => ?_
 simp -dsimp -implicitDefEqProofs (disch := first | assumption | omega | (simp only [r_z, zaa, zab, zae, zad, za9, za6] <;> omega) | decide) only [r_r, ↓reduceIte, Nat.reduceEqDiff, Nat.reduceAdd, D.fix, Int.reduceToNat, Nat.reduceMul, Nat.reduceBNe, Nat.reduceBEq, r_m, zaw, zax, zaf, zag, shD, zbw, zb1, zfh]
 refine hK4 _ _ ?_
 refine zaz ?_
 refine zbb hp (fun τ' H' mm => ∃ (i : Nat), (i ≤ 2 + n.ins.length + n.gates.length) ∧ mm = 2 + n.ins.length + n.gates.length - i ∧ H' = [.cells (avs (zax n)), .cells (avs (zit (fun j => (j : Int)) (2 + n.ins.length + n.gates.length) i))] ∧ τ' = frL [(1, .d (shD sh)), (2, .op 0 0), (4, .d (.val (.slice none 0 0))), (5, .d (iD 0)), (6, .os 1 1 0 (2 + n.ins.length + n.gates.length)), (26, .d (iD (2 + n.ins.length + n.gates.length : Nat))), (27, .d (iD i))]) (2 + n.ins.length + n.gates.length) ?_ ⟨0, Nat.zero_le _, rfl, rfl, rfl⟩ ?_
 ·refine Rt.trans (Rt.gc (keep := [0,1]) (by decide) (by decide) (by simp [fzH, gcH])) ?_
  refine Rt.end (by repeat (first | exact zam _ | refine zai ?_ (by first | rfl | (simp [r_f, zaa, zab, zae, zad, za9, za6]; done) | simp [r_f, zaa, zab, zae, zad, za9, za6, *]))) ?_
  simp only [r_g, Nat.reduceAdd, ↓reduceIte, Nat.reduceEqDiff, r_m, zaw, zax, zaf, zag, shD, zbw, zb1]; rw [← jeh]; rfl
 rintro τ' H' mm ⟨i, hi2, rfl, rfl, rfl⟩
 refine zac hp zak hc rfl fun K5 hK5 => ?_
 simp -dsimp -implicitDefEqProofs (disch := first | assumption | omega | (simp only [r_z, zaa, zab, zae, zad, za9, za6] <;> omega) | decide) only [r_r, ↓reduceIte, Nat.reduceEqDiff, Nat.reduceAdd, D.fix, Int.reduceToNat, Nat.reduceMul, Nat.reduceBNe, Nat.reduceBEq, r_m, zaw, zax, zaf, zag, shD, zbw, zb1, zfh]
 refine hK5 _ _ ?_
 refine zao fun K6 hK6 => ?_
 refine zaq rfl (fun ht => ?_) (fun ht => ?_)
 ·have hlt : i < 2 + n.ins.length + n.gates.length := by simp at ht; omega
  refine zay (hK6 _ _ ?_)
  refine zao fun K7 hK7 => ?_
  refine zaz ?_
  refine zac hp zak hc rfl fun K8 hK8 => ?_
  simp -dsimp -implicitDefEqProofs (disch := first | assumption | omega | (simp only [r_z, zaa, zab, zae, zad, za9, za6] <;> omega) | decide) only [r_r, ↓reduceIte, Nat.reduceEqDiff, Nat.reduceAdd, D.fix, Int.reduceToNat, Nat.reduceMul, Nat.reduceBNe, Nat.reduceBEq, r_m, zaw, zax, zaf, zag, shD, zbw, zb1]
  refine hK8 _ _ ?_
  refine zbt hp zak hc rfl fun K9 hK9 => ?_
  simp -dsimp -implicitDefEqProofs (disch := first | assumption | omega | (simp only [r_z, zaa, zab, zae, zad, za9, za6] <;> omega) | decide) only [r_r, ↓reduceIte, Nat.reduceEqDiff, Nat.reduceAdd, D.fix, Int.reduceToNat, Nat.reduceMul, Nat.reduceBNe, Nat.reduceBEq, r_m, zaw, zax, zaf, zag, shD, zbw, zb1, zfh]
  refine hK9 _ _ (hK7 _ _ ?_)
  refine zbt hp zak hc rfl fun K10 hK10 => ?_
  simp -dsimp -implicitDefEqProofs (disch := first | assumption | omega | (simp only [r_z, zaa, zab, zae, zad, za9, za6] <;> omega) | decide) only [r_r, ↓reduceIte, Nat.reduceEqDiff, Nat.reduceAdd, D.fix, Int.reduceToNat, Nat.reduceMul, Nat.reduceBNe, Nat.reduceBEq, r_m, zaw, zax, zaf, zag, shD, zbw, zb1, zfh]
  refine hK10 _ _ ⟨_, _, _, ?_, ⟨i + 1, by omega, rfl, rfl, rfl⟩, ?_⟩
  ·first | omega | (simp only [List.length_cons]; omega) | (dsimp only; omega)
  ·refine Rt.trans (Rt.gc (keep := [0,1]) (by decide) (by decide) (by simp [fzH, gcH])) ?_
   refine Rt.end (by repeat (first | exact zam _ | refine zai ?_ (by first | rfl | (simp [r_f, zaa, zab, zae, zad, za9, za6]; done) | simp [r_f, zaa, zab, zae, zad, za9, za6, *]))) ?_
   simp only [r_g, Nat.reduceAdd, ↓reduceIte, Nat.reduceEqDiff, r_m, zaw, zax, zaf, zag, shD, zbw, zb1]; rw [← zqt hlt]; rfl
 ·have hie : i = 2 + n.ins.length + n.gates.length := by simp at ht; omega
  have hfa : zit (fun j => (j : Int)) (2 + n.ins.length + n.gates.length) i = (zxz n).map iD := by rw [hie, jei]; unfold zxz; rw [List.map_map]; rfl
  rw [hfa]
  refine zbn (hK3 _ _ ?_)
  refine zb3 hp (τ' := frL [(1, .d (shD sh)), (2, .op 0 0), (4, .d (.val (.slice none 0 0))), (5, .d (iD 0)), (6, .d (intsD (zxz n)))]) (H' := [.cells (avs (zax n))]) ?_ ?_
  ·refine Rt.trans (Rt.fz (id := 1) rfl) ?_
   refine Rt.trans (Rt.slot 6 (zrw (zdh (by simp [r_z, zaa, zab, zae, zad, za9, za6])))) ?_
   refine Rt.trans (Rt.gc (keep := [0]) (by decide) (by decide) (by simp [fzH, gcH])) ?_
   refine Rt.end (by repeat (first | exact zam _ | refine zai ?_ (by first | rfl | (simp [r_f, zaa, zab, zae, zad, za9, za6]; done) | simp [r_f, zaa, zab, zae, zad, za9, za6, *]))) ?_
   first | rfl | (simp only [r_g, Nat.reduceAdd, ↓reduceIte, Nat.reduceEqDiff, r_m, zaw, zax, zaf, zag, shD, zbw, zb1]; first | done | rfl)
  refine zac hp zak hc rfl fun K11 hK11 => ?_
  simp -dsimp -implicitDefEqProofs (disch := first | assumption | omega | (simp only [r_z, zaa, zab, zae, zad, za9, za6] <;> omega) | decide) only [r_r, ↓reduceIte, Nat.reduceEqDiff, Nat.reduceAdd, D.fix, Int.reduceToNat, Nat.reduceMul, Nat.reduceBNe, Nat.reduceBEq, r_m, zaw, zax, zaf, zag, shD, zbw, zb1, zfh]
  refine zb8 (h) rfl ?_
  simp -dsimp -implicitDefEqProofs (disch := first | assumption | omega | (simp only [r_z, zaa, zab, zae, zad, za9, za6] <;> omega) | decide) only [r_r, ↓reduceIte, Nat.reduceEqDiff, Nat.reduceAdd, D.fix, Int.reduceToNat, Nat.reduceMul, Nat.reduceBNe, Nat.reduceBEq, r_m, zaw, zax, zaf, zag, shD, zbw, zb1, zfh]
  refine hK11 _ _ ?_
  refine zao fun K12 hK12 => ?_
  refine zac hp zak hc rfl fun K13 hK13 => ?_
  simp -dsimp -implicitDefEqProofs (disch := first | assumption | omega | (simp only [r_z, zaa, zab, zae, zad, za9, za6] <;> omega) | decide) only [r_r, ↓reduceIte, Nat.reduceEqDiff, Nat.reduceAdd, D.fix, Int.reduceToNat, Nat.reduceMul, Nat.reduceBNe, Nat.reduceBEq, r_m, zaw, zax, zaf, zag, shD, zbw, zb1, zfh]
  refine hK13 _ _ ?_
  refine zaq rfl (fun ht => ?_) (fun ht => ?_)
  ·cases ht
  ·refine zay (hK12 _ _ ?_)
   refine zac hp zak hc rfl fun K14 hK14 => ?_
   simp -dsimp -implicitDefEqProofs (disch := first | assumption | omega | (simp only [r_z, zaa, zab, zae, zad, za9, za6] <;> omega) | decide) only [r_r, ↓reduceIte, Nat.reduceEqDiff, Nat.reduceAdd, D.fix, Int.reduceToNat, Nat.reduceMul, Nat.reduceBNe, Nat.reduceBEq, r_m, zaw, zax, zaf, zag, shD, zbw, zb1, zfh]
   refine hK14 _ _ ?_
   refine zac hp zak hc rfl fun K15 hK15 => ?_
   simp -dsimp -implicitDefEqProofs (disch := first | assumption | omega | (simp only [r_z, zaa, zab, zae, zad, za9, za6] <;> omega) | decide) only [r_r, ↓reduceIte, Nat.reduceEqDiff, Nat.reduceAdd, D.fix, Int.reduceToNat, Nat.reduceMul, Nat.reduceBNe, Nat.reduceBEq, r_m, zaw, zax, zaf, zag, shD, zbw, zb1, zfh]
   refine hK15 _ _ ?_
   refine zao fun K16 hK16 => ?_
   refine zac hp zak hc rfl fun K17 hK17 => ?_
   simp -dsimp -implicitDefEqProofs (disch := first | assumption | omega | (simp only [r_z, zaa, zab, zae, zad, za9, za6] <;> omega) | decide) only [r_r, ↓reduceIte, Nat.reduceEqDiff, Nat.reduceAdd, D.fix, Int.reduceToNat, Nat.reduceMul, Nat.reduceBNe, Nat.reduceBEq, r_m, zaw, zax, zaf, zag, shD, zbw, zb1, zfh]
   refine hK17 _ _ ?_
   refine zaz ?_
   refine zbb hp (fun τ' H' mm => ∃ (k : Nat) (μ : Mp), (k ≤ rs.length ∧ LsP rs k μ) ∧ mm = rs.length - k ∧ H' = [.cells (avs (zax n)), .cells (avs (zb1 ns rs)), mO μ, .cells (avs (zit (fun j => (zzd rs (nth rs j) : Int)) rs.length k))] ∧ τ' = frL [(4, .d (.val (.slice none 0 0))), (5, .d (iD 0)), (10, .om 2), (11, .os 1 3 0 rs.length), (50, .d (.fs (rs.map zbz) rs.length)), (51, .d (iD rs.length)), (52, .d (iD k))]) (rs.length) ?_ ⟨0, ([], 0), ⟨Nat.zero_le _, LsP.nil rs⟩, rfl, rfl, rfl⟩ ?_
   ·refine Rt.trans (Rt.gc (keep := [0,1,2,3]) (by decide) (by decide) (by simp [fzH, gcH])) ?_
    refine Rt.end (by repeat (first | exact zam _ | refine zai ?_ (by first | rfl | (simp [r_f, zaa, zab, zae, zad, za9, za6]; done) | simp [r_f, zaa, zab, zae, zad, za9, za6, *]))) ?_
    simp only [r_g, Nat.reduceAdd, ↓reduceIte, Nat.reduceEqDiff, r_m, zaw, zax, zaf, zag, shD, zbw, zb1]; rw [za6, ← hrl, ← jeh]; rfl
   rintro τ' H' mm ⟨k, μ, ⟨hk, hL⟩, rfl, rfl, rfl⟩
   refine zac hp zak hc rfl fun K18 hK18 => ?_
   simp -dsimp -implicitDefEqProofs (disch := first | assumption | omega | (simp only [r_z, zaa, zab, zae, zad, za9, za6] <;> omega) | decide) only [r_r, ↓reduceIte, Nat.reduceEqDiff, Nat.reduceAdd, D.fix, Int.reduceToNat, Nat.reduceMul, Nat.reduceBNe, Nat.reduceBEq, r_m, zaw, zax, zaf, zag, shD, zbw, zb1, zfh]
   refine hK18 _ _ ?_
   refine zao fun K19 hK19 => ?_
   refine zaq rfl (fun ht => ?_) (fun ht => ?_)
   ·have hlt : k < rs.length := by simp at ht; omega
    have hky : zpw Try.prog tI (.int .i64 ((nth rs k : Nat) : Int)) := jjm (hb _ (zb9 hlt))
    refine zay (hK19 _ _ ?_)
    refine zao fun K20 hK20 => ?_
    refine zaz ?_
    refine zac hp zak hc rfl fun K21 hK21 => ?_
    simp -dsimp -implicitDefEqProofs (disch := first | assumption | omega | (simp only [r_z, zaa, zab, zae, zad, za9, za6] <;> omega) | decide) only [r_r, ↓reduceIte, Nat.reduceEqDiff, Nat.reduceAdd, D.fix, Int.reduceToNat, Nat.reduceMul, Nat.reduceBNe, Nat.reduceBEq, r_m, zaw, zax, zaf, zag, shD, zbw, zb1, zc2, zbz, zfh]
    refine hK21 _ _ ?_
    refine zao fun K22 hK22 => ?_
    have hJ22 : ∀ τ' H', (∃ τ1 H1, ∃ (μ' : Mp), (LsP rs (k + 1) μ') ∧ H1 = [.cells (avs (zax n)), .cells (avs (zb1 ns rs)), mO μ', .cells (avs (zit (fun j => (zzd rs (nth rs j) : Int)) rs.length k))] ∧ τ1 = frL [(4, .d (.val (.slice none 0 0))), (5, .d (iD 0)), (10, .om 2), (11, .os 1 3 0 rs.length), (12, .d (iD k)), (13, .d (iD ((nth rs k : Nat) : Int))), (50, .d (.fs (rs.map zbz) rs.length)), (51, .d (iD rs.length)), (52, .d (iD k))] ∧ Rt [] τ' H' τ1 H1) → K22 τ' H' := by
     rintro τ' H' ⟨_, _, μ', hL', rfl, rfl, hrt⟩
     refine hK22 _ _ (zb3 hp hrt ?_)
     clear hrt
     have hgm' : zgw (.int .i64 ((nth rs k : Nat) : Int)) μ' = some (vi (zzd rs (nth rs k))) := hL'.yes k (by omega)
     refine zbt hp zak hc rfl fun K23 hK23 => ?_
     simp -dsimp -implicitDefEqProofs (disch := first | assumption | omega | (simp only [r_z, zaa, zab, zae, zad, za9, za6] <;> omega) | decide) only [r_r, ↓reduceIte, Nat.reduceEqDiff, Nat.reduceAdd, D.fix, Int.reduceToNat, Nat.reduceMul, Nat.reduceBNe, Nat.reduceBEq, r_m, zaw, zax, zaf, zag, shD, zbw, zb1, zia, jks mtI hky hL'.ok, hgm', Option.getD_some, vi, zfh]
     refine hK23 _ _ (hK20 _ _ ?_)
     refine zbt hp zak hc rfl fun K24 hK24 => ?_
     simp -dsimp -implicitDefEqProofs (disch := first | assumption | omega | (simp only [r_z, zaa, zab, zae, zad, za9, za6] <;> omega) | decide) only [r_r, ↓reduceIte, Nat.reduceEqDiff, Nat.reduceAdd, D.fix, Int.reduceToNat, Nat.reduceMul, Nat.reduceBNe, Nat.reduceBEq, r_m, zaw, zax, zaf, zag, shD, zbw, zb1, zfh]
     refine hK24 _ _ ⟨_, _, _, ?_, ⟨k + 1, μ', ⟨by omega, hL'⟩, rfl, rfl, rfl⟩, ?_⟩
     ·first | omega | (simp only [List.length_cons]; omega) | (dsimp only; omega)
     ·refine Rt.trans (Rt.gc (keep := [0,1,2,3]) (by decide) (by decide) (by simp [fzH, gcH])) ?_
      refine Rt.end (by repeat (first | exact zam _ | refine zai ?_ (by first | rfl | (simp [r_f, zaa, zab, zae, zad, za9, za6]; done) | simp [r_f, zaa, zab, zae, zad, za9, za6, *]))) ?_
      simp only [r_g, Nat.reduceAdd, ↓reduceIte, Nat.reduceEqDiff, r_m, zaw, zax, zaf, zag, shD, zbw, zb1]; rw [← zqt hlt]; rfl
    refine zac hp zak hc rfl fun K25 hK25 => ?_
    by_cases hex : ∃ j, j < k ∧ nth rs j = nth rs k
    ·obtain ⟨j, hj, e⟩ := hex
     have hgm : zgw (.int .i64 ((nth rs k : Nat) : Int)) μ = some (vi (zzd rs (nth rs k))) := by rw [← e]; exact hL.yes j hj
     simp -dsimp -implicitDefEqProofs (disch := first | assumption | omega | (simp only [r_z, zaa, zab, zae, zad, za9, za6] <;> omega) | decide) only [r_r, ↓reduceIte, Nat.reduceEqDiff, Nat.reduceAdd, D.fix, Int.reduceToNat, Nat.reduceMul, Nat.reduceBNe, Nat.reduceBEq, r_m, zaw, zax, zaf, zag, shD, zbw, zb1, zia, zr7 mtI hky hL.ok, hgm, Option.getD_some, Option.getD_none, Option.isSome_some, Option.isSome_none, vi, zfh]
     refine hK25 _ _ ?_
     refine zac hp zak hc rfl fun K26 hK26 => ?_
     simp -dsimp -implicitDefEqProofs (disch := first | assumption | omega | (simp only [r_z, zaa, zab, zae, zad, za9, za6] <;> omega) | decide) only [r_r, ↓reduceIte, Nat.reduceEqDiff, Nat.reduceAdd, D.fix, Int.reduceToNat, Nat.reduceMul, Nat.reduceBNe, Nat.reduceBEq, r_m, zaw, zax, zaf, zag, shD, zbw, zb1, zfh]
     refine hK26 _ _ ?_
     refine zaq rfl (fun ht => ?_) (fun ht => ?_)
     ·cases ht
     ·refine zay (hJ22 _ _ ⟨_, _, μ, hL.same hj e, rfl, rfl, ?_⟩)
      refine Rt.trans (Rt.gc (keep := [0,1,2,3]) (by decide) (by decide) (by simp [fzH, gcH])) ?_
      refine Rt.end (by repeat (first | exact zam _ | refine zai ?_ (by first | rfl | (simp [r_f, zaa, zab, zae, zad, za9, za6]; done) | simp [r_f, zaa, zab, zae, zad, za9, za6, *]))) ?_
      first | rfl | (simp only [r_g, Nat.reduceAdd, ↓reduceIte, Nat.reduceEqDiff, r_m, zaw, zax, zaf, zag, shD, zbw, zb1]; first | done | rfl)
    ·have hnx : ∀ j, j < k → nth rs j ≠ nth rs k := fun j hj e => hex ⟨j, hj, e⟩
     have hgm : zgw (.int .i64 ((nth rs k : Nat) : Int)) μ = none := hL.no _ hnx (hb _ (zb9 hlt))
     simp -dsimp -implicitDefEqProofs (disch := first | assumption | omega | (simp only [r_z, zaa, zab, zae, zad, za9, za6] <;> omega) | decide) only [r_r, ↓reduceIte, Nat.reduceEqDiff, Nat.reduceAdd, D.fix, Int.reduceToNat, Nat.reduceMul, Nat.reduceBNe, Nat.reduceBEq, r_m, zaw, zax, zaf, zag, shD, zbw, zb1, zia, zr7 mtI hky hL.ok, hgm, Option.getD_some, Option.getD_none, Option.isSome_some, Option.isSome_none, vi, zfh]
     refine hK25 _ _ ?_
     refine zac hp zak hc rfl fun K27 hK27 => ?_
     simp -dsimp -implicitDefEqProofs (disch := first | assumption | omega | (simp only [r_z, zaa, zab, zae, zad, za9, za6] <;> omega) | decide) only [r_r, ↓reduceIte, Nat.reduceEqDiff, Nat.reduceAdd, D.fix, Int.reduceToNat, Nat.reduceMul, Nat.reduceBNe, Nat.reduceBEq, r_m, zaw, zax, zaf, zag, shD, zbw, zb1, zfh]
     refine hK27 _ _ ?_
     refine zaq rfl (fun ht => ?_) (fun ht => ?_)
     ·refine zbt hp zak hc rfl fun K28 hK28 => ?_
      simp -dsimp -implicitDefEqProofs (disch := first | assumption | omega | (simp only [r_z, zaa, zab, zae, zad, za9, za6] <;> omega) | decide) only [r_r, ↓reduceIte, Nat.reduceEqDiff, Nat.reduceAdd, D.fix, Int.reduceToNat, Nat.reduceMul, Nat.reduceBNe, Nat.reduceBEq, r_m, zaw, zax, zaf, zag, shD, zbw, zb1, jbz mtI hky hL.ok, zfh]
      refine hK28 _ _ (hJ22 _ _ ⟨_, _, znz (.int .i64 ((nth rs k : Nat) : Int)) (.int .i64 (k : Int)) μ, hL.new hlt hb hnx, rfl, rfl, ?_⟩)
      refine Rt.trans (Rt.gc (keep := [0,1,2,3]) (by decide) (by decide) (by simp [fzH, gcH])) ?_
      refine Rt.end (by repeat (first | exact zam _ | refine zai ?_ (by first | rfl | (simp [r_f, zaa, zab, zae, zad, za9, za6]; done) | simp [r_f, zaa, zab, zae, zad, za9, za6, *]))) ?_
      first | rfl | (simp only [r_g, Nat.reduceAdd, ↓reduceIte, Nat.reduceEqDiff, r_m, zaw, zax, zaf, zag, shD, zbw, zb1]; first | done | rfl)
     ·cases ht
   ·have hke : k = rs.length := by simp at ht; omega
    have hfr : zit (fun j => (zzd rs (nth rs j) : Int)) rs.length k = (rs.map fun r => (zzd rs r : Int)).map iD := by
     rw [hke, jei, List.map_map]
     refine List.ext_getElem (by simp) fun i h1 h2 => ?_
     simp only [List.getElem_map, List.getElem_range, Function.comp]
     rw [zb6 (by simpa using h2)]
    rw [hfr]
    refine zbn (hK16 _ _ ?_)
    refine zac hp zak hc rfl fun K29 hK29 => ?_
    simp -dsimp -implicitDefEqProofs (disch := first | assumption | omega | (simp only [r_z, zaa, zab, zae, zad, za9, za6] <;> omega) | decide) only [r_r, ↓reduceIte, Nat.reduceEqDiff, Nat.reduceAdd, D.fix, Int.reduceToNat, Nat.reduceMul, Nat.reduceBNe, Nat.reduceBEq, r_m, zaw, zax, zaf, zag, shD, zbw, zb1]
    refine hK29 _ _ ?_
    refine za4 ?_
    show closeA _ _ = _
    simp (disch := first | assumption | omega | (simp only [r_z, zaa, zab, zae, zad, za9, za6] <;> omega) | decide) only [r_c, Nat.reduceAdd, D.fix, ↓reduceIte, Nat.reduceEqDiff, r_m, zaw, zax, zaf, zag, shD, zbw, zb1]
end Go.Proofs.Ytignimmnnccblaa
