/- The classes of nodes: the law. -/
import Derived.Test.YtignimmnnccblaaQr
import Derived.Test.YtignimmnnccblaaMl
set_option linter.unusedVariables false
set_option linter.unusedSimpArgs false
set_option maxRecDepth 100000
set_option maxHeartbeats 4000000
namespace Go.Proofs.Ytignimmnnccblaa
open Go Go.RowKit
theorem zd4 : (((((((type_of% @zsr) ∧ (type_of% @zss)) ∧ ((type_of% @zmn) ∧ (type_of% @zmo))) ∧ (((type_of% @zre) ∧ (type_of% @zds)) ∧ ((type_of% @zdt) ∧ (type_of% @zg6)))) ∧ ((((type_of% @zg5) ∧ (type_of% @jep)) ∧ ((type_of% @jeq) ∧ (type_of% @ji1))) ∧ (((type_of% @ze9) ∧ (type_of% @zfa)) ∧ ((type_of% @zfc) ∧ ((type_of% @jfx) ∧ (type_of% @zqk)))))) ∧ (((((type_of% @zql) ∧ (type_of% @zqm)) ∧ ((type_of% @zqn) ∧ (type_of% @zqo))) ∧ (((type_of% @zqp) ∧ (type_of% @zqq)) ∧ ((type_of% @zqr) ∧ ((type_of% @zqs) ∧ (type_of% @zqt))))) ∧ ((((type_of% @zmp) ∧ (type_of% @zmq)) ∧ ((type_of% @zjn) ∧ (type_of% @zjo))) ∧ (((type_of% @zjp) ∧ (type_of% @zsy)) ∧ ((type_of% @zsx) ∧ ((type_of% @ze4) ∧ (type_of% @ze5))))))) ∧ ((((((type_of% @ze6) ∧ (type_of% @ze7)) ∧ ((type_of% @zhq) ∧ (type_of% @zhr))) ∧ (((type_of% @zt9) ∧ (type_of% @zua)) ∧ ((type_of% @zy3) ∧ ((type_of% @zy2) ∧ (type_of% @zqw))))) ∧ ((((type_of% @zqx) ∧ (type_of% @zjk)) ∧ ((type_of% @zjl) ∧ (type_of% @zjm))) ∧ (((type_of% @zqu) ∧ (type_of% @zqv)) ∧ ((type_of% @zdf) ∧ ((type_of% @zdg) ∧ (type_of% @zdh)))))) ∧ (((((type_of% @zdq) ∧ (type_of% @jfy)) ∧ ((type_of% @jfz) ∧ (type_of% @jf0))) ∧ (((type_of% @jf1) ∧ (type_of% @zlz)) ∧ ((type_of% @zl0) ∧ ((type_of% @jf2) ∧ (type_of% @jf3))))) ∧ ((((type_of% @jf4) ∧ (type_of% @zkr)) ∧ ((type_of% @zks) ∧ (type_of% @zkt))) ∧ (((type_of% @zku) ∧ (type_of% @zn1)) ∧ ((type_of% @zn2) ∧ ((type_of% @zn3) ∧ (type_of% @zn4)))))))) := ⟨⟨⟨⟨⟨⟨@zsr, @zss⟩, ⟨@zmn, @zmo⟩⟩, ⟨⟨@zre, @zds⟩, ⟨@zdt, @zg6⟩⟩⟩, ⟨⟨⟨@zg5, @jep⟩, ⟨@jeq, @ji1⟩⟩, ⟨⟨@ze9, @zfa⟩, ⟨@zfc, ⟨@jfx, @zqk⟩⟩⟩⟩⟩, ⟨⟨⟨⟨@zql, @zqm⟩, ⟨@zqn, @zqo⟩⟩, ⟨⟨@zqp, @zqq⟩, ⟨@zqr, ⟨@zqs, @zqt⟩⟩⟩⟩, ⟨⟨⟨@zmp, @zmq⟩, ⟨@zjn, @zjo⟩⟩, ⟨⟨@zjp, @zsy⟩, ⟨@zsx, ⟨@ze4, @ze5⟩⟩⟩⟩⟩⟩, ⟨⟨⟨⟨⟨@ze6, @ze7⟩, ⟨@zhq, @zhr⟩⟩, ⟨⟨@zt9, @zua⟩, ⟨@zy3, ⟨@zy2, @zqw⟩⟩⟩⟩, ⟨⟨⟨@zqx, @zjk⟩, ⟨@zjl, @zjm⟩⟩, ⟨⟨@zqu, @zqv⟩, ⟨@zdf, ⟨@zdg, @zdh⟩⟩⟩⟩⟩, ⟨⟨⟨⟨@zdq, @jfy⟩, ⟨@jfz, @jf0⟩⟩, ⟨⟨@jf1, @zlz⟩, ⟨@zl0, ⟨@jf2, @jf3⟩⟩⟩⟩, ⟨⟨⟨@jf4, @zkr⟩, ⟨@zks, @zkt⟩⟩, ⟨⟨@zku, @zn1⟩, ⟨@zn2, ⟨@zn3, @zn4⟩⟩⟩⟩⟩⟩⟩
def jl9 (n : Net) (sh : Sh) (V i : Nat) : List Bool := zta n.gates (zl9 n.ins.length (zhz V (i : Int))) (zg8 n.ins.length sh (zhz V (i : Int)))
def zlr (n : Net) (sh : Sh) (V k : Nat) : List (List Bool) := (List.range k).map (jl9 n sh V)
theorem za2 (n : Net) (sh : Sh) (V k : Nat) : (zlr n sh V k).length = k := by simp [zlr]
theorem jly (n : Net) (sh : Sh) (V k : Nat) : zlr n sh V (k + 1) = zlr n sh V k ++ [jl9 n sh V k] := by unfold zlr; rw [znq]
theorem zyk (n : Net) (sh : Sh) (V i : Nat) : (jl9 n sh V i).length = 2 + n.ins.length + n.gates.length := jdn _ _ _ _
theorem jek {n : Net} {sh : Sh} {V k : Nat} : ∀ r ∈ zlr n sh V k, r.length = 2 + n.ins.length + n.gates.length := fun r hr => by
 obtain ⟨i, _, rfl⟩ := List.mem_map.1 hr
 exact zyk _ _ _ _
theorem jrg {n : Net} {sh : Sh} (hsh : ShOk sh) (hg : GatesOk (2 + n.ins.length) n.gates) {fs : List T} (hF : FsP (zci n.ins.length sh) n.ins.length sh n.gates n.gates.length fs) (hV : zci n.ins.length sh ≤ 60) {a b : Nat} (ha : a < fs.length) (hb : b < fs.length) :
  jl8 (zlr n sh (zci n.ins.length sh) (2 ^ zci n.ins.length sh)) a b = decide (nth fs a = nth fs b) := by
 have hl := hF.len
 have hrow : ∀ q, q < 2 ^ zci n.ins.length sh → ∀ k, k < fs.length → nth (jl9 n sh (zci n.ins.length sh) q) k = (nth fs k).eval (asn (zci n.ins.length sh) q) := fun q hq k hk => by
  have hm := jsl hsh hF hg (zhz (zci n.ins.length sh) (q : Int)) n.gates.length (Nat.le_refl _) k (by omega)
  rw [List.take_length, jdu (jrc hV hq) hV] at hm
  exact hm
 unfold jl8
 rw [Bool.eq_iff_iff, List.all_eq_true, decide_eq_true_eq]
 constructor
 ·intro h
  refine jdw (n := zci n.ins.length sh) (hF.ok _ (zb6 ha)) (hF.ok _ (zb6 hb)) fun q hq => ?_
  have := h (jl9 n sh (zci n.ins.length sh) q) (List.mem_map.2 ⟨q, List.mem_range.2 hq, rfl⟩)
  rw [hrow q hq a ha, hrow q hq b hb] at this
  exact eq_of_beq this
 ·intro h r hr
  obtain ⟨q, hq, rfl⟩ := List.mem_map.1 hr
  have hq := List.mem_range.1 hq
  rw [hrow q hq a ha, hrow q hq b hb, h]
  simp
def ze1 (L : List Int) (E : Int) : D := .fp [intsD L, iD E] 0
theorem zup (x : RawN) (hx : RawOk x) (hi : x.ins.length ≤ maxLen) (hg : x.gates.length ≤ maxLen) (ho : x.out.length ≤ maxLen) (k0 k1 : Nat) (h0 : k0 < 256) (h1 : k1 < 256) : zbf Try.prog 5 [.agg (zbp x), u8D k0, u8D k1] (.d (oD true)) := by
 refine zbi (fn := Try.f5) (by kernel_rfl) Try.func5 rfl (Nat.le_of_ble_eq_true rfl) fun c hc hp => ?_
 refine zbk (τ' := frL [(0, .d (.agg (zbp x))), (1, .d (u8D k0)), (2, .d (u8D k1))]) (by repeat (first | exact zal _ | refine zai ?_ (by first | rfl | (simp [r_f, zav, zaw, zab, zaa, zad, za2, zc5, za2]; done) | simp [r_f, zav, zaw, zab, zaa, zad, za2, zc5, za2, *]))) ?_
 refine zac hp zaj hc rfl fun K1 hK1 => ?_
 simp -dsimp -implicitDefEqProofs (disch := first | assumption | omega | (simp only [r_z, zav, zaw, zab, zaa, zad, za2] <;> omega) | decide) only [r_r, ↓reduceIte, Nat.reduceEqDiff, Nat.reduceAdd, D.fix, Int.reduceToNat, Nat.reduceMul, Nat.reduceBNe, Nat.reduceBEq, zbp, u8D, zas, zaz, zaf, zag, shD, clD, fpC, ze1, zd4]
 refine hK1 _ _ ?_
 refine zac hp zaj hc rfl fun K2 hK2 => ?_
 simp -dsimp -implicitDefEqProofs (disch := first | assumption | omega | (simp only [r_z, zav, zaw, zab, zaa, zad, za2] <;> omega) | decide) only [r_r, ↓reduceIte, Nat.reduceEqDiff, Nat.reduceAdd, D.fix, Int.reduceToNat, Nat.reduceMul, Nat.reduceBNe, Nat.reduceBEq, zbp, u8D, zas, zaz, zaf, zag, shD, clD, fpC, ze1]
 refine zb8 (zpa) rfl ?_
 simp -dsimp -implicitDefEqProofs (disch := first | assumption | omega | (simp only [r_z, zav, zaw, zab, zaa, zad, za2] <;> omega) | decide) only [r_r, ↓reduceIte, Nat.reduceEqDiff, Nat.reduceAdd, D.fix, Int.reduceToNat, Nat.reduceMul, Nat.reduceBNe, Nat.reduceBEq, zbp, u8D, zas, zaz, zaf, zag, shD, clD, fpC, ze1]
 refine hK2 _ _ ?_
 refine zan fun K3 hK3 => ?_
 refine zac hp zaj hc rfl fun K4 hK4 => ?_
 simp -dsimp -implicitDefEqProofs (disch := first | assumption | omega | (simp only [r_z, zav, zaw, zab, zaa, zad, za2] <;> omega) | decide) only [r_r, ↓reduceIte, Nat.reduceEqDiff, Nat.reduceAdd, D.fix, Int.reduceToNat, Nat.reduceMul, Nat.reduceBNe, Nat.reduceBEq, zbp, u8D, zas, zaz, zaf, zag, shD, clD, fpC, ze1, zd4]
 refine hK4 _ _ ?_
 refine zap rfl (fun ht => ?_) (fun ht => ?_)
 ·cases ht
 ·refine za0 (hK3 _ _ ?_)
  refine zac hp zaj hc rfl fun K5 hK5 => ?_
  simp -dsimp -implicitDefEqProofs (disch := first | assumption | omega | (simp only [r_z, zav, zaw, zab, zaa, zad, za2] <;> omega) | decide) only [r_r, ↓reduceIte, Nat.reduceEqDiff, Nat.reduceAdd, D.fix, Int.reduceToNat, Nat.reduceMul, Nat.reduceBNe, Nat.reduceBEq, zbp, u8D, zas, zaz, zaf, zag, shD, clD, fpC, ze1, zd4]
  refine zov (jeb x hx hi hg ho) rfl fun r hr => ?_
  obtain ⟨n, hn, rfl⟩ := hr
  simp -dsimp -implicitDefEqProofs (disch := first | assumption | omega | (simp only [r_z, zav, zaw, zab, zaa, zad, za2] <;> omega) | decide) only [r_r, ↓reduceIte, Nat.reduceEqDiff, Nat.reduceAdd, D.fix, Int.reduceToNat, Nat.reduceMul, Nat.reduceBNe, Nat.reduceBEq, zbp, u8D, zas, zaz, zaf, zag, shD, clD, fpC, ze1, zd4]
  refine hK5 _ _ ?_
  refine zb3 hp (τ' := frL [(1, .d (u8D k0)), (2, .d (u8D k1)), (7, .d (oD true)), (8, .d (fpC n))]) (H' := []) ?_ ?_
  ·refine Rt.trans (Rt.fz (id := 1) (l := zaz n) rfl) ?_
   refine Rt.trans (Rt.gc (keep := []) (by decide) (by decide) (by simp [fzH, gcH])) ?_
   refine Rt.end (by repeat (first | exact zal _ | refine zai ?_ (by first | rfl | (simp [r_f, zav, zaw, zab, zaa, zad, za2, zc5, za2]; done) | simp [r_f, zav, zaw, zab, zaa, zad, za2, zc5, za2, *]))) ?_
   first | rfl | (simp only [r_g, Nat.reduceAdd, ↓reduceIte, Nat.reduceEqDiff, zbp, u8D, zas, zaz, zaf, zag, shD, clD, fpC, ze1]; first | done | rfl)
  obtain ⟨p, hpd⟩ : ∃ p, p = k0 % 3 := ⟨_, rfl⟩
  obtain ⟨q, hqd⟩ : ∃ q, q = k1 % 3 := ⟨_, rfl⟩
  have hp3 : (k0 : Int) % 3 = (p : Int) := by omega
  have hq3 : (k1 : Int) % 3 = (q : Int) := by omega
  have hpw : IntKind.i64.wrap (p : Int) = p := zp2 (by omega) (by omega)
  have hqw : IntKind.i64.wrap (q : Int) = q := zp2 (by omega) (by omega)
  obtain ⟨sh, hshd⟩ : ∃ sh : Sh, sh = [(p, q)] := ⟨_, rfl⟩
  have hpq : p * q ≤ 4 := Nat.mul_le_mul (show p ≤ 2 by omega) (show q ≤ 2 by omega)
  have hsh : ShOk sh := by
   rw [hshd]
   exact ⟨by simp, fun k hk => by
    have : k = 0 := by simpa using hk
    subst this
    exact ⟨by show p ≤ 8; omega, by show q ≤ 8; omega⟩⟩
  have hsv : zci n.ins.length sh ≤ n.ins.length + 5 := by rw [hshd]; simp [zci, zbw]; omega
  have hi9 := hn.i2
  have hg60 := hn.g1
  refine zac hp zaj hc rfl fun K6 hK6 => ?_
  simp -dsimp -implicitDefEqProofs (disch := first | assumption | omega | (simp only [r_z, zav, zaw, zab, zaa, zad, za2] <;> omega) | decide) only [r_r, ↓reduceIte, Nat.reduceEqDiff, Nat.reduceAdd, D.fix, Int.reduceToNat, Nat.reduceMul, Nat.reduceBNe, Nat.reduceBEq, zbp, u8D, zas, zaz, zaf, zag, shD, clD, fpC, ze1, hp3, hq3, hpw, hqw, zd4]
  refine hK6 _ _ ?_
  refine zb3 hp (τ' := frL [(7, .d (oD true)), (8, .d (fpC n)), (9, .d (.fs [iD p, iD q] 1))]) (H' := []) ?_ ?_
  ·refine Rt.trans (Rt.fz (id := 0) (l := [iD p, iD q]) rfl) ?_
   refine Rt.trans (Rt.gc (keep := []) (by decide) (by decide) (by simp [fzH, gcH])) ?_
   refine Rt.end (by repeat (first | exact zal _ | refine zai ?_ (by first | rfl | (simp [r_f, zav, zaw, zab, zaa, zad, za2, zc5, za2]; done) | simp [r_f, zav, zaw, zab, zaa, zad, za2, zc5, za2, *]))) ?_
   first | rfl | (simp only [r_g, Nat.reduceAdd, ↓reduceIte, Nat.reduceEqDiff, zbp, u8D, zas, zaz, zaf, zag, shD, clD, fpC, ze1]; first | done | rfl)
  have hsd : D.fs [iD p, iD q] 1 = shD sh := by rw [hshd]; rfl
  rw [hsd]
  obtain ⟨L, E, hS, hC⟩ := jef hn.b hsh hsv
  obtain ⟨V, hV⟩ : ∃ V, V = zci n.ins.length sh := ⟨_, rfl⟩
  have hV14 : V ≤ 14 := by omega
  have hvc := jqo n sh hsh (by omega)
  rw [← hV] at hvc
  obtain ⟨P, hP⟩ : ∃ P, P = 2 ^ V := ⟨_, rfl⟩
  have hp4 : P ≤ 1048576 := by rw [hP]; exact Nat.le_trans (Nat.pow_le_pow_right (by decide) hV14) (show 2 ^ 14 ≤ 1048576 by decide)
  have hu : IntKind.u64.wrap (V : Int) = V := jfc (by omega) (by omega)
  have hw : IntKind.i64.wrap (1 * 2 ^ min V 64) = (P : Int) := by rw [hP]; exact zx9 (a := 1) (by omega) (by omega) (by omega)
  have hw' : IntKind.i64.wrap (2 ^ min V 64) = (P : Int) := by rw [← hw, Int.one_mul]
  refine zac hp zaj hc rfl fun K7 hK7 => ?_
  simp -dsimp -implicitDefEqProofs (disch := first | assumption | omega | (simp only [r_z, zav, zaw, zab, zaa, zad, za2] <;> omega) | decide) only [r_r, ↓reduceIte, Nat.reduceEqDiff, Nat.reduceAdd, D.fix, Int.reduceToNat, Nat.reduceMul, Nat.reduceBNe, Nat.reduceBEq, zbp, u8D, zas, zaz, zaf, zag, shD, clD, fpC, ze1, zd4]
  refine zb8 (hvc) rfl ?_
  simp -dsimp -implicitDefEqProofs (disch := first | assumption | omega | (simp only [r_z, zav, zaw, zab, zaa, zad, za2] <;> omega) | decide) only [r_r, ↓reduceIte, Nat.reduceEqDiff, Nat.reduceAdd, D.fix, Int.reduceToNat, Nat.reduceMul, Nat.reduceBNe, Nat.reduceBEq, zbp, u8D, zas, zaz, zaf, zag, shD, clD, fpC, ze1, zd4]
  refine hK7 _ _ ?_
  refine zac hp zaj hc rfl fun K8 hK8 => ?_
  simp -dsimp -implicitDefEqProofs (disch := first | assumption | omega | (simp only [r_z, zav, zaw, zab, zaa, zad, za2] <;> omega) | decide) only [r_r, ↓reduceIte, Nat.reduceEqDiff, Nat.reduceAdd, D.fix, Int.reduceToNat, Nat.reduceMul, Nat.reduceBNe, Nat.reduceBEq, zbp, u8D, zas, zaz, zaf, zag, shD, clD, fpC, ze1, zd4]
  refine zb8 (zth n sh L E hC) rfl ?_
  simp -dsimp -implicitDefEqProofs (disch := first | assumption | omega | (simp only [r_z, zav, zaw, zab, zaa, zad, za2] <;> omega) | decide) only [r_r, ↓reduceIte, Nat.reduceEqDiff, Nat.reduceAdd, D.fix, Int.reduceToNat, Nat.reduceMul, Nat.reduceBNe, Nat.reduceBEq, zbp, u8D, zas, zaz, zaf, zag, shD, clD, fpC, ze1, zd4]
  refine hK8 _ _ ?_
  refine zan fun K9 hK9 => ?_
  refine zb3 hp (τ' := frL [(7, .d (oD true)), (8, .d (fpC n)), (9, .d (shD sh)), (10, .d (iD V)), (11, .d (ze1 L E))]) (H' := []) ?_ ?_
  ·refine Rt.trans (Rt.fz (id := 0) (l := [intsD L, iD E]) rfl) ?_
   refine Rt.trans (Rt.gc (keep := []) (by decide) (by decide) (by simp [fzH, gcH])) ?_
   refine Rt.end (by repeat (first | exact zal _ | refine zai ?_ (by first | rfl | (simp [r_f, zav, zaw, zab, zaa, zad, za2, zc5, za2]; done) | simp [r_f, zav, zaw, zab, zaa, zad, za2, zc5, za2, *]))) ?_
   first | rfl | (simp only [r_g, Nat.reduceAdd, ↓reduceIte, Nat.reduceEqDiff, zbp, u8D, zas, zaz, zaf, zag, shD, clD, fpC, ze1]; first | done | rfl)
  refine zac hp zaj hc rfl fun K10 hK10 => ?_
  rcases hS with ⟨rfl, rfl, _⟩ | ⟨rfl, fs, hF, hLd⟩
  ·have q8 : (((0 : Nat) : Int) == 0) = true := rfl
   simp -dsimp -implicitDefEqProofs (disch := first | assumption | omega | (simp only [r_z, zav, zaw, zab, zaa, zad, za2] <;> omega) | decide) only [r_r, ↓reduceIte, Nat.reduceEqDiff, Nat.reduceAdd, D.fix, Int.reduceToNat, Nat.reduceMul, Nat.reduceBNe, Nat.reduceBEq, zbp, u8D, zas, zaz, zaf, zag, shD, clD, fpC, ze1, beq_self_eq_true, Int.reduceBEq, Int.reduceBNe, bne_self_eq_false, zd4]
   refine hK10 _ _ ?_
   refine zap rfl (fun ht => ?_) (fun ht => ?_)
   ·refine zac hp zaj hc rfl fun K11 hK11 => ?_
    simp -dsimp -implicitDefEqProofs (disch := first | assumption | omega | (simp only [r_z, zav, zaw, zab, zaa, zad, za2] <;> omega) | decide) only [r_r, ↓reduceIte, Nat.reduceEqDiff, Nat.reduceAdd, D.fix, Int.reduceToNat, Nat.reduceMul, Nat.reduceBNe, Nat.reduceBEq, zbp, u8D, zas, zaz, zaf, zag, shD, clD, fpC, ze1, beq_self_eq_true, Int.reduceBEq, Int.reduceBNe, bne_self_eq_false, q8, zd4]
    refine hK11 _ _ ?_
    refine za6 ?_
    show closeA _ _ = _
    simp (disch := first | assumption | omega | (simp only [r_z, zav, zaw, zab, zaa, zad, za2] <;> omega) | decide) only [r_c, Nat.reduceAdd, D.fix, ↓reduceIte, Nat.reduceEqDiff, zbp, u8D, zas, zaz, zaf, zag, shD, clD, fpC, ze1]
   ·cases ht
  ·simp -dsimp -implicitDefEqProofs (disch := first | assumption | omega | (simp only [r_z, zav, zaw, zab, zaa, zad, za2] <;> omega) | decide) only [r_r, ↓reduceIte, Nat.reduceEqDiff, Nat.reduceAdd, D.fix, Int.reduceToNat, Nat.reduceMul, Nat.reduceBNe, Nat.reduceBEq, zbp, u8D, zas, zaz, zaf, zag, shD, clD, fpC, ze1, beq_self_eq_true, Int.reduceBEq, Int.reduceBNe, bne_self_eq_false, zd4]
   refine hK10 _ _ ?_
   refine zap rfl (fun ht => ?_) (fun ht => ?_)
   ·cases ht
   ·refine za0 (hK9 _ _ ?_)
    refine zan fun K12 hK12 => ?_
    obtain ⟨rs, hrs⟩ : ∃ rs, rs = fs.map (num (zem fs)) := ⟨_, rfl⟩
    have hfl := hF.len
    have hrl : rs.length = 2 + n.ins.length + n.gates.length := by rw [hrs, List.length_map, hfl]
    rw [← hrs] at hLd
    have hLl : L.length = 2 + n.ins.length + n.gates.length := by rw [hLd, List.length_map, hrl]
    have hLg : ∀ i, i < 2 + n.ins.length + n.gates.length → nth L i = (znt rs (nth rs i) : Int) := fun i hi => by rw [hLd]; exact zfs (by omega)
    have qa : ((L.length : Int) != 2 + (n.ins.length : Int) + n.gates.length) = false := by simp; omega
    refine zbr zaj hc mixed rfl (q := 0) (by kernel_rfl) (by kernel_rfl) fun K13 hK13 => ?_
    simp -dsimp -implicitDefEqProofs (disch := first | assumption | omega | (simp only [r_z, zav, zaw, zab, zaa, zad, za2] <;> omega) | decide) only [r_r, ↓reduceIte, Nat.reduceEqDiff, Nat.reduceAdd, D.fix, Int.reduceToNat, Nat.reduceMul, Nat.reduceBNe, Nat.reduceBEq, zbp, u8D, zas, zaz, zaf, zag, shD, clD, fpC, ze1, qa, zd4]
    refine zb8 (zq7 n (by omega) (by omega)) rfl ?_
    simp -dsimp -implicitDefEqProofs (disch := first | assumption | omega | (simp only [r_z, zav, zaw, zab, zaa, zad, za2] <;> omega) | decide) only [r_r, ↓reduceIte, Nat.reduceEqDiff, Nat.reduceAdd, D.fix, Int.reduceToNat, Nat.reduceMul, Nat.reduceBNe, Nat.reduceBEq, zbp, u8D, zas, zaz, zaf, zag, shD, clD, fpC, ze1, qa, zd4]
    refine hK13 _ _ ?_
    refine zap rfl (fun ht => ?_) (fun ht => ?_)
    ·cases ht
    ·refine za0 (hK12 _ _ ?_)
     refine zac hp zaj hc rfl fun K14 hK14 => ?_
     simp -dsimp -implicitDefEqProofs (disch := first | assumption | omega | (simp only [r_z, zav, zaw, zab, zaa, zad, za2] <;> omega) | decide) only [r_r, ↓reduceIte, Nat.reduceEqDiff, Nat.reduceAdd, D.fix, Int.reduceToNat, Nat.reduceMul, Nat.reduceBNe, Nat.reduceBEq, zbp, u8D, zas, zaz, zaf, zag, shD, clD, fpC, ze1, zd4]
     refine hK14 _ _ ?_
     refine zan fun K15 hK15 => ?_
     refine zac hp zaj hc rfl fun K16 hK16 => ?_
     simp -dsimp -implicitDefEqProofs (disch := first | assumption | omega | (simp only [r_z, zav, zaw, zab, zaa, zad, za2] <;> omega) | decide) only [r_r, ↓reduceIte, Nat.reduceEqDiff, Nat.reduceAdd, D.fix, Int.reduceToNat, Nat.reduceMul, Nat.reduceBNe, Nat.reduceBEq, zbp, u8D, zas, zaz, zaf, zag, shD, clD, fpC, ze1]
     refine hK16 _ _ ?_
     refine za1 ?_
     refine zbd hp (fun τ' H' mm => ∃ (i : Nat), (i ≤ P) ∧ mm = P - i ∧ H' = [.cells (avs ((zlr n sh V i).map boolsD))] ∧ τ' = frL [(7, .d (oD true)), (8, .d (fpC n)), (9, .d (shD sh)), (10, .d (iD V)), (11, .d (ze1 L 0)), (12, .os 1 0 0 i), (13, .d (iD i))]) (P) ?_ ⟨0, Nat.zero_le _, rfl, rfl, rfl⟩ ?_
     ·refine Rt.end (by repeat (first | exact zal _ | refine zai ?_ (by first | rfl | (simp [r_f, zav, zaw, zab, zaa, zad, za2, zc5, za2]; done) | simp [r_f, zav, zaw, zab, zaa, zad, za2, zc5, za2, *]))) ?_
      first | rfl | (simp only [r_g, Nat.reduceAdd, ↓reduceIte, Nat.reduceEqDiff, zbp, u8D, zas, zaz, zaf, zag, shD, clD, fpC, ze1]; first | done | rfl)
     rintro τ' H' mm ⟨i, hi2, rfl, rfl, rfl⟩
     refine zan fun K17 hK17 => ?_
     refine zac hp zaj hc rfl fun K18 hK18 => ?_
     simp -dsimp -implicitDefEqProofs (disch := first | assumption | omega | (simp only [r_z, zav, zaw, zab, zaa, zad, za2] <;> omega) | decide) only [r_r, ↓reduceIte, Nat.reduceEqDiff, Nat.reduceAdd, D.fix, Int.reduceToNat, Nat.reduceMul, Nat.reduceBNe, Nat.reduceBEq, zbp, u8D, zas, zaz, zaf, zag, shD, clD, fpC, ze1, hu, hw, hw', zd4]
     refine hK18 _ _ ?_
     refine zap rfl (fun ht => ?_) (fun ht => ?_)
     ·have hlt : i < P := by simp at ht; omega
      have hal : (zhz V (i : Int)).length ≤ maxLen := by simp [zhz]; unfold maxLen; omega
      refine za0 (hK17 _ _ ?_)
      refine zan fun K19 hK19 => ?_
      refine za1 ?_
      refine zac hp zaj hc rfl fun K20 hK20 => ?_
      simp -dsimp -implicitDefEqProofs (disch := first | assumption | omega | (simp only [r_z, zav, zaw, zab, zaa, zad, za2] <;> omega) | decide) only [r_r, ↓reduceIte, Nat.reduceEqDiff, Nat.reduceAdd, D.fix, Int.reduceToNat, Nat.reduceMul, Nat.reduceBNe, Nat.reduceBEq, zbp, u8D, zas, zaz, zaf, zag, shD, clD, fpC, ze1, zd4]
      refine zb8 (jsk V i (by omega)) rfl ?_
      simp -dsimp -implicitDefEqProofs (disch := first | assumption | omega | (simp only [r_z, zav, zaw, zab, zaa, zad, za2] <;> omega) | decide) only [r_r, ↓reduceIte, Nat.reduceEqDiff, Nat.reduceAdd, D.fix, Int.reduceToNat, Nat.reduceMul, Nat.reduceBNe, Nat.reduceBEq, zbp, u8D, zas, zaz, zaf, zag, shD, clD, fpC, ze1, zd4]
      refine hK20 _ _ ?_
      refine zbr zaj hc mixed rfl (q := 0) (by kernel_rfl) (by kernel_rfl) fun K21 hK21 => ?_
      simp -dsimp -implicitDefEqProofs (disch := first | assumption | omega | (simp only [r_z, zav, zaw, zab, zaa, zad, za2] <;> omega) | decide) only [r_r, ↓reduceIte, Nat.reduceEqDiff, Nat.reduceAdd, D.fix, Int.reduceToNat, Nat.reduceMul, Nat.reduceBNe, Nat.reduceBEq, zbp, u8D, zas, zaz, zaf, zag, shD, clD, fpC, ze1, zd4]
      refine zb8 (jgp n (zhz V i) hal (by omega) (by omega)) rfl ?_
      simp -dsimp -implicitDefEqProofs (disch := first | assumption | omega | (simp only [r_z, zav, zaw, zab, zaa, zad, za2] <;> omega) | decide) only [r_r, ↓reduceIte, Nat.reduceEqDiff, Nat.reduceAdd, D.fix, Int.reduceToNat, Nat.reduceMul, Nat.reduceBNe, Nat.reduceBEq, zbp, u8D, zas, zaz, zaf, zag, shD, clD, fpC, ze1, zd4]
      refine zb8 (jqq n sh (zhz V i) hsh hal (by omega)) rfl ?_
      simp -dsimp -implicitDefEqProofs (disch := first | assumption | omega | (simp only [r_z, zav, zaw, zab, zaa, zad, za2] <;> omega) | decide) only [r_r, ↓reduceIte, Nat.reduceEqDiff, Nat.reduceAdd, D.fix, Int.reduceToNat, Nat.reduceMul, Nat.reduceBNe, Nat.reduceBEq, zbp, u8D, zas, zaz, zaf, zag, shD, clD, fpC, ze1, zd4]
      refine zb8 (jqn n (zl9 n.ins.length (zhz V i)) (zg8 n.ins.length sh (zhz V i)) (by rw [ziv]; exact hn.g2) (by rw [ziv]; omega) (by omega)) rfl ?_
      simp -dsimp -implicitDefEqProofs (disch := first | assumption | omega | (simp only [r_z, zav, zaw, zab, zaa, zad, za2] <;> omega) | decide) only [r_r, ↓reduceIte, Nat.reduceEqDiff, Nat.reduceAdd, D.fix, Int.reduceToNat, Nat.reduceMul, Nat.reduceBNe, Nat.reduceBEq, zbp, u8D, zas, zaz, zaf, zag, shD, clD, fpC, ze1, zd4]
      have hvl := zyk n sh V i
      obtain ⟨v, hv⟩ : ∃ v, v = jl9 n sh V i := ⟨_, rfl⟩
      have hv' : zta n.gates (zl9 n.ins.length (zhz V (i : Int))) (zg8 n.ins.length sh (zhz V (i : Int))) = v := hv.symm
      rw [hv']
      rw [← hv] at hvl
      have qb : ((v.length : Int) != (L.length : Int)) = false := by simp; omega
      refine hK21 _ _ ?_
      refine zan fun K22 hK22 => ?_
      refine zac hp zaj hc rfl fun K23 hK23 => ?_
      simp -dsimp -implicitDefEqProofs (disch := first | assumption | omega | (simp only [r_z, zav, zaw, zab, zaa, zad, za2] <;> omega) | decide) only [r_r, ↓reduceIte, Nat.reduceEqDiff, Nat.reduceAdd, D.fix, Int.reduceToNat, Nat.reduceMul, Nat.reduceBNe, Nat.reduceBEq, zbp, u8D, zas, zaz, zaf, zag, shD, clD, fpC, ze1, qb, zd4]
      refine hK23 _ _ ?_
      refine zap rfl (fun ht => ?_) (fun ht => ?_)
      ·cases ht
      ·refine za0 (hK22 _ _ ?_)
       refine zbt hp zaj hc rfl fun K24 hK24 => ?_
       simp -dsimp -implicitDefEqProofs (disch := first | assumption | omega | (simp only [r_z, zav, zaw, zab, zaa, zad, za2] <;> omega) | decide) only [r_r, ↓reduceIte, Nat.reduceEqDiff, Nat.reduceAdd, D.fix, Int.reduceToNat, Nat.reduceMul, Nat.reduceBNe, Nat.reduceBEq, zbp, u8D, zas, zaz, zaf, zag, shD, clD, fpC, ze1, zd4]
       refine hK24 _ _ (hK19 _ _ ?_)
       refine zbt hp zaj hc rfl fun K25 hK25 => ?_
       simp -dsimp -implicitDefEqProofs (disch := first | assumption | omega | (simp only [r_z, zav, zaw, zab, zaa, zad, za2] <;> omega) | decide) only [r_r, ↓reduceIte, Nat.reduceEqDiff, Nat.reduceAdd, D.fix, Int.reduceToNat, Nat.reduceMul, Nat.reduceBNe, Nat.reduceBEq, zbp, u8D, zas, zaz, zaf, zag, shD, clD, fpC, ze1, zd4]
       refine hK25 _ _ ⟨_, _, _, ?_, ⟨i + 1, by omega, rfl, rfl, rfl⟩, ?_⟩
       ·first | omega | (simp only [List.length_cons]; omega) | (dsimp only; omega)
       ·refine Rt.trans (Rt.gc (keep := [2]) (by decide) (by decide) (by simp [fzH, gcH])) ?_
        refine Rt.end (by repeat (first | exact zal _ | refine zai ?_ (by first | rfl | (simp [r_f, zav, zaw, zab, zaa, zad, za2, zc5, za2]; done) | simp [r_f, zav, zaw, zab, zaa, zad, za2, zc5, za2, *]))) ?_
        simp only [r_g, Nat.reduceAdd, ↓reduceIte, Nat.reduceEqDiff, zbp, u8D, zas, zaz, zaf, zag, shD, clD, fpC, ze1]; rw [jly, ← hv]; simp [boolsD]
     ·have hie : i = P := by simp at ht; omega
      subst hie
      refine zbl (hK15 _ _ ?_)
      refine zan fun K26 hK26 => ?_
      refine zb3 hp (τ' := frL [(7, .d (oD true)), (11, .d (ze1 L 0)), (12, .d (zc5 (zlr n sh V i)))]) (H' := []) ?_ ?_
      ·refine Rt.trans (Rt.fz (id := 0) rfl) ?_
       refine Rt.trans (Rt.slot 12 (zv7 (zdz (by simp [r_z, zav, zaw, zab, zaa, zad, za2])))) ?_
       refine Rt.trans (Rt.gc (keep := []) (by decide) (by decide) (by simp [fzH, gcH])) ?_
       refine Rt.end (by repeat (first | exact zal _ | refine zai ?_ (by first | rfl | (simp [r_f, zav, zaw, zab, zaa, zad, za2, zc5, za2]; done) | simp [r_f, zav, zaw, zab, zaa, zad, za2, zc5, za2, *]))) ?_
       first | rfl | (simp only [r_g, Nat.reduceAdd, ↓reduceIte, Nat.reduceEqDiff, zbp, u8D, zas, zaz, zaf, zag, shD, clD, fpC, ze1]; first | done | rfl)
      refine zac hp zaj hc rfl fun K27 hK27 => ?_
      simp -dsimp -implicitDefEqProofs (disch := first | assumption | omega | (simp only [r_z, zav, zaw, zab, zaa, zad, za2] <;> omega) | decide) only [r_r, ↓reduceIte, Nat.reduceEqDiff, Nat.reduceAdd, D.fix, Int.reduceToNat, Nat.reduceMul, Nat.reduceBNe, Nat.reduceBEq, zbp, u8D, zas, zaz, zaf, zag, shD, clD, fpC, ze1]
      refine hK27 _ _ ?_
      refine za1 ?_
      refine zbd hp (fun τ' H' mm => ∃ (k : Nat), (k ≤ L.length) ∧ mm = L.length - k ∧ H' = [] ∧ τ' = frL [(7, .d (oD true)), (11, .d (ze1 L 0)), (12, .d (zc5 (zlr n sh V i))), (16, .d (iD k))]) (L.length) ?_ ⟨0, Nat.zero_le _, rfl, rfl, rfl⟩ ?_
      ·refine Rt.end (by repeat (first | exact zal _ | refine zai ?_ (by first | rfl | (simp [r_f, zav, zaw, zab, zaa, zad, za2, zc5, za2]; done) | simp [r_f, zav, zaw, zab, zaa, zad, za2, zc5, za2, *]))) ?_
       first | rfl | (simp only [r_g, Nat.reduceAdd, ↓reduceIte, Nat.reduceEqDiff, zbp, u8D, zas, zaz, zaf, zag, shD, clD, fpC, ze1]; first | done | rfl)
      rintro τ' H' mm ⟨k, hk, rfl, rfl, rfl⟩
      refine zan fun K28 hK28 => ?_
      refine zac hp zaj hc rfl fun K29 hK29 => ?_
      simp -dsimp -implicitDefEqProofs (disch := first | assumption | omega | (simp only [r_z, zav, zaw, zab, zaa, zad, za2] <;> omega) | decide) only [r_r, ↓reduceIte, Nat.reduceEqDiff, Nat.reduceAdd, D.fix, Int.reduceToNat, Nat.reduceMul, Nat.reduceBNe, Nat.reduceBEq, zbp, u8D, zas, zaz, zaf, zag, shD, clD, fpC, ze1, zd4]
      refine hK29 _ _ ?_
      refine zap rfl (fun ht => ?_) (fun ht => ?_)
      ·have hkl : k < L.length := by simp at ht; omega
       refine za0 (hK28 _ _ ?_)
       refine zan fun K30 hK30 => ?_
       refine za1 ?_
       refine zac hp zaj hc rfl fun K31 hK31 => ?_
       simp -dsimp -implicitDefEqProofs (disch := first | assumption | omega | (simp only [r_z, zav, zaw, zab, zaa, zad, za2] <;> omega) | decide) only [r_r, ↓reduceIte, Nat.reduceEqDiff, Nat.reduceAdd, D.fix, Int.reduceToNat, Nat.reduceMul, Nat.reduceBNe, Nat.reduceBEq, zbp, u8D, zas, zaz, zaf, zag, shD, clD, fpC, ze1]
       refine hK31 _ _ ?_
       refine zan fun K32 hK32 => ?_
       refine za1 ?_
       refine zbd hp (fun τ' H' mm => ∃ (j : Nat), (j ≤ k ∧ ∀ m, m < j → nth fs m ≠ nth fs k) ∧ mm = k + 1 - j ∧ H' = [] ∧ τ' = frL [(7, .d (oD true)), (11, .d (ze1 L 0)), (12, .d (zc5 (zlr n sh V i))), (16, .d (iD k)), (17, .d (iD j))]) (k + 1) ?_ ⟨0, ⟨Nat.zero_le _, fun m hm => by omega⟩, rfl, rfl, rfl⟩ ?_
       ·refine Rt.end (by repeat (first | exact zal _ | refine zai ?_ (by first | rfl | (simp [r_f, zav, zaw, zab, zaa, zad, za2, zc5, za2]; done) | simp [r_f, zav, zaw, zab, zaa, zad, za2, zc5, za2, *]))) ?_
        first | rfl | (simp only [r_g, Nat.reduceAdd, ↓reduceIte, Nat.reduceEqDiff, zbp, u8D, zas, zaz, zaf, zag, shD, clD, fpC, ze1]; first | done | rfl)
       rintro τ' H' mm ⟨j, ⟨hj, hall⟩, rfl, rfl, rfl⟩
       have hcol : jl8 (zlr n sh V i) j k = decide (nth fs j = nth fs k) := by
        rw [hP, hV]
        exact jrg hsh hn.g2 hF (by omega) (by omega) (by omega)
       have hcc := jg1 (zlr n sh V i) j k (2 + n.ins.length + n.gates.length) jek (by omega) (by omega) (by omega) (by rw [za2]; unfold maxLen; omega)
       rw [hcol] at hcc
       refine zan fun K33 hK33 => ?_
       refine zac hp zaj hc rfl fun K34 hK34 => ?_
       simp -dsimp -implicitDefEqProofs (disch := first | assumption | omega | (simp only [r_z, zav, zaw, zab, zaa, zad, za2] <;> omega) | decide) only [r_r, ↓reduceIte, Nat.reduceEqDiff, Nat.reduceAdd, D.fix, Int.reduceToNat, Nat.reduceMul, Nat.reduceBNe, Nat.reduceBEq, zbp, u8D, zas, zaz, zaf, zag, shD, clD, fpC, ze1, zd4]
       refine zb8 (hcc) rfl ?_
       simp -dsimp -implicitDefEqProofs (disch := first | assumption | omega | (simp only [r_z, zav, zaw, zab, zaa, zad, za2] <;> omega) | decide) only [r_r, ↓reduceIte, Nat.reduceEqDiff, Nat.reduceAdd, D.fix, Int.reduceToNat, Nat.reduceMul, Nat.reduceBNe, Nat.reduceBEq, zbp, u8D, zas, zaz, zaf, zag, shD, clD, fpC, ze1, zd4]
       refine hK34 _ _ ?_
       refine zap rfl (fun ht => ?_) (fun ht => ?_)
       ·have hne : nth fs j ≠ nth fs k := by simpa using ht
        have hjk : j ≠ k := fun e => hne (by rw [e])
        refine za0 (hK33 _ _ ?_)
        refine za1 ?_
        refine zbt hp zaj hc rfl fun K35 hK35 => ?_
        simp -dsimp -implicitDefEqProofs (disch := first | assumption | omega | (simp only [r_z, zav, zaw, zab, zaa, zad, za2] <;> omega) | decide) only [r_r, ↓reduceIte, Nat.reduceEqDiff, Nat.reduceAdd, D.fix, Int.reduceToNat, Nat.reduceMul, Nat.reduceBNe, Nat.reduceBEq, zbp, u8D, zas, zaz, zaf, zag, shD, clD, fpC, ze1, zd4]
        refine hK35 _ _ ⟨_, _, _, ?_, ⟨j + 1, ⟨by omega, fun m hm => by by_cases e : m = j; rw [e]; exact hne; exact hall m (by omega)⟩, rfl, rfl, rfl⟩, ?_⟩
        ·first | omega | (simp only [List.length_cons]; omega) | (dsimp only; omega)
        ·refine Rt.end (by repeat (first | exact zal _ | refine zai ?_ (by first | rfl | (simp [r_f, zav, zaw, zab, zaa, zad, za2, zc5, za2]; done) | simp [r_f, zav, zaw, zab, zaa, zad, za2, zc5, za2, *]))) ?_
         first | rfl | (simp only [r_g, Nat.reduceAdd, ↓reduceIte, Nat.reduceEqDiff, zbp, u8D, zas, zaz, zaf, zag, shD, clD, fpC, ze1]; first | done | rfl)
       ·have heq : nth fs j = nth fs k := by simpa using ht
        obtain ⟨f1, f2, f3⟩ := jg3 (rs := rs) (i := k) (by omega)
        have hfj : znt rs (nth rs k) = j := by
         rcases Nat.lt_trichotomy (znt rs (nth rs k)) j with hc | hc | hc
         ·refine absurd ?_ (hall _ hc)
          rw [hrs] at f2
          rw [hrs] at hc ⊢
          exact (jeg (by rw [hrs] at f1; omega) (by omega)).1 f2
         ·exact hc
         ·refine absurd ?_ (f3 j hc)
          rw [hrs]
          exact (jeg (by omega) (by omega)).2 heq
        have qc : (nth L k != (j : Int)) = false := by rw [hLg k (by omega), hfj]; simp
        refine zbl (hK32 _ _ ?_)
        refine zac hp zaj hc rfl fun K36 hK36 => ?_
        simp -dsimp -implicitDefEqProofs (disch := first | assumption | omega | (simp only [r_z, zav, zaw, zab, zaa, zad, za2] <;> omega) | decide) only [r_r, ↓reduceIte, Nat.reduceEqDiff, Nat.reduceAdd, D.fix, Int.reduceToNat, Nat.reduceMul, Nat.reduceBNe, Nat.reduceBEq, zbp, u8D, zas, zaz, zaf, zag, shD, clD, fpC, ze1, zc4, qc, zd4]
        refine hK36 _ _ ?_
        refine zap rfl (fun ht => ?_) (fun ht => ?_)
        ·cases ht
        ·refine za0 (hK30 _ _ ?_)
         refine zbt hp zaj hc rfl fun K37 hK37 => ?_
         simp -dsimp -implicitDefEqProofs (disch := first | assumption | omega | (simp only [r_z, zav, zaw, zab, zaa, zad, za2] <;> omega) | decide) only [r_r, ↓reduceIte, Nat.reduceEqDiff, Nat.reduceAdd, D.fix, Int.reduceToNat, Nat.reduceMul, Nat.reduceBNe, Nat.reduceBEq, zbp, u8D, zas, zaz, zaf, zag, shD, clD, fpC, ze1, zd4]
         refine hK37 _ _ ⟨_, _, _, ?_, ⟨k + 1, by omega, rfl, rfl, rfl⟩, ?_⟩
         ·first | omega | (simp only [List.length_cons]; omega) | (dsimp only; omega)
         ·refine Rt.end (by repeat (first | exact zal _ | refine zai ?_ (by first | rfl | (simp [r_f, zav, zaw, zab, zaa, zad, za2, zc5, za2]; done) | simp [r_f, zav, zaw, zab, zaa, zad, za2, zc5, za2, *]))) ?_
          first | rfl | (simp only [r_g, Nat.reduceAdd, ↓reduceIte, Nat.reduceEqDiff, zbp, u8D, zas, zaz, zaf, zag, shD, clD, fpC, ze1]; first | done | rfl)
      ·refine zbl (hK26 _ _ ?_)
       refine zac hp zaj hc rfl fun K38 hK38 => ?_
       simp -dsimp -implicitDefEqProofs (disch := first | assumption | omega | (simp only [r_z, zav, zaw, zab, zaa, zad, za2] <;> omega) | decide) only [r_r, ↓reduceIte, Nat.reduceEqDiff, Nat.reduceAdd, D.fix, Int.reduceToNat, Nat.reduceMul, Nat.reduceBNe, Nat.reduceBEq, zbp, u8D, zas, zaz, zaf, zag, shD, clD, fpC, ze1]
       refine hK38 _ _ ?_
       refine za6 ?_
       show closeA _ _ = _
       simp (disch := first | assumption | omega | (simp only [r_z, zav, zaw, zab, zaa, zad, za2] <;> omega) | decide) only [r_c, Nat.reduceAdd, D.fix, ↓reduceIte, Nat.reduceEqDiff, zbp, u8D, zas, zaz, zaf, zag, shD, clD, fpC, ze1]
end Go.Proofs.Ytignimmnnccblaa
