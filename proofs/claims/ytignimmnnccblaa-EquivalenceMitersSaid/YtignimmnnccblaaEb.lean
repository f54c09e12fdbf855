/- The meaning of the functions: as the net is simulated. -/
import Derived.Test.YtignimmnnccblaaEa
set_option linter.unusedVariables false
set_option linter.unusedSimpArgs false
namespace Go.Proofs.Ytignimmnnccblaa
open Go Go.RowKit
theorem znq {w b : Nat} (hw : w < 2 ^ 62) (hb : b ≤ 63) : jmp (w : Int) (b : Int) = w.testBit b := by
 unfold jmp
 have e1 : ((b : Int).toNat) = b := by omega
 rw [e1, Nat.min_eq_left (by omega)]
 have e2 : (w : Int).fdiv (2 ^ b) = ((w / 2 ^ b : Nat) : Int) := by
  rw [Int.fdiv_eq_ediv_of_nonneg _ (by have : (0 : Int) < 2 ^ b := Int.pow_pos (by decide); omega)]
  push_cast; rfl
 rw [e2]
 have e3 : zzt .and .i64 ((w / 2 ^ b : Nat) : Int) 1 = (((w / 2 ^ b) % 2 : Nat) : Int) := by
  show IntKind.i64.wrap ((BitVec.ofInt 64 ((w / 2 ^ b : Nat) : Int) &&& BitVec.ofInt 64 1).toNat : Int) = _
  have : (BitVec.ofInt 64 ((w / 2 ^ b : Nat) : Int) &&& BitVec.ofInt 64 1).toNat = (w / 2 ^ b) % 2 := by
   rw [BitVec.toNat_and]
   have h1 : (BitVec.ofInt 64 1).toNat = 1 := by decide
   have h2 : (BitVec.ofInt 64 ((w / 2 ^ b : Nat) : Int)).toNat = w / 2 ^ b := by
    have hu : w / 2 ^ b ≤ w := Nat.div_le_self _ _
    rw [BitVec.toNat_ofInt]
    generalize w / 2 ^ b = u at hu ⊢
    omega
   rw [h1, h2, Nat.and_one_is_mod]
  rw [this]
  exact zty (by omega) (by omega)
 rw [e3, Nat.testBit, Nat.shiftRight_eq_div_pow, Nat.one_and_eq_mod_two]
 rcases Nat.mod_two_eq_zero_or_one (w / 2 ^ b) with h | h <;> rw [h] <;> rfl
theorem zx6 (l : List Bool) (base : Nat) : ∀ (m b : Nat), (zq5 l base m).testBit b = (decide (b < m) && atB l (base + b))
 | 0, b => by simp [zq5]
 | m + 1, b => by
  have hlt := zx5 l base m
  have ih := zx6 l base m b
  unfold zq5
  by_cases ha : atB l (base + m) = true
  ·rw [if_pos ha, Nat.add_comm]
   rcases Nat.lt_trichotomy b m with h | h | h
   ·rw [Nat.testBit_two_pow_add_gt h, ih, decide_eq_true h, decide_eq_true (by omega)]
   ·subst h
    rw [Nat.testBit_two_pow_add_eq, Nat.testBit_lt_two_pow hlt, ha, decide_eq_true (by omega)]; rfl
   ·rw [decide_eq_false (by omega), Bool.false_and]
    refine Nat.testBit_lt_two_pow ?_
    have : 2 ^ (m + 1) ≤ 2 ^ b := Nat.pow_le_pow_right (by decide) h
    rw [Nat.pow_succ] at this
    omega
  ·have ha' : atB l (base + m) = false := by simpa using ha
   rw [if_neg ha, Nat.add_zero, ih]
   by_cases h : b = m
   ·subst h; rw [ha']; simp
   ·congr 1
    by_cases h2 : b < m
    ·rw [decide_eq_true h2, decide_eq_true (by omega)]
    ·rw [decide_eq_false h2, decide_eq_false (by omega)]
theorem jgy {base : Nat} {sh : Sh} {l : List Bool} {k : Nat} (hk : k < sh.length) : nth (zgz base sh l) k = jgv l (zbz base sh k) (nth sh k) := zcj hk
theorem jln {base : Nat} {sh : Sh} (hsh : ShOk sh) (l : List Bool) {n : Int} (h0 : 0 ≤ n) (x : Nat) : zt3 (zgz base sh l) n x = zsy base sh n.toNat x (atB l) := by
 unfold zt3 zsy
 have e1 : (n / 8).toNat = n.toNat / 8 := by omega
 have e2 : n % 8 = ((n.toNat % 8 : Nat) : Int) := by omega
 have e3 : (zgz base sh l).length = sh.length := by simp [zgz]
 have e4 : decide (n / 8 < (sh.length : Int)) = decide (n.toNat / 8 < sh.length) := by congr 1; apply propext; omega
 rw [e1, e2, e3, e4]
 by_cases hk : n.toNat / 8 < sh.length
 ·rw [decide_eq_true hk, Bool.true_and, Bool.true_and, jgy hk]
  have hel := hsh.el _ hk
  have e5 : (jgv l (zbz base sh (n.toNat / 8)) (nth sh (n.toNat / 8))).length = (nth sh (n.toNat / 8)).1 := by simp [jgv]
  have e6 : decide ((x : Int) < ((nth sh (n.toNat / 8)).1 : Int)) = decide (x < (nth sh (n.toNat / 8)).1) := by congr 1; apply propext; omega
  rw [e5, e6]
  by_cases hx : x < (nth sh (n.toNat / 8)).1
  ·rw [decide_eq_true hx, Bool.true_and, Bool.true_and]
   have e7 : nth (jgv l (zbz base sh (n.toNat / 8)) (nth sh (n.toNat / 8))) (x : Int).toNat = ((zq5 l (zbz base sh (n.toNat / 8) + x * (nth sh (n.toNat / 8)).2) (nth sh (n.toNat / 8)).2 : Nat) : Int) := by
    rw [show (x : Int).toNat = x by omega]; exact zcj hx
   rw [e7, znq ?_ (by omega), zx6]
   have h1 := zx5 l (zbz base sh (n.toNat / 8) + x * (nth sh (n.toNat / 8)).2) (nth sh (n.toNat / 8)).2
   have : (2 : Nat) ^ (nth sh (n.toNat / 8)).2 ≤ 2 ^ 8 := Nat.pow_le_pow_right (by decide) hel.2
   omega
  ·rw [decide_eq_false hx]; simp
 ·rw [decide_eq_false hk]; simp
theorem znr {fs : List T} {a : Nat → Bool} {x y z : Int} : (low fs [x, y, z] a 3 : Int) = jmq ((nth fs x.toNat).eval a) ((nth fs y.toNat).eval a) ((nth fs z.toNat).eval a) := by
 show ((0 + (if (nth fs x.toNat).eval a = true then 2 ^ 0 else 0) + (if (nth fs y.toNat).eval a = true then 2 ^ 1 else 0) + (if (nth fs z.toNat).eval a = true then 2 ^ 2 else 0) : Nat) : Int) = _
 unfold jmq
 cases (nth fs x.toNat).eval a <;> cases (nth fs y.toNat).eval a <;> cases (nth fs z.toNat).eval a <;> rfl
theorem jlo {base m : Nat} {sh : Sh} (hsh : ShOk sh) {l : List Bool} {fs : List T} {v : List Bool} {g : Gate} (hg : GateOk m g) (h : ∀ k, k < m → nth v k = (nth fs k).eval (atB l)) : opN (zgz base sh l) v g = ziw base sh fs g (atB l) := by
 have ha := h g.a.toNat (by have := hg.a0; have := hg.a1; omega)
 have hb := h g.b.toNat (by have := hg.b0; have := hg.b1; omega)
 have hc := h g.c.toNat (by have := hg.c0; have := hg.c1; omega)
 have o1 := hg.o1
 have o2 := hg.o2
 unfold opN ziw
 rw [ha, hb, hc]
 by_cases h7 : g.op = 7
 ·rw [if_pos h7, if_neg (by omega), if_neg (by omega), if_neg (by omega), if_neg (by omega), if_neg (by omega), if_neg (by omega), ← znr]
  exact jln hsh l hg.n0 _
 ·rw [if_neg h7]
  by_cases h1 : g.op = 1
  ·simp [h1]
  by_cases h2 : g.op = 2
  ·simp [h2]
  by_cases h3 : g.op = 3
  ·simp [h3]
  by_cases h4 : g.op = 4
  ·simp [h4]
  by_cases h5 : g.op = 5
  ·simp [h5]
  have h6 : g.op = 6 := by omega
  simp [h6]
theorem zhm (m : Nat) (l : List Bool) : (zl2 m l).length = m := by simp [zl2]
theorem jec (n : Net) (m : Nat) (l : List Bool) (mems : List (List Int)) : (zs2 n.gates (zl2 m l) mems).length = 2 + m + n.gates.length := by
 unfold zs2
 rw [za3]
 simp [zhm]; omega
theorem jui {V : Nat} {n : Net} {sh : Sh} (hsh : ShOk sh) {fs : List T} (hF : FsP V n.ins.length sh n.gates n.gates.length fs) (hg : GatesOk (2 + n.ins.length) n.gates) (l : List Bool) :
  ∀ q, q ≤ n.gates.length → ∀ k, k < 2 + n.ins.length + q → nth (zcu (zgz n.ins.length sh l) (false :: true :: zl2 n.ins.length l) (n.gates.take q)) k = (nth fs k).eval (atB l)
 | 0, _, k, hk => by
  rw [List.take_zero]
  show nth (false :: true :: zl2 n.ins.length l) k = _
  match k, hk with
  | 0, _ => rw [hF.f0]; rfl
  | 1, _ => rw [hF.f1]; rfl
  | k + 2, hk =>
   have hv := hF.fv k (by omega)
   rw [show k + 2 = 2 + k by omega, hv]
   have : nth (false :: true :: zl2 n.ins.length l) (2 + k) = nth (zl2 n.ins.length l) k := by
    rw [zb9 (by simp [zhm]; omega), zb9 (by rw [zhm]; omega)]
    simp [Nat.add_comm 2 k]
   rw [this]
   show nth ((List.range n.ins.length).map (atB l)) k = _
   rw [zcj (by omega)]
   simp [zqn, T.eval]
 | q + 1, hq, k, hk => by
  have ih := jui hsh hF hg l q (by omega)
  have hlen : (zcu (zgz n.ins.length sh l) (false :: true :: zl2 n.ins.length l) (n.gates.take q)).length = 2 + n.ins.length + q := by
   rw [za3]
   simp only [List.length_cons, zhm, List.length_take]; omega
  rw [zdb _ _ (by omega)]
  by_cases h : k < 2 + n.ins.length + q
  ·rw [zbs (by omega)]; exact ih k h
  ·have hke : k = 2 + n.ins.length + q := by omega
   subst hke
   have hfg := hF.fg q (by omega) (atB l)
   rw [hfg]
   have : nth (zcu (zgz n.ins.length sh l) (false :: true :: zl2 n.ins.length l) (n.gates.take q) ++ [opN (zgz n.ins.length sh l) (zcu (zgz n.ins.length sh l) (false :: true :: zl2 n.ins.length l) (n.gates.take q)) (nth n.gates q)]) (2 + n.ins.length + q) = opN (zgz n.ins.length sh l) (zcu (zgz n.ins.length sh l) (false :: true :: zl2 n.ins.length l) (n.gates.take q)) (nth n.gates q) := by
    rw [← hlen, zdw]
   rw [this]
   exact jlo hsh (hg q (by omega)) fun j hj => by
    rw [zei ⟨hj, by have := hF.len; omega⟩]; exact ih j hj
end Go.Proofs.Ytignimmnnccblaa
