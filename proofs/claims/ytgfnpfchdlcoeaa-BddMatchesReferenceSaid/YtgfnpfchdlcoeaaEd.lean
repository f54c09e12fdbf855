/- The theorem of meaning. -/
import Derived.Test.YtgfnpfchdlcoeaaQr
import Derived.Test.YtgfnpfchdlcoeaaQ
import Derived.Test.YtgfnpfchdlcoeaaEc
set_option linter.unusedVariables false
set_option linter.unusedSimpArgs false
set_option maxRecDepth 100000
set_option maxHeartbeats 4000000
namespace Go.Proofs.Ytgfnpfchdlcoeaa
open Go Go.RowKit
theorem jft : ∀ (l : List Nat) (left : Nat), ((zwl left l).map fun p => p.1 * p.2).sum ≤ left
 | [], left => by simp [zwl]
 | b :: r, left => by
  have h1 := zxv left b
  have h2 := jft r (left - (jcf left b).1 * (jcf left b).2)
  simp only [zwl, List.map_cons, List.sum_cons]
  omega
theorem jfu : ∀ (l : List Nat) (left : Nat), (zwl left l).length = l.length
 | [], _ => rfl
 | b :: r, left => by simp [zwl, jfu r]
theorem jjw : ∀ (l : List Nat) (left : Nat) (p : Nat × Nat), p ∈ zwl left l → p.1 ≤ 8 ∧ p.2 ≤ 8
 | [], _, p, h => by cases h
 | b :: r, left, p, h => by
  rcases List.mem_cons.1 h with rfl | h
  ·have := zxv left b; omega
  ·exact jjw r _ p h
theorem jpr (l : List Nat) (hl : l.length = 3) (left : Nat) : ShOk (zwl left l) := ⟨by rw [jfu]; omega, fun k hk => jjw l left _ (zcf hk)⟩
theorem jih (base : Nat) (l : List Nat) : zcz base (zwl 5 l) ≤ base + 5 := by
 have := jft l 5
 unfold zcz zb1
 rw [List.take_length]
 omega
theorem jps {n : Net} {sh : Sh} {nodes : List Int} (hi : n.ins.length ≤ 9) (hg : n.gates.length ≤ 200) (hsh : ShOk sh) (hs : zcz n.ins.length sh ≤ n.ins.length + 5) (hgs : GatesOk (2 + n.ins.length) n.gates) (hno : nodes.any (zh7 (2 + n.ins.length + n.gates.length)) = false) (hnl : nodes.length ≤ 1000000) :
  BIn (zcz n.ins.length sh) n sh nodes := by
 have hp : 2 ^ zcz n.ins.length sh ≤ 2 ^ 14 := Nat.pow_le_pow_right (by decide) (by omega)
 have hm := Nat.mul_le_mul hg (show 8 + 7 * 2 ^ zcz n.ins.length sh ≤ 8 + 7 * 2 ^ 14 by omega)
 exact ⟨hsh, rfl, by omega, fun k hk => have h := hgs k hk; ⟨h.a0, h.a1, h.b0, h.b1, h.c0, h.c1, h.n0, h.n1⟩, hno, hnl, by omega, by omega, by unfold zed; omega⟩
structure NetB (n : Net) : Prop where
 i1 : n.ins.length ≤ 9
 g1 : n.gates.length ≤ 200
 g2 : GatesOk (2 + n.ins.length) n.gates
theorem NetOk.b {n : Net} (h : NetOk n) : NetB n := ⟨h.i2, Nat.le_trans h.g1 (by decide), h.g2⟩
end Go.Proofs.Ytgfnpfchdlcoeaa
