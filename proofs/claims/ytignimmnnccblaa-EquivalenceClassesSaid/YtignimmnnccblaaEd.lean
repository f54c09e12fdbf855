/- The theorem of meaning. -/
import Derived.Test.YtignimmnnccblaaEc
set_option linter.unusedVariables false
set_option linter.unusedSimpArgs false
namespace Go.Proofs.Ytignimmnnccblaa
open Go Go.RowKit
theorem jdp : ∀ (l : List Nat) (left : Nat), ((ztm left l).map fun p => p.1 * p.2).sum ≤ left
 | [], left => by simp [ztm]
 | b :: r, left => by
  have h1 := zui left b
  have h2 := jdp r (left - (zzc left b).1 * (zzc left b).2)
  simp only [ztm, List.map_cons, List.sum_cons]
  omega
theorem jdq : ∀ (l : List Nat) (left : Nat), (ztm left l).length = l.length
 | [], _ => rfl
 | b :: r, left => by simp [ztm, jdq r]
theorem jjv : ∀ (l : List Nat) (left : Nat) (p : Nat × Nat), p ∈ ztm left l → p.1 ≤ 8 ∧ p.2 ≤ 8
 | [], _, p, h => by cases h
 | b :: r, left, p, h => by
  rcases List.mem_cons.1 h with rfl | h
  ·have := zui left b; omega
  ·exact jjv r _ p h
theorem jqw (l : List Nat) (hl : l.length = 3) (left : Nat) : ShOk (ztm left l) := ⟨by rw [jdq]; omega, fun k hk => jjv l left _ (zb6 hk)⟩
theorem jgv (base : Nat) (l : List Nat) : zci base (ztm 5 l) ≤ base + 5 := by
 have := jdp l 5
 unfold zci zbw
 rw [List.take_length]
 omega
theorem jjw {n : Net} {sh : Sh} {nodes : List Int} (hi : n.ins.length ≤ 9) (hg : n.gates.length ≤ 200) (hsh : ShOk sh) (hs : zci n.ins.length sh ≤ n.ins.length + 5) (hgs : GatesOk (2 + n.ins.length) n.gates) (hno : nodes.any (zuf (2 + n.ins.length + n.gates.length)) = false) (hnl : nodes.length ≤ 1000000) :
  BIn (zci n.ins.length sh) n sh nodes := by
 have hp : 2 ^ zci n.ins.length sh ≤ 2 ^ 14 := Nat.pow_le_pow_right (by decide) (by omega)
 have hm := Nat.mul_le_mul hg (show 8 + 7 * 2 ^ zci n.ins.length sh ≤ 8 + 7 * 2 ^ 14 by omega)
 exact ⟨hsh, rfl, by omega, fun k hk => have h := hgs k hk; ⟨h.a0, h.a1, h.b0, h.b1, h.c0, h.c1, h.n0, h.n1⟩, hno, hnl, by omega, by omega, by unfold zeo; omega⟩
theorem jqx (n : Net) : (zya n).any (zuf (2 + n.ins.length + n.gates.length)) = false := by
 rw [List.any_eq_false]
 intro x hx
 obtain ⟨k, hk, rfl⟩ := List.mem_map.1 hx
 have := List.mem_range.1 hk
 simp [zuf]; omega
theorem jdr {n : Net} {fs : List T} (h : fs.length = 2 + n.ins.length + n.gates.length) : zft fs (zya n) = fs := by
 unfold zft zya
 rw [List.map_map]
 refine List.ext_getElem (by simp [h]) fun i h1 h2 => ?_
 simp only [List.getElem_map, List.getElem_range, Function.comp]
 rw [show ((i : Nat) : Int).toNat = i by omega, zb9 h2]
structure NetB (n : Net) : Prop where
 i1 : n.ins.length ≤ 9
 g1 : n.gates.length ≤ 200
 g2 : GatesOk (2 + n.ins.length) n.gates
theorem NetOk.b {n : Net} (h : NetOk n) : NetB n := ⟨h.i2, Nat.le_trans h.g1 (by decide), h.g2⟩
end Go.Proofs.Ytignimmnnccblaa
