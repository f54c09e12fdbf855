/- The theorem of meaning. -/
import Derived.Test.YtignimmnnccblaaEc
set_option linter.unusedVariables false
set_option linter.unusedSimpArgs false
namespace Go.Proofs.Ytignimmnnccblaa
open Go Go.RowKit
theorem jdz : ∀ (l : List Nat) (left : Nat), ((zs2 left l).map fun p => p.1 * p.2).sum ≤ left
 | [], left => by simp [zs2]
 | b :: r, left => by
  have h1 := zt1 left b
  have h2 := jdz r (left - (zy7 left b).1 * (zy7 left b).2)
  simp only [zs2, List.map_cons, List.sum_cons]
  omega
theorem jd0 : ∀ (l : List Nat) (left : Nat), (zs2 left l).length = l.length
 | [], _ => rfl
 | b :: r, left => by simp [zs2, jd0 r]
theorem jjr : ∀ (l : List Nat) (left : Nat) (p : Nat × Nat), p ∈ zs2 left l → p.1 ≤ 8 ∧ p.2 ≤ 8
 | [], _, p, h => by cases h
 | b :: r, left, p, h => by
  rcases List.mem_cons.1 h with rfl | h
  ·have := zt1 left b; omega
  ·exact jjr r _ p h
theorem jq7 (l : List Nat) (hl : l.length = 3) (left : Nat) : ShOk (zs2 left l) := ⟨by rw [jd0]; omega, fun k hk => jjr l left _ (zb9 hk)⟩
theorem jgq (base : Nat) (l : List Nat) : zc3 base (zs2 5 l) ≤ base + 5 := by
 have := jdz l 5
 unfold zc3 zbv
 rw [List.take_length]
 omega
theorem jjs {n : Net} {sh : Sh} {nodes : List Int} (hi : n.ins.length ≤ 9) (hg : n.gates.length ≤ 200) (hsh : ShOk sh) (hs : zc3 n.ins.length sh ≤ n.ins.length + 5) (hgs : GatesOk (2 + n.ins.length) n.gates) (hno : nodes.any (ztv (2 + n.ins.length + n.gates.length)) = false) (hnl : nodes.length ≤ 1000000) :
  BIn (zc3 n.ins.length sh) n sh nodes := by
 have hp : 2 ^ zc3 n.ins.length sh ≤ 2 ^ 14 := Nat.pow_le_pow_right (by decide) (by omega)
 have hm := Nat.mul_le_mul hg (show 8 + 7 * 2 ^ zc3 n.ins.length sh ≤ 8 + 7 * 2 ^ 14 by omega)
 exact ⟨hsh, rfl, by omega, fun k hk => have h := hgs k hk; ⟨h.a0, h.a1, h.b0, h.b1, h.c0, h.c1, h.n0, h.n1⟩, hno, hnl, by omega, by omega, by unfold zel; omega⟩
theorem jq8 (n : Net) : (zxz n).any (ztv (2 + n.ins.length + n.gates.length)) = false := by
 rw [List.any_eq_false]
 intro x hx
 obtain ⟨k, hk, rfl⟩ := List.mem_map.1 hx
 have := List.mem_range.1 hk
 simp [ztv]; omega
theorem jd1 {n : Net} {fs : List T} (h : fs.length = 2 + n.ins.length + n.gates.length) : zfq fs (zxz n) = fs := by
 unfold zfq zxz
 rw [List.map_map]
 refine List.ext_getElem (by simp [h]) fun i h1 h2 => ?_
 simp only [List.getElem_map, List.getElem_range, Function.comp]
 rw [show ((i : Nat) : Int).toNat = i by omega, zb6 h2]
structure NetB (n : Net) : Prop where
 i1 : n.ins.length ≤ 9
 g1 : n.gates.length ≤ 200
 g2 : GatesOk (2 + n.ins.length) n.gates
end Go.Proofs.Ytignimmnnccblaa
