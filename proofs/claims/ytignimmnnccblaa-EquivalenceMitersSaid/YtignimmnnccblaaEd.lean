/- The theorem of meaning. -/
import Derived.Test.YtignimmnnccblaaEc
set_option linter.unusedVariables false
set_option linter.unusedSimpArgs false
namespace Go.Proofs.Ytignimmnnccblaa
open Go Go.RowKit
theorem jee : ∀ (l : List Nat) (left : Nat), (zzr left l).length = l.length
 | [], _ => rfl
 | b :: r, left => by simp [zzr, jee r]
theorem jj0 : ∀ (l : List Nat) (left : Nat) (p : Nat × Nat), p ∈ zzr left l → p.1 ≤ 8 ∧ p.2 ≤ 8
 | [], _, p, h => by cases h
 | b :: r, left, p, h => by
  rcases List.mem_cons.1 h with rfl | h
  ·have := jd9 left b; omega
  ·exact jj0 r _ p h
theorem jrm (l : List Nat) (hl : l.length = 3) (left : Nat) : ShOk (zzr left l) := ⟨by rw [jee]; omega, fun k hk => jj0 l left _ (zb3 hk)⟩
theorem jj1 {n : Net} {sh : Sh} {nodes : List Int} (hi : n.ins.length ≤ 9) (hg : n.gates.length ≤ 200) (hsh : ShOk sh) (hs : zdm n.ins.length sh ≤ n.ins.length + 5) (hgs : GatesOk (2 + n.ins.length) n.gates) (hno : nodes.any (znp (2 + n.ins.length + n.gates.length)) = false) (hnl : nodes.length ≤ 1000000) :
  BIn (zdm n.ins.length sh) n sh nodes := by
 have hp : 2 ^ zdm n.ins.length sh ≤ 2 ^ 14 := Nat.pow_le_pow_right (by decide) (by omega)
 have hm := Nat.mul_le_mul hg (show 8 + 7 * 2 ^ zdm n.ins.length sh ≤ 8 + 7 * 2 ^ 14 by omega)
 exact ⟨hsh, rfl, by omega, fun k hk => have h := hgs k hk; ⟨h.a0, h.a1, h.b0, h.b1, h.c0, h.c1, h.n0, h.n1⟩, hno, hnl, by omega, by omega, by unfold zel; omega⟩
theorem jrn (n : Net) : (zx4 n).any (znp (2 + n.ins.length + n.gates.length)) = false := by
 rw [List.any_eq_false]
 intro x hx
 obtain ⟨k, hk, rfl⟩ := List.mem_map.1 hx
 have := List.mem_range.1 hk
 simp [znp]; omega
theorem jef {n : Net} {fs : List T} (h : fs.length = 2 + n.ins.length + n.gates.length) : zf6 fs (zx4 n) = fs := by
 unfold zf6 zx4
 rw [List.map_map]
 refine List.ext_getElem (by simp [h]) fun i h1 h2 => ?_
 simp only [List.getElem_map, List.getElem_range, Function.comp]
 rw [show ((i : Nat) : Int).toNat = i by omega, zb9 h2]
structure NetB (n : Net) : Prop where
 i1 : n.ins.length ≤ 9
 g1 : n.gates.length ≤ 200
 g2 : GatesOk (2 + n.ins.length) n.gates
end Go.Proofs.Ytignimmnnccblaa
