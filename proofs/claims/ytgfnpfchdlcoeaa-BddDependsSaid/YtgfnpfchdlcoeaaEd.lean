/- The theorem of meaning. -/
import Derived.Test.YtgfnpfchdlcoeaaQ
import Derived.Test.YtgfnpfchdlcoeaaEc
set_option linter.unusedVariables false
set_option linter.unusedSimpArgs false
namespace Go.Proofs.Ytgfnpfchdlcoeaa
open Go Go.RowKit
theorem shp_sum : ∀ (l : List Nat) (left : Nat), ((shpL left l).map fun p => p.1 * p.2).sum ≤ left
  | [], left => by simp [shpL]
  | b :: r, left => by
    have h1 := zvg left b
    have h2 := shp_sum r (left - (shpF left b).1 * (shpF left b).2)
    simp only [shpL, List.map_cons, List.sum_cons]
    omega
theorem shp_len : ∀ (l : List Nat) (left : Nat), (shpL left l).length = l.length
  | [], _ => rfl
  | b :: r, left => by simp [shpL, shp_len r]
theorem shp_el : ∀ (l : List Nat) (left : Nat) (p : Nat × Nat), p ∈ shpL left l → p.1 ≤ 8 ∧ p.2 ≤ 8
  | [], _, p, h => by cases h
  | b :: r, left, p, h => by
    rcases List.mem_cons.1 h with rfl | h
    · have := zvg left b; omega
    · exact shp_el r _ p h
theorem shp_ok (l : List Nat) (hl : l.length = 3) (left : Nat) : ShOk (shpL left l) := ⟨by rw [shp_len]; omega, fun k hk => shp_el l left _ (zdi hk)⟩
theorem zoq (base : Nat) (l : List Nat) : zcr base (shpL 5 l) ≤ base + 5 := by
  have := shp_sum l 5
  unfold zcr zc6
  rw [List.take_length]
  omega
theorem bin_of {n : Net} {sh : Sh} {nodes : List Int} (hi : n.ins.length ≤ 9) (hg : n.gates.length ≤ 200) (hsh : ShOk sh) (hs : zcr n.ins.length sh ≤ n.ins.length + 5) (hgs : GatesOk (2 + n.ins.length) n.gates) (hno : nodes.any (unkB (2 + n.ins.length + n.gates.length)) = false) (hnl : nodes.length ≤ 1000000) :
    BIn (zcr n.ins.length sh) n sh nodes := by
  have hp : 2 ^ zcr n.ins.length sh ≤ 2 ^ 14 := Nat.pow_le_pow_right (by decide) (by omega)
  have hm := Nat.mul_le_mul hg (show 8 + 7 * 2 ^ zcr n.ins.length sh ≤ 8 + 7 * 2 ^ 14 by omega)
  exact ⟨hsh, rfl, by omega, fun k hk => have h := hgs k hk; ⟨h.a0, h.a1, h.b0, h.b1, h.c0, h.c1, h.n0, h.n1⟩, hno, hnl, by omega, by omega, by unfold bigB; omega⟩
theorem all_no (n : Net) : (allL n).any (unkB (2 + n.ins.length + n.gates.length)) = false := by
  rw [List.any_eq_false]
  intro x hx
  obtain ⟨k, hk, rfl⟩ := List.mem_map.1 hx
  have := List.mem_range.1 hk
  simp [unkB]; omega
theorem roots_all {n : Net} {fs : List T} (h : fs.length = 2 + n.ins.length + n.gates.length) : ze1 fs (allL n) = fs := by
  unfold ze1 allL
  rw [List.map_map]
  refine List.ext_getElem (by simp [h]) fun i h1 h2 => ?_
  simp only [List.getElem_map, List.getElem_range, Function.comp]
  rw [show ((i : Nat) : Int).toNat = i by omega, zde h2]
structure NetB (n : Net) : Prop where
  i1 : n.ins.length ≤ 9
  g1 : n.gates.length ≤ 200
  g2 : GatesOk (2 + n.ins.length) n.gates
theorem NetOk.b {n : Net} (h : NetOk n) : NetB n := ⟨h.i2, Nat.le_trans h.g1 (by decide), h.g2⟩
theorem erow_I (us : List T) : ((erow us).map toI).length = us.length := by simp [erow]
end Go.Proofs.Ytgfnpfchdlcoeaa
