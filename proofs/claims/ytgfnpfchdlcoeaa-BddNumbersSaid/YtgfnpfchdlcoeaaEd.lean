/- The theorem of meaning. -/
import Derived.Test.YtgfnpfchdlcoeaaQ
import Derived.Test.YtgfnpfchdlcoeaaEc
set_option linter.unusedVariables false
set_option linter.unusedSimpArgs false
namespace Go.Proofs.Ytgfnpfchdlcoeaa
open Go Go.RowKit
theorem shp_sum : ∀ (l : List Nat) (left : Nat), ((shpL left l).map fun p => p.1 * p.2).sum ≤ left
  | [], left => by simp [shpL]
  | b :: r, left => by
    have h1 := shpF_le left b
    have h2 := shp_sum r (left - (shpF left b).1 * (shpF left b).2)
    simp only [shpL, List.map_cons, List.sum_cons]
    omega
theorem shp_len : ∀ (l : List Nat) (left : Nat), (shpL left l).length = l.length
  | [], _ => rfl
  | b :: r, left => by simp [shpL, shp_len r]
theorem shp_el : ∀ (l : List Nat) (left : Nat) (p : Nat × Nat), p ∈ shpL left l → p.1 ≤ 8 ∧ p.2 ≤ 8
  | [], _, p, h => by cases h
  | b :: r, left, p, h => by
    rcases List.mem_cons.1 h with rfl | h
    · have := shpF_le left b; omega
    · exact shp_el r _ p h
theorem shp_ok (l : List Nat) (hl : l.length = 3) (left : Nat) : ShOk (shpL left l) := ⟨by rw [shp_len]; omega, fun k hk => shp_el l left _ (nth_mem hk)⟩
theorem shp_vars (base : Nat) (l : List Nat) : varsN base (shpL 5 l) ≤ base + 5 := by
  have := shp_sum l 5
  unfold varsN firstN
  rw [List.take_length]
  omega
theorem bin_of {n : Net} {sh : Sh} {nodes : List Int} (hi : n.ins.length ≤ 9) (hg : n.gates.length ≤ 200) (hsh : ShOk sh) (hs : varsN n.ins.length sh ≤ n.ins.length + 5) (hgs : GatesOk (2 + n.ins.length) n.gates) (hno : nodes.any (unkB (2 + n.ins.length + n.gates.length)) = false) (hnl : nodes.length ≤ 1000000) :
    BIn (varsN n.ins.length sh) n sh nodes := by
  have hp : 2 ^ varsN n.ins.length sh ≤ 2 ^ 14 := Nat.pow_le_pow_right (by decide) (by omega)
  have hm := Nat.mul_le_mul hg (show 8 + 7 * 2 ^ varsN n.ins.length sh ≤ 8 + 7 * 2 ^ 14 by omega)
  exact ⟨hsh, rfl, by omega, fun k hk => have h := hgs k hk; ⟨h.a0, h.a1, h.b0, h.b1, h.c0, h.c1, h.n0, h.n1⟩, hno, hnl, by omega, by omega, by unfold bigB; omega⟩
structure NetB (n : Net) : Prop where
  i1 : n.ins.length ≤ 9
  g1 : n.gates.length ≤ 200
  g2 : GatesOk (2 + n.ins.length) n.gates
theorem NetOk.b {n : Net} (h : NetOk n) : NetB n := ⟨h.i2, Nat.le_trans h.g1 (by decide), h.g2⟩
theorem erow_64 {V : Nat} {us : List T} (hr : RowOk V us) (hV : V ≤ 1000) (hl : us.length ≤ 3000) : ∀ n ∈ (erow us).map toI, N64 n := fun n hn => by
  obtain ⟨m, hm, rfl⟩ := List.mem_map.1 hn
  obtain ⟨t, ht, rfl⟩ := List.mem_map.1 hm
  obtain ⟨v, lo, h, rfl⟩ := hr.node ht
  have hf : T.node v lo h ∈ full us := List.mem_cons_of_mem _ (List.mem_cons_of_mem _ ht)
  have hok := (hr.okf hf).2.1
  have c1 : num us lo < _ := num_lt (hr.chf hf).1
  have c2 : num us h < _ := num_lt (hr.chf hf).2
  exact ⟨i64c (n := v) (by omega), i64c (n := num us lo) (by omega), i64c (n := num us h) (by omega)⟩
theorem erow_I (us : List T) : ((erow us).map toI).length = us.length := by simp [erow]
end Go.Proofs.Ytgfnpfchdlcoeaa
