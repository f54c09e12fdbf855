/- What is built is valid. -/
import Derived.Test.YtignimmnnccblaaEb
set_option linter.unusedVariables false
set_option linter.unusedSimpArgs false
namespace Go.Proofs.Ytignimmnnccblaa
open Go Go.RowKit
theorem jed {V : Nat} : ∀ (fs acc : List T), (∀ t ∈ fs, t.Ok V 0) → RowOk V acc → RowOk V (fs.foldl (fun acc t => zd8 t acc) acc)
 | [], acc, _, h => h
 | t :: fs, acc, hf, h => jed fs (zd8 t acc) (fun s hs => hf s (List.mem_cons_of_mem _ hs)) (zlo t 0 acc (hf t (List.mem_cons_self ..)) h)
theorem zx7 {V : Nat} {fs : List T} (h : ∀ t ∈ fs, t.Ok V 0) : RowOk V (zeq fs) := jed fs [] h (.nil V)
theorem zzg {V ins : Nat} {sh : Sh} {gates : List Gate} {fs : List T} (h : FsP V ins sh gates gates.length fs) (hi : ins ≤ 100) (hq : ∀ q, q < gates.length → (zeq (fs.take (2 + ins + (q + 1)))).length ≤ 3000) : (zeq fs).length ≤ 3000 := by
 have hl := h.len
 by_cases h0 : gates.length = 0
 ·have h1 := zub fs []
  have h2 : (fs.map T.sz).sum ≤ (fs.map T.sz).length * 3 := jjz fun x hx => by
   obtain ⟨t, ht, rfl⟩ := List.mem_map.1 hx
   obtain ⟨k, hk, rfl⟩ := List.getElem_of_mem ht
   rw [← zb9 hk]
   by_cases hk0 : k = 0
   ·subst hk0; rw [h.f0]; decide
   by_cases hk1 : k = 1
   ·subst hk1; rw [h.f1]; decide
   have := h.fv (k - 2) (by omega)
   rw [show k = 2 + (k - 2) by omega, this]
   simp [zqn, T.sz]
  rw [List.length_map] at h2
  simp only [List.length_nil, Nat.zero_add] at h1
  unfold zeq
  omega
 ·have := hq (gates.length - 1) (by omega)
  rw [List.take_of_length_le (by omega)] at this
  exact this
structure Blt (V : Nat) (n : Net) (sh : Sh) (nodes : List Int) (fs : List T) (us : List T) (rs : List Nat) : Prop where
 F : FsP V n.ins.length sh n.gates n.gates.length fs
 row : RowOk V us
 len : us.length ≤ 3000
 hin : ∀ t ∈ zf6 fs nodes, t ∈ zbq us
 rs : rs = (zf6 fs nodes).map (num us)
 us : us = zeq (zf6 fs nodes)
end Go.Proofs.Ytignimmnnccblaa
