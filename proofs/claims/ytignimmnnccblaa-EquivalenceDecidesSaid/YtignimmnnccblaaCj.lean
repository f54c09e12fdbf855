/- Evaluation and support of a diagram. -/
import Derived.Test.YtignimmnnccblaaCi
import Derived.Test.YtignimmnnccblaaSa
set_option linter.unusedVariables false
set_option linter.unusedSimpArgs false
namespace Go.Proofs.Ytignimmnnccblaa
open Go Go.RowKit
def zjh (us : List T) (node : Int) : Bool := decide (0 ≤ node) && decide (node < 2 + us.length)
def zcp (us : List T) (node : Int) : T := nth (zbr us) node.toNat
def atB (l : List Bool) (v : Nat) : Bool := decide (v < l.length) && nth l v
theorem jqu (us : List T) : jb7 us = zjn us (.leaf false) :: zjn us (.leaf true) :: zlp us := rfl
theorem jk6 {us : List T} {t : T} (h : t ∈ zbr us) (h2 : t.lf = false) : t ∈ us := by
 simp only [zbr, List.mem_cons] at h
 rcases h with rfl | rfl | h
 ·cases h2
 ·cases h2
 ·exact h
theorem jjp {us : List T} {t : T} (h : t.lf = true) : num us t < 2 := by
 cases t with
 | leaf b =>
   cases b
   ·rw [zje]; omega
   ·rw [zp1]; omega
 | node v l r => cases h
theorem zl2 {V : Nat} {us : List T} (hr : RowOk V us) {t : T} (h : t ∈ zbr us) (h2 : t.lf = false) : 2 ≤ num us t := by
 have hn : t ≠ .leaf false := fun e => by rw [e] at h2; cases h2
 have hn' : t ≠ .leaf true := fun e => by rw [e] at h2; cases h2
 have h0 : num us t ≠ 0 := fun e => hn (zdi h (zhr us) (e.trans (zje us).symm))
 have h1 : num us t ≠ 1 := fun e => hn' (zdi h (zp2 us) (e.trans (zp1 us).symm))
 omega
theorem zxy {V : Nat} {us : List T} (hr : RowOk V us) {t : T} (h : t ∈ zbr us) (h2 : t.lf = false) : nth (zlp us) (num us t - 2) = zjn us t := by
 have h3 := zi1 h
 have h4 := zl2 hr h h2
 obtain ⟨k, hk⟩ : ∃ k, num us t = k + 2 := ⟨num us t - 2, by omega⟩
 rw [hk, jqu] at h3
 rw [hk, Nat.add_sub_cancel]
 exact h3
theorem zqj (t : T) : t.lf = true ∨ t.lf = false := by cases t.lf <;> simp
theorem zqk {t : T} (h : t.lf = false) : ∃ v l r, t = .node v l r := by
 cases t with
 | leaf b => cases h
 | node v l r => exact ⟨v, l, r, rfl⟩
theorem zql {V : Nat} {us : List T} (hr : RowOk V us) {k : Nat} (h : k < 2 + us.length) : num us (nth (zbr us) k) = k := by
 have hl : k < (zbr us).length := by rw [zew]; exact h
 rw [zb6 hl]
 exact List.Nodup.idxOf_getElem hr.nd k hl
theorem jdp {us : List T} {k : Nat} (h : k < 2 + us.length) : nth (zbr us) k ∈ zbr us := zb9 (by rw [zew]; exact h)
end Go.Proofs.Ytignimmnnccblaa
