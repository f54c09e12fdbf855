/- Evaluation and support of a diagram. -/
import Derived.Test.YtignimmnnccblaaCi
import Derived.Test.YtignimmnnccblaaSa
set_option linter.unusedVariables false
set_option linter.unusedSimpArgs false
namespace Go.Proofs.Ytignimmnnccblaa
open Go Go.RowKit
def zjs (us : List T) (node : Int) : Bool := decide (0 ≤ node) && decide (node < 2 + us.length)
def zcr (us : List T) (node : Int) : T := nth (zbu us) node.toNat
def atB (l : List Bool) (v : Nat) : Bool := decide (v < l.length) && nth l v
theorem jqj (us : List T) : jcc us = zjy us (.leaf false) :: zjy us (.leaf true) :: zlo us := rfl
theorem jk6 {us : List T} {t : T} (h : t ∈ zbu us) (h2 : t.lf = false) : t ∈ us := by
 simp only [zbu, List.mem_cons] at h
 rcases h with rfl | rfl | h
 ·cases h2
 ·cases h2
 ·exact h
theorem jjt {us : List T} {t : T} (h : t.lf = true) : num us t < 2 := by
 cases t with
 | leaf b =>
   cases b
   ·rw [zjj]; omega
   ·rw [zqa]; omega
 | node v l r => cases h
theorem zl1 {V : Nat} {us : List T} (hr : RowOk V us) {t : T} (h : t ∈ zbu us) (h2 : t.lf = false) : 2 ≤ num us t := by
 have hn : t ≠ .leaf false := fun e => by rw [e] at h2; cases h2
 have hn' : t ≠ .leaf true := fun e => by rw [e] at h2; cases h2
 have h0 : num us t ≠ 0 := fun e => hn (zdb h (zhx us) (e.trans (zjj us).symm))
 have h1 : num us t ≠ 1 := fun e => hn' (zdb h (zqb us) (e.trans (zqa us).symm))
 omega
theorem zx8 {V : Nat} {us : List T} (hr : RowOk V us) {t : T} (h : t ∈ zbu us) (h2 : t.lf = false) : nth (zlo us) (num us t - 2) = zjy us t := by
 have h3 := zi6 h
 have h4 := zl1 hr h h2
 obtain ⟨k, hk⟩ : ∃ k, num us t = k + 2 := ⟨num us t - 2, by omega⟩
 rw [hk, jqj] at h3
 rw [hk, Nat.add_sub_cancel]
 exact h3
theorem zq4 (t : T) : t.lf = true ∨ t.lf = false := by cases t.lf <;> simp
theorem zq5 {t : T} (h : t.lf = false) : ∃ v l r, t = .node v l r := by
 cases t with
 | leaf b => cases h
 | node v l r => exact ⟨v, l, r, rfl⟩
theorem zq6 {V : Nat} {us : List T} (hr : RowOk V us) {k : Nat} (h : k < 2 + us.length) : num us (nth (zbu us) k) = k := by
 have hl : k < (zbu us).length := by rw [zey]; exact h
 rw [zb9 hl]
 exact List.Nodup.idxOf_getElem hr.nd k hl
theorem jdg {us : List T} {k : Nat} (h : k < 2 + us.length) : nth (zbu us) k ∈ zbu us := zb6 (by rw [zey]; exact h)
end Go.Proofs.Ytignimmnnccblaa
