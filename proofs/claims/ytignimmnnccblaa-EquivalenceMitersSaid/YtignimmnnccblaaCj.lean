/- Evaluation and support of a diagram. -/
import Derived.Test.YtignimmnnccblaaCi
import Derived.Test.YtignimmnnccblaaSa
set_option linter.unusedVariables false
set_option linter.unusedSimpArgs false
namespace Go.Proofs.Ytignimmnnccblaa
open Go Go.RowKit
def zjl (us : List T) (node : Int) : Bool := decide (0 ≤ node) && decide (node < 2 + us.length)
def zct (us : List T) (node : Int) : T := nth (zbq us) node.toNat
def atB (l : List Bool) (v : Nat) : Bool := decide (v < l.length) && nth l v
theorem jra (us : List T) : jco us = zjr us (.leaf false) :: zjr us (.leaf true) :: zlp us := rfl
theorem jlf {us : List T} {t : T} (h : t ∈ zbq us) (h2 : t.lf = false) : t ∈ us := by
 simp only [zbq, List.mem_cons] at h
 rcases h with rfl | rfl | h
 ·cases h2
 ·cases h2
 ·exact h
theorem jjy {us : List T} {t : T} (h : t.lf = true) : num us t < 2 := by
 cases t with
 | leaf b =>
   cases b
   ·rw [zjk]; omega
   ·rw [zp4]; omega
 | node v l r => cases h
theorem zl1 {V : Nat} {us : List T} (hr : RowOk V us) {t : T} (h : t ∈ zbq us) (h2 : t.lf = false) : 2 ≤ num us t := by
 have hn : t ≠ .leaf false := fun e => by rw [e] at h2; cases h2
 have hn' : t ≠ .leaf true := fun e => by rw [e] at h2; cases h2
 have h0 : num us t ≠ 0 := fun e => hn (zdl h (zhy us) (e.trans (zjk us).symm))
 have h1 : num us t ≠ 1 := fun e => hn' (zdl h (zp5 us) (e.trans (zp4 us).symm))
 omega
theorem zx3 {V : Nat} {us : List T} (hr : RowOk V us) {t : T} (h : t ∈ zbq us) (h2 : t.lf = false) : nth (zlp us) (num us t - 2) = zjr us t := by
 have h3 := zi7 h
 have h4 := zl1 hr h h2
 obtain ⟨k, hk⟩ : ∃ k, num us t = k + 2 := ⟨num us t - 2, by omega⟩
 rw [hk, jra] at h3
 rw [hk, Nat.add_sub_cancel]
 exact h3
theorem zqt (t : T) : t.lf = true ∨ t.lf = false := by cases t.lf <;> simp
theorem zqu {t : T} (h : t.lf = false) : ∃ v l r, t = .node v l r := by
 cases t with
 | leaf b => cases h
 | node v l r => exact ⟨v, l, r, rfl⟩
theorem zqv {V : Nat} {us : List T} (hr : RowOk V us) {k : Nat} (h : k < 2 + us.length) : num us (nth (zbq us) k) = k := by
 have hl : k < (zbq us).length := by rw [zew]; exact h
 rw [zb9 hl]
 exact List.Nodup.idxOf_getElem hr.nd k hl
theorem jd2 {us : List T} {k : Nat} (h : k < 2 + us.length) : nth (zbq us) k ∈ zbq us := zb3 (by rw [zew]; exact h)
end Go.Proofs.Ytignimmnnccblaa
