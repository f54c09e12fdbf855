/- Copies and comparisons of rows. -/
import Derived.Test.YtapjobndmmkanaaEa
import Derived.Test.YtapjobndmmkanaaBa
import Derived.Test.YtapjobndmmkanaaTy
import Derived.Test.YtapjobndmmkanaaDa
import Derived.Test.YtapjobndmmkanaaSa
import Derived.Test.YtapjobndmmkanaaDb
set_option linter.unusedVariables false
set_option linter.unusedSimpArgs false
namespace Go.Proofs.Ytapjobndmmkanaa
open Go Go.RowKit
theorem jd8 {P : Program} {c : Cx} {x : Code} {Q : Exit → Fr → zag → Prop} {τ : Fr} {H : zag} (t : Nat) (ht : τ t = .d (.fs [] 0))
  (h : ∀ (a : Option Addr) (cap : Nat), cap ≤ maxLen → (a = none → cap = 0) → AWp P c x Q (τ.put (some t) (.d (.val (.slice a 0 cap)))) H) : AWp P c x Q τ H := fun ac w hR => by
 obtain ⟨pl, hS⟩ := hR
 have h1 := hS.fr t
 rw [ht] at h1
 have key : ∀ a cap, ac.tmps.getD t undef = .slice a 0 cap → R c (τ.put (some t) (.d (.val (.slice a 0 cap)))) H [] ac w := fun a cap e =>
  ⟨pl, hS.h, hS.stp, hS.own0, hS.ext, fun t' => by
   by_cases ht' : t' = t
   ·subst ht'
    rw [e]
    simp only [Fr.put, if_pos]
    exact .d _ _ (.val _)
   ·simp only [Fr.put, if_neg ht']
    exact hS.fr t', hS.size, hS.defs, hS.keep⟩
 cases h1 with
 | d _ _ h1 =>
  generalize hv : ac.tmps.getD t undef = v at h1
  cases h1 with
  | f0 a cap hm hn => exact h a cap hm hn ac w (key a cap hv)
  | fs _ _ cap b off f hb ho hn hm hc h1 hx => exact h _ cap hm (fun e => by cases e) ac w (key _ cap hv)
theorem Imp.f0 {a : Option Addr} {cap : Nat} (hm : cap ≤ maxLen) (hn : a = none → cap = 0) : Imp (.d (.val (.slice a 0 cap))) (.d (.fs [] 0)) := fun _ _ _ v h => by
 cases h with
 | d _ _ h => cases h; exact .d _ _ (.f0 a cap hm hn)
theorem zpo {P : Program} {t : TypeId} (h : zd7 P t = true) {a : Option Addr} {n c n' c' : Nat} : zc2 P .eql t (.slice a n c) (.slice none n' c') = some (.bool a.isNone) := by simp [zc2, h]
end Go.Proofs.Ytapjobndmmkanaa
