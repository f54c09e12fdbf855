/- Of no program: small equations of appends; loose ends of the run. -/
import Derived.Test.YtfpcailbobjfnaaA23
set_option linter.unusedVariables false
set_option linter.unusedSimpArgs false
namespace Go.Proofs.Ytfpcailbobjfnaa
open Go Go.RowKit
section
variable {P : Program} {H : AHeap} {sh : List (Nat × Nat)} {N r : Nat} {al : List Nat} {t : TypeId} {src : AV} {K : AV → AHeap → Prop} {KX : AV → AHeap → List (Nat × Nat) → Prop}
theorem appT_os {k id off n : Nat} : AppT P t (.os k id off n) src H K = ∃ q, mkO P t = some q ∧ k = q.1 ∧ ∃ cs, H[id]? = some (.cells cs) ∧ off + n * k = cs.length ∧ SrcK H k src fun m l => n + m ≤ 9223372036854775807 ∧ (n + m) * q.2.2 ≤ 140737488355328 ∧ K (.os k H.length 0 (n + m)) (H.set id .dead ++ [.cells (cs.drop off ++ l)]) := rfl
theorem appT_nil : AppT P t (.d (.val (.slice none 0 0))) src H K = ∃ q, mkO P t = some q ∧ SrcK H q.1 src fun m l => m ≤ 9223372036854775807 ∧ m * q.2.2 ≤ 140737488355328 ∧ K (.os q.1 H.length 0 m) (H ++ [.cells l]) := rfl
theorem appE_os {k id off n : Nat} : AppE P N r al t (.os k id off n) src H sh KX = (H[N + r]? = some .free ∧ shOk (N + r) sh ∧ baseOk N al (.os k id off n) = true ∧ baseOk N al src = true ∧ ∃ q, mkO P t = some q ∧ k = q.1 ∧ ∃ cs, H[id]? = some (.cells cs) ∧ off + n * k = cs.length ∧ (∀ p ∈ sh, p.2 ≠ id) ∧ SrcK H k src fun m l => n + m ≤ 9223372036854775807 ∧ (n + m) * q.2.2 ≤ 140737488355328 ∧ KX (.os k (N + r) 0 (n + m)) (H.set (N + r) (.cells (cs.drop off ++ l))) (appSh sh id (N + r))) := rfl
theorem appE_nil : AppE P N r al t (.d (.val (.slice none 0 0))) src H sh KX = (H[N + r]? = some .free ∧ shOk (N + r) sh ∧ baseOk N al (.d (.val (.slice none 0 0))) = true ∧ baseOk N al src = true ∧ ∃ q, mkO P t = some q ∧ SrcK H q.1 src fun m l => m ≤ 9223372036854775807 ∧ m * q.2.2 ≤ 140737488355328 ∧ KX (.os q.1 (N + r) 0 m) (H.set (N + r) (.cells l)) sh) := rfl
theorem baseOk_os {k id off n : Nat} : baseOk N al (.os k id off n) = (decide (id < N) || al.contains (id - N)) := rfl
theorem baseOk_d {d : D} : baseOk N al (.d d) = true := rfl
theorem and_left_true {a b : Prop} (h : a) : (a ∧ b) = b := propext ⟨fun h => h.2, fun h' => ⟨h, h'⟩⟩
end
end Go.Proofs.Ytfpcailbobjfnaa
