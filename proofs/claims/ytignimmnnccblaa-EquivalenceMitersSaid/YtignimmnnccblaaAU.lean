/- Of no program: calls whose result lies in one new object of the caller's own. -/
import Derived.Test.YtignimmnnccblaaAT
set_option linter.unusedVariables false
set_option linter.unusedSimpArgs false
namespace Go.Proofs.Ytignimmnnccblaa
open Go Go.RowKit
section
variable {P : Program} {H : zar} {N : Nat} {sm : List Nat} {τ : Fr}
theorem zj8 {fn : Func} {Q : AV → zar → Prop} {τ : Fr} {t u : Tmp} {ty : TypeId} (h : fn.results.toList = [.cell t ty, .tmp u]) (hq : oK (loadF P H.length H ty (τ t)) (tg fun x => Q (.tup [x, τ u]) H)) : zj4 P fn Q .ret τ H := by
 obtain ⟨x, h1, h2⟩ := hq
 show jab P τ H fn.results.toList _
 rw [h]; exact ⟨x, zmd h1, h2⟩
end
end Go.Proofs.Ytignimmnnccblaa
