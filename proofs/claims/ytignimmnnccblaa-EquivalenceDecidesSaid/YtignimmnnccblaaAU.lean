/- Of no program: calls whose result lies in one new object of the caller's own. -/
import Derived.Test.YtignimmnnccblaaAT
set_option linter.unusedVariables false
set_option linter.unusedSimpArgs false
namespace Go.Proofs.Ytignimmnnccblaa
open Go Go.RowKit
section
variable {P : Program} {H : zap} {N : Nat} {sm : List Nat} {τ : Fr}
theorem zj4 {fn : Func} {Q : AV → zap → Prop} {τ : Fr} {t u : Tmp} {ty : TypeId} (h : fn.results.toList = [.cell t ty, .tmp u]) (hq : oK (loadF P H.length H ty (τ t)) (tg fun x => Q (.tup [x, τ u]) H)) : zj0 P fn Q .ret τ H := by
 obtain ⟨x, h1, h2⟩ := hq
 show zzw P τ H fn.results.toList _
 rw [h]; exact ⟨x, zmg h1, h2⟩
end
end Go.Proofs.Ytignimmnnccblaa
