/- The library's sort, of a row of the caller's own. -/
import Derived.Test.YtapjobndmmkanaaAZ
import Derived.Test.YtapjobndmmkanaaSx
import Derived.Test.YtapjobndmmkanaaTy
import Derived.Sort.OwnSortedInts
import Derived.Test.YtapjobndmmkanaaQr
import Derived.Test.YtapjobndmmkanaaDb
set_option linter.unusedVariables false
set_option linter.unusedSimpArgs false
namespace Go.Proofs.Ytapjobndmmkanaa
open Go Go.RowKit Go.Sort
section
section
variable {c : Cx} {τ : Fr} {a : Act} {w w' : World} {pl : List (Option (Nat × Nat))} {H : zad}
end
/- The number of nodes of a net (for seats that have no text Cq; others skip this one). -/
set_option maxRecDepth 100000
set_option maxHeartbeats 4000000
end
section
open Go Go.RowKit
theorem jzf : ((((type_of% @zfb) ∧ (type_of% @zfp)) ∧ ((type_of% @zfq) ∧ (type_of% @zgz))) ∧ (((type_of% @zia) ∧ (type_of% @zmp)) ∧ ((type_of% @zmq) ∧ (type_of% @zpp)))) := ⟨⟨⟨@zfb, @zfp⟩, ⟨@zfq, @zgz⟩⟩, ⟨⟨@zia, @zmp⟩, ⟨@zmq, @zpp⟩⟩⟩
theorem juy {p q : Prop} (hq : q) (h : p = q := by
 conv => lhs; simp -dsimp -implicitDefEqProofs (disch := first | assumption | omega | (simp only [r_z] <;> omega) | decide) only [r_r, ↓reduceIte, Nat.reduceEqDiff, Nat.reduceAdd, D.fix, Int.reduceToNat, Nat.reduceMul, Nat.reduceBNe, Nat.reduceBEq, zby, zb1, zao, zaj, jzf]) : p := h.mpr hq
theorem joy (n : Net) (hi : n.ins.length ≤ 1000000) (hg : n.gates.length ≤ 1000000) : zaz Try.prog 68 [zby n] (.d (iD (2 + n.ins.length + n.gates.length))) := by
 refine zaw (fn := Try.f68) (by kernel_rfl) Try.func68 rfl (Nat.le_of_ble_eq_true rfl) fun c hc hp => ?_
 refine za0 (τ' := frL [(0, .d (zby n))]) (by repeat (first | exact zar _ | refine zam ?_ (by first | rfl | (simp [r_f]; done) | simp [r_f, *]))) ?_
 refine szq hp (fun _ hZ => juy hZ) ?_
 refine szq hp (fun _ hZ => juy hZ) ?_
 refine zal ?_
 show closeA _ _ = _
 simp (disch := first | assumption | omega | (simp only [r_z] <;> omega) | decide) only [r_c, Nat.reduceAdd, D.fix, ↓reduceIte, Nat.reduceEqDiff, zby, zb1, zao, zaj]
end
end Go.Proofs.Ytapjobndmmkanaa
