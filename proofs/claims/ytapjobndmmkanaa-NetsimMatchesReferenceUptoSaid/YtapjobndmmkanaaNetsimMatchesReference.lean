/- The law NetsimMatchesReference: values of nodes, input values, effects, steps and sensitive outputs are as in the reference: for netlists of processes, and for any other valid nets (arguments of bulk at most 1048576): it returns true for every input, and every input reads afterwards as it read before. -/
import Derived.Test.YtapjobndmmkanaaUx
import Derived.Test.YtapjobndmmkanaaXh
set_option linter.unusedVariables false
set_option linter.unusedSimpArgs false
namespace Go.Proofs.Ytapjobndmmkanaa.netsimMatchesReference
open Go.ChangeShapes Go.WideShapes Go.ChangeAt Go.RowKit
open Go
set_option maxRecDepth 100000 in
theorem lifted (os : Go.Os) (started : os.Started) (H : Type) (enc : TypeId × Value → H) (Fi : Stop.Interp) :
  ReturnsInHanded {} Try.checked os 3 .any ((Rows.OpenSpec.upto Rows.netsimMatchesReferenceSpec).pre6 enc Try.prog Try.f3 Rows.netsimMatchesReferenceUptoRow.domain false) (((Rows.OpenSpec.upto Rows.netsimMatchesReferenceSpec).at Fi).post enc Try.prog Try.f3 false true false false) := by
 refine returnsInHanded_of_cond (C := Try.checked) (s := Rows.OpenSpec.upto Rows.netsimMatchesReferenceSpec) (k := Rows.uptoSmall) rfl own started (by kernel_rfl) Try.func3
  (OpenSpec.witness (enc := enc) (C := Try.checked) (s := Rows.OpenSpec.upto Rows.netsimMatchesReferenceSpec) (k := Rows.uptoSmall) rfl false ⟨#[], #[.agg #[.slice none 0 0], .agg #[.slice none 0 0, .slice none 0 0, .slice none 0 0], .agg #[.slice none 0 0, .slice none 0 0, .slice none 0 0, .slice none 0 0, .slice none 0 0, .int .i64 0, .int .i8 0, .int .i8 0]], []⟩ 8 (by kernel_rfl) (by kernel_rfl) (by kernel_rfl)
   (x := ([.agg [.nil], .agg [.nil, .nil, .nil], .agg [.agg [.nil, .nil], .agg [.nil, .nil], .nil, .lit (.int .i64 0), .agg [.lit (.int .i8 0), .lit (.int .i8 0)]]], [], [])) (by kernel_rfl) rfl (by kernel_rfl)) ?_
 intro W base args ds gs before hval0 hW hcnd hk _
 have hval : ∀ (j : Nat) t v, Try.f3.params[j]? = some t → args[j]? = some v → Value.okWide Try.prog W .any base t v := hval0
 have hW' := hW
 obtain ⟨p, q, hA0, hV, rfl, hfz, hnd⟩ := hW
 have hA : DataW.TrodAll enc Try.prog W 0 (fun _ => true) true Try.f3.params.toList args.toList ds p := hA0
 rw [Try.params3] at hA hval
 obtain ⟨v0, vs0, d0, ds0, p0, q0, hargs, rfl, rfl, h0, r0⟩ := trodAll_cons hA
 obtain ⟨v1, vs1, d1, ds1, p1, q1, rfl, rfl, rfl, h1, r1⟩ := trodAll_cons r0
 obtain ⟨v2, vs2, d2, ds2, p2, q2, rfl, rfl, rfl, h2, r2⟩ := trodAll_cons r1
 obtain ⟨rfl, rfl, rfl⟩ := trodAll_nil r2
 obtain rfl : args = #[v0, v1, v2] := by cases args; simp_all
 obtain ⟨rfl, rfl⟩ := trodVars_none hV
 have o0 := hval 0 24 v0 rfl rfl
 unfold Value.okWide at o0
 rw [Try.underlying24] at o0
 obtain ⟨c0, rfl, _, _⟩ := o0
 have o1 := hval 1 28 v1 rfl rfl
 unfold Value.okWide at o1
 rw [Try.underlying28] at o1
 obtain ⟨c1, rfl, _, _⟩ := o1
 have o2 := hval 2 40 v2 rfl rfl
 unfold Value.okWide at o2
 rw [Try.underlying40] at o2
 obtain ⟨c2, rfl, _, _⟩ := o2
 obtain ⟨x0, y0, z0⟩ := rop_raw12.argS h0
 obtain ⟨x1, y1, z1⟩ := rop_raw.argS h1
 obtain ⟨x2, y2, z2⟩ := kop_odd.argS h2
 clear hA0 hval0
 have hbk := of_decide_eq_true hk
 simp only [List.append_nil, Rows.uptoBulkAll] at hbk
 have hlt : ∀ y ∈ (p0 ++ (p1 ++ (p2 ++ []))) ++ [], y.block < W.heap.size := fun y hy => hW'.lt y hy
 have hw := (jku x0 y0.2 y0.1 x1 y1 x2 y2.1.v y2.1.a y2.1.b (by omega)).2 W (fun _ => False) #[.agg c0, .agg c1, .agg c2] rfl (fun j y hj => by
  match j, hj with
  | 0, hj => cases hj; exact z0
  | 1, hj => cases hj; exact z1
  | 2, hj => cases hj; exact z2) (fun b hb => hb.elim)
 refine hw.mono fun e W' ⟨v, he, hr, hb⟩ => ?_
 subst he
 cases hr with | d _ _ hr =>
 cases hr
 refine ⟨_, rfl, _, _, _, [], p0 ++ (p1 ++ (p2 ++ [])), [], hW', ?_, ?_, ?_, hb.frame _, fun h => by cases h⟩
 ·exact trodAll_cons_mk (shut_bool Try.underlying4 _) trodAll_mk0
 ·exact trodAll_cons_mk (Below.trod zlr (by kernel_rfl) (of_decide_eq_true (by kernel_rfl)) h0 hb fun y hy => hlt y (by simp [hy])) (trodAll_cons_mk (Below.trod zlr (by kernel_rfl) (of_decide_eq_true (by kernel_rfl)) h1 hb fun y hy => hlt y (by simp [hy])) (trodAll_cons_mk (Below.trod zlr (by kernel_rfl) (of_decide_eq_true (by kernel_rfl)) h2 hb fun y hy => hlt y (by simp [hy])) trodAll_mk0))
 ·rfl
theorem proved : Rows.NetsimMatchesReferenceUptoSaid :=
 OpenClaim.holds_of_cond 3 Try.f3 rfl rfl rfl rfl rfl rfl rfl ⟨rfl, rfl, rfl, rfl, rfl⟩ rfl rfl rfl rfl rfl (by kernel_rfl) Try.func3 (by kernel_rfl)
  (of_decide_eq_true (by kernel_rfl)) (by unfold Func.isWrapper; first | (rw [if_pos (by decide +kernel)]; kernel_rfl) | (rw [if_neg (by decide +kernel)]; exact ⟨rfl, rfl⟩))
  (fun os started H enc _ F => lifted os started H enc F)
end Go.Proofs.Ytapjobndmmkanaa.netsimMatchesReference
