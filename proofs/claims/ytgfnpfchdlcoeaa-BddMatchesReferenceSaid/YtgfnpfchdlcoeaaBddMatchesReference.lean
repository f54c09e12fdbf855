/- The law BddMatchesReference: for every generated net, shape and list of nodes, Build returns the diagram, with the errors, of the reference; and for every diagram of at most 30 nodes all other functions return its results: it returns true for every input, and every input reads afterwards as it read before. -/
import Derived.Test.YtgfnpfchdlcoeaaEx
import Derived.Test.YtgfnpfchdlcoeaaHp
set_option linter.unusedVariables false
set_option linter.unusedSimpArgs false
namespace Go.Proofs.Ytgfnpfchdlcoeaa.bddMatchesReference
open Go.ChangeShapes Go.WideShapes Go.ChangeAt Go.RowKit
open Go
set_option maxRecDepth 100000 in
theorem lifted (os : Os) (started : os.Started) (H : Type) (enc : TypeId × Value → H) :
  ReturnsInHanded {} Try.checked os 3 .any (Rows.bddMatchesReferenceSpec.pre6 enc Try.prog Try.f3 Rows.bddMatchesReferenceRow.domain false) (Rows.bddMatchesReferenceSpec.post enc Try.prog Try.f3 false true false false) := by
 refine returnsInHanded_of_change (C := Try.checked) own started (by kernel_rfl) Try.func3
  (ChangeSpec.witness6 (enc := enc) (C := Try.checked) false ⟨#[], #[.agg #[.slice none 0 0, .slice none 0 0, .slice none 0 0], .agg #[.int .u8 0, .int .u8 0, .int .u8 0], .agg #[.slice none 0 0, .slice none 0 0, .int .i64 0, .int .i64 0, .slice none 0 0, .slice none 0 0, .slice none 0 0]], []⟩ 8 (by kernel_rfl) (by kernel_rfl) (by kernel_rfl) (by kernel_rfl)) ?_
 intro W base args ds gs before hval0 hW hcnd _
 have hval : ∀ (j : Nat) t v, Try.f3.params[j]? = some t → args[j]? = some v → Value.okWide Try.prog W .any base t v := hval0
 have hW' := hW
 obtain ⟨p, q, hA0, hV, rfl, hfz, hnd⟩ := hW
 have hA : DataW.TrodAll enc Try.prog W 0 (fun _ => true) true Try.f3.params.toList args.toList ds p := hA0
 rw [Try.params3] at hA hval
 obtain ⟨v0, vs0, d0, ds0, p0, q0, hargs, rfl, rfl, h0, r0⟩ := trodAll_cons hA
 obtain ⟨v1, vs1, d1, ds1, p1, q1, rfl, rfl, rfl, h1, r1⟩ := trodAll_cons r0
 obtain ⟨v2, vs2, d2, ds2, p2, q2, rfl, rfl, rfl, h2, r2⟩ := trodAll_cons r1
 obtain ⟨rfl, rfl, rfl⟩ := trodAll_nil r2
 obtain rfl : args = #[v0, v1, v2] := by cases args; simp_all
 obtain ⟨rfl, rfl⟩ := trodVars_none hV
 have o0 := hval 0 26 v0 rfl rfl
 unfold Value.okWide at o0
 rw [Try.underlying26] at o0
 obtain ⟨c0, rfl, _, _⟩ := o0
 have o1 := hval 1 27 v1 rfl rfl
 unfold Value.okWide at o1
 rw [Try.underlying27] at o1
 obtain ⟨c1, rfl, _, _⟩ := o1
 have o2 := hval 2 35 v2 rfl rfl
 unfold Value.okWide at o2
 rw [Try.underlying35] at o2
 obtain ⟨c2, rfl, _, _⟩ := o2
 obtain ⟨x0, y0, z0⟩ := op_raw.argS h0
 obtain ⟨x1, y1, z1⟩ := op_s3.argS h1
 obtain ⟨x2, y2, z2⟩ := op_odd.argS h2
 clear hA0 hval0
 have hlt : ∀ y ∈ (p0 ++ (p1 ++ (p2 ++ []))) ++ [], y.block < W.heap.size := fun y hy => hW'.lt y hy
 have hw := (zx8 x0 y0 x1.1 x1.2.1 x1.2.2 y1.1 y1.2.1 y1.2.2 x2.ns x2.rs x2.node x2.vars x2.nodes x2.shp x2.vals y2.i y2.n y2.r y2.d y2.s y2.v).2 W (fun _ => False) #[.agg c0, .agg c1, .agg c2] rfl (fun j y hj => by
  match j, hj with
  | 0, hj => cases hj; exact z0
  | 1, hj => cases hj; exact z1
  | 2, hj => cases hj; exact z2) (fun b hb => hb.elim)
 refine hw.mono fun e W' ⟨v, he, hr, hb⟩ => ?_
 subst he
 cases hr with | d _ _ hr =>
 cases hr
 refine ⟨_, rfl, _, _, _, [], p0 ++ (p1 ++ (p2 ++ [])), [], hW', ?_, ?_, ?_, hb.frame _, fun h => by cases h⟩
 ·exact trodAll_cons_mk (shut_bool Try.underlying4 _) trodAll_mk0
 ·exact trodAll_cons_mk (Below.trod zpz (by kernel_rfl) (of_decide_eq_true (by kernel_rfl)) h0 hb fun y hy => hlt y (by simp [hy])) (trodAll_cons_mk (Below.trod zpz (by kernel_rfl) (of_decide_eq_true (by kernel_rfl)) h1 hb fun y hy => hlt y (by simp [hy])) (trodAll_cons_mk (Below.trod zpz (by kernel_rfl) (of_decide_eq_true (by kernel_rfl)) h2 hb fun y hy => hlt y (by simp [hy])) trodAll_mk0))
 ·rfl
theorem proved : Rows.BddMatchesReferenceSaid :=
 OpenClaim.holds_of_wide 3 Try.f3 rfl rfl rfl rfl rfl rfl rfl ⟨rfl, rfl, rfl, rfl, rfl⟩ rfl rfl rfl rfl rfl (by kernel_rfl) Try.func3 (by kernel_rfl)
  (of_decide_eq_true (by kernel_rfl)) (by unfold Func.isWrapper; first | (rw [if_pos (by decide +kernel)]; kernel_rfl) | (rw [if_neg (by decide +kernel)]; exact ⟨rfl, rfl⟩))
  (fun os started H enc _ => lifted os started H enc)
end Go.Proofs.Ytgfnpfchdlcoeaa.bddMatchesReference
