/- The law DigraphMatchesReference: Valid, Order, Cycle, Depth, Check, Reach and Components give the same as the reference, Valid for every graph, Check for every list, Reach from every number: it returns true for every input, and every input reads afterwards as it read before. -/
import Derived.Test.YtfolbdkbpmgjgaaIl
import Derived.Test.YtfolbdkbpmgjgaaIk
set_option linter.unusedVariables false
set_option linter.unusedSimpArgs false
namespace Go.Proofs.Ytfolbdkbpmgjgaa.digraphMatchesReference
open Go.ChangeShapes Go.WideShapes Go.ChangeAt Go.RowKit
open Go
set_option maxRecDepth 100000 in
theorem lifted(os:Go.Os)(started:os.Started)(H:Type)(enc:TypeId × Value→H):
  ReturnsInHanded {} Try.checked os 3 .any (Rows.digraphMatchesReferenceSpec.pre6 enc Try.prog Try.f3 Rows.digraphMatchesReferenceRow.domain false) (Rows.digraphMatchesReferenceSpec.post enc Try.prog Try.f3 false true false false):=by
 refine returnsInHanded_of_change (C:=Try.checked) own started (by kernel_rfl) Try.func3
  (ChangeSpec.witness6 (enc:=enc) (C:=Try.checked) false ⟨#[],#[.agg #[.int .u8 0,.int .u8 0,.slice none 0 0],.agg #[.int .i64 0,.slice none 0 0,.slice none 0 0,.int .i64 0]],[]⟩ 8 (by kernel_rfl) (by kernel_rfl) (by kernel_rfl) (by kernel_rfl)) ?_
 intro W base args ds gs before hval0 hW hcnd _
 have hval:∀(j:Nat) t v,Try.f3.params[j]? =some t→args[j]? =some v→Value.okWide Try.prog W .any base t v:=hval0
 have hW':=hW
 obtain⟨p,q,hA0,hV,rfl,hfz,hnd⟩:=hW
 have hA:DataW.TrodAll enc Try.prog W 0 (fun _=>true) true Try.f3.params.toList args.toList ds p:=hA0
 rw[Try.params3]at hA hval
 obtain⟨v0,vs0,d0,ds0,p0,q0,hargs,rfl,rfl,h0,r0⟩:=trodAll_cons hA
 obtain⟨v1,vs1,d1,ds1,p1,q1,rfl,rfl,rfl,h1,r1⟩:=trodAll_cons r0
 obtain⟨rfl,rfl,rfl⟩:=trodAll_nil r1
 obtain rfl:args=#[v0,v1]:=by cases args;simp_all
 obtain⟨rfl,rfl⟩:=trodVars_none hV
 have o0:=hval 0 24 v0 rfl rfl
 unfold Value.okWide at o0
 rw[Try.underlying24]at o0
 obtain⟨c0,rfl,_,_⟩:=o0
 have o1:=hval 1 28 v1 rfl rfl
 unfold Value.okWide at o1
 rw[Try.underlying28]at o1
 obtain⟨c1,rfl,_,_⟩:=o1
 obtain⟨x0,y0,z0⟩:=op_rawG.argS h0
 obtain⟨x1,y1,z1⟩:=op_odd.argS h1
 clear hA0 hval0
 have hlt:∀y∈(p0++(p1++[]))++[],y.block<W.heap.size:=fun y hy=>hW'.lt y hy
 have hw:=(zp4 x0 y0 x1).2 W (fun _=>False) #[.agg c0,.agg c1] rfl (fun j y hj=>by
  match j,hj with
  |0,hj=>cases hj;exact z0
  |1,hj=>cases hj;exact z1) (fun b hb=>hb.elim)
 refine hw.mono fun e W' ⟨v,he,hr,hb⟩=>?_
 subst he
 cases hr with|d _ _ hr=>
 cases hr
 refine⟨_,rfl,_,_,_,[],p0++(p1++[]),[],hW',?_,?_,?_,hb.frame _,fun h=>by cases h⟩
 ·exact trodAll_cons_mk (shut_bool Try.underlying4 _) trodAll_mk0
 ·exact trodAll_cons_mk (Below.trod zyv (by kernel_rfl) (of_decide_eq_true (by kernel_rfl)) h0 hb fun y hy=>hlt y (by simp[hy])) (trodAll_cons_mk (Below.trod zyv (by kernel_rfl) (of_decide_eq_true (by kernel_rfl)) h1 hb fun y hy=>hlt y (by simp[hy])) trodAll_mk0)
 ·rfl
theorem proved:Rows.DigraphMatchesReferenceSaid:=
 OpenClaim.holds_of_wide 3 Try.f3 rfl rfl rfl rfl rfl rfl rfl ⟨rfl,rfl,rfl,rfl,rfl⟩ rfl rfl rfl rfl rfl (by kernel_rfl) Try.func3 (by kernel_rfl)
  (of_decide_eq_true (by kernel_rfl)) (by unfold Func.isWrapper;first|(rw[if_pos (by decide +kernel)];kernel_rfl)|(rw[if_neg (by decide +kernel)];exact⟨rfl,rfl⟩))
  (fun os started H enc _=>lifted os started H enc)
end Go.Proofs.Ytfolbdkbpmgjgaa.digraphMatchesReference
