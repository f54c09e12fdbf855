/- The law DigraphComponents: the result of Components is a partition of the nodes, ordered, two nodes share a class if and only if each reaches the other, the graph of the classes has an order, and the graph has an order if and only if each class has one node and no edge leads from a node to itself: it returns true for every input, and every input reads afterwards as it read before. -/
import Derived.Test.YtfolbdkbpmgjgaaRx
import Derived.Test.YtfolbdkbpmgjgaaJv
set_option linter.unusedVariables false
set_option linter.unusedSimpArgs false
namespace Go.Proofs.Ytfolbdkbpmgjgaa.digraphComponents
open Go.ChangeShapes Go.WideShapes Go.ChangeAt Go.RowKit
open Go
set_option maxRecDepth 100000 in
theorem lifted(os:Go.Os)(started:os.Started)(H:Type)(enc:TypeId × Value→H):
  ReturnsInHanded {} Try.checked os 8 .any (Rows.digraphComponentsSpec.pre6 enc Try.prog Try.f8 Rows.digraphComponentsRow.domain false) (Rows.digraphComponentsSpec.post enc Try.prog Try.f8 false true false false):=by
 refine returnsInHanded_of_change (C:=Try.checked) own started (by kernel_rfl) Try.func8
  (ChangeSpec.witness6 (enc:=enc) (C:=Try.checked) false ⟨#[],#[.agg #[.int .u8 0,.int .u8 0,.slice none 0 0]],[]⟩ 8 (by kernel_rfl) (by kernel_rfl) (by kernel_rfl) (by kernel_rfl)) ?_
 intro W base args ds gs before hval0 hW hcnd _
 have hval:∀(j:Nat) t v,Try.f8.params[j]? =some t→args[j]? =some v→Value.okWide Try.prog W .any base t v:=hval0
 have hW':=hW
 obtain⟨p,q,hA0,hV,rfl,hfz,hnd⟩:=hW
 have hA:DataW.TrodAll enc Try.prog W 0 (fun _=>true) true Try.f8.params.toList args.toList ds p:=hA0
 rw[Try.params8]at hA hval
 obtain⟨v0,vs0,d0,ds0,p0,q0,hargs,rfl,rfl,h0,r0⟩:=trodAll_cons hA
 obtain⟨rfl,rfl,rfl⟩:=trodAll_nil r0
 obtain rfl:args=#[v0]:=by cases args;simp_all
 obtain⟨rfl,rfl⟩:=trodVars_none hV
 have o0:=hval 0 24 v0 rfl rfl
 unfold Value.okWide at o0
 rw[Try.underlying24]at o0
 obtain⟨c0,rfl,_,_⟩:=o0
 obtain⟨x0,y0,z0⟩:=op_rawG.argS h0
 clear hA0 hval0
 have hlt:∀y∈(p0++[])++[],y.block<W.heap.size:=fun y hy=>hW'.lt y hy
 have hw:=(zw5 x0 y0).2 W (fun _=>False) #[.agg c0] rfl (fun j y hj=>by
  match j,hj with
  |0,hj=>cases hj;exact z0) (fun b hb=>hb.elim)
 refine hw.mono fun e W' ⟨v,he,hr,hb⟩=>?_
 subst he
 cases hr with|d _ _ hr=>
 cases hr
 refine⟨_,rfl,_,_,_,[],p0++[],[],hW',?_,?_,?_,hb.frame _,fun h=>by cases h⟩
 ·exact trodAll_cons_mk (shut_bool Try.underlying4 _) trodAll_mk0
 ·exact trodAll_cons_mk (Below.trod jfj (by kernel_rfl) (of_decide_eq_true (by kernel_rfl)) h0 hb fun y hy=>hlt y (by simp[hy])) trodAll_mk0
 ·rfl
theorem proved:Rows.DigraphComponentsSaid:=
 OpenClaim.holds_of_wide 8 Try.f8 rfl rfl rfl rfl rfl rfl rfl ⟨rfl,rfl,rfl,rfl,rfl⟩ rfl rfl rfl rfl rfl (by kernel_rfl) Try.func8 (by kernel_rfl)
  (of_decide_eq_true (by kernel_rfl)) (by unfold Func.isWrapper;first|(rw[if_pos (by decide +kernel)];kernel_rfl)|(rw[if_neg (by decide +kernel)];exact⟨rfl,rfl⟩))
  (fun os started H enc _=>lifted os started H enc)
end Go.Proofs.Ytfolbdkbpmgjgaa.digraphComponents
