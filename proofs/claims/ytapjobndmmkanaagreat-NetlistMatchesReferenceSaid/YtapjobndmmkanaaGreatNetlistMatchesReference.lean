/- The law NetlistMatchesReference: the netlist of a process, which nets are valid, and depths are those of the reference implementation: it returns true for every input, and every input reads afterwards as it read before. -/
import Derived.Test.YtapjobndmmkanaaGreatLx
import Derived.Test.YtapjobndmmkanaaGreatTc
set_option linter.unusedVariables false
set_option linter.unusedSimpArgs false
namespace Go.Proofs.YtapjobndmmkanaaGreat.netlistMatchesReference
open Go.Proofs.Tryz
open Go.ChangeShapes Go.WideShapes Go.ChangeAt Go.RowKit
open Go
set_option maxRecDepth 100000 in
theorem lifted(os:Go.Os)(started:os.Started)(H:Type)(enc:TypeId × Value→H):
  ReturnsInHanded {} checked os 3 .any (Rows.netlistMatchesReferenceSpec.pre6 enc prog f3 Rows.netlistMatchesReferenceRow.domain false) (Rows.netlistMatchesReferenceSpec.post enc prog f3 false true false false):=by
 refine returnsInHanded_of_change (C:=checked) ykc started (by kernel_rfl) func3
  (ChangeSpec.witness6 (enc:=enc) (C:=checked) false ⟨#[],#[.agg #[.slice none 0 0],.agg #[.int .u8 0,.int .u8 0],.agg #[.slice none 0 0,.slice none 0 0,.slice none 0 0,.slice none 0 0]],[]⟩ 8 (by kernel_rfl) (by kernel_rfl) (by kernel_rfl) (by kernel_rfl)) ?_
 intro W base args ds gs before AU hW hcnd _
 have y6:∀(j:Nat) t v,f3.params[j]? =some t→args[j]? =some v→Value.okWide prog W .any base t v:=AU
 have hW':=hW
 obtain⟨p,q,hA0,hV,rfl,hfz,nO⟩:=hW
 have hA:DataW.TrodAll enc prog W 0 (fun _=>true) true f3.params.toList args.toList ds p:=hA0
 rw[params3]at hA y6
 obtain⟨v0,vs0,d0,ds0,p0,q0,Bb,rfl,rfl,h0,r0⟩:=trodAll_cons hA
 obtain⟨v1,vs1,d1,ds1,p1,q1,rfl,rfl,rfl,h1,r1⟩:=trodAll_cons r0
 obtain⟨v2,vs2,d2,ds2,p2,q2,rfl,rfl,rfl,h2,r2⟩:=trodAll_cons r1
 obtain⟨rfl,rfl,rfl⟩:=trodAll_nil r2
 obtain rfl:args=#[v0,v1,v2]:=by cases args;simp_all
 obtain⟨rfl,rfl⟩:=trodVars_none hV
 have o0:=y6 0 24 v0 rfl rfl
 unfold Value.okWide at o0
 rw[underlying24]at o0
 obtain⟨c0,rfl,_,_⟩:=o0
 have o1:=y6 1 25 v1 rfl rfl
 unfold Value.okWide at o1
 rw[underlying25]at o1
 obtain⟨c1,rfl,_,_⟩:=o1
 have o2:=y6 2 30 v2 rfl rfl
 unfold Value.okWide at o2
 rw[underlying30]at o2
 obtain⟨c2,rfl,_,_⟩:=o2
 obtain⟨x0,y0,z0⟩:=um.CW h0
 obtain⟨x1,y1,z1⟩:=B3.CW h1
 obtain⟨x2,y2,z2⟩:=yL.CW h2
 clear hA0 AU
 have aA:∀y∈(p0++(p1++(p2++[])))++[],y.block<W.heap.size:=fun y hy=>hW'.lt y hy
 have hw:=(jka x0 y0.2 y0.1 x1.1 x1.2 y1.1 y1.2 x2 y2.p y2.i y2.g y2.o y2.d).2 W (fun _=>False) #[.agg c0,.agg c1,.agg c2] rfl (fun j y hj=>by
  match j,hj with
  |0,hj=>cases hj;exact z0
  |1,hj=>cases hj;exact z1
  |2,hj=>cases hj;exact z2) (fun b hb=>hb.elim)
 refine hw.mono fun e W' ⟨v,he,hr,hb⟩=>?_
 subst he
 cases hr with|d _ _ hr=>
 cases hr
 refine⟨_,rfl,_,_,_,[],p0++(p1++(p2++[])),[],hW',?_,?_,?_,hb.frame _,fun h=>by cases h⟩
 ·exact trodAll_cons_mk (shut_bool underlying4 _) trodAll_mk0
 ·exact trodAll_cons_mk (Below.trod Ae (by kernel_rfl) (of_decide_eq_true (by kernel_rfl)) h0 hb fun y hy=>aA y (by simp[hy])) (trodAll_cons_mk (Below.trod Ae (by kernel_rfl) (of_decide_eq_true (by kernel_rfl)) h1 hb fun y hy=>aA y (by simp[hy])) (trodAll_cons_mk (Below.trod Ae (by kernel_rfl) (of_decide_eq_true (by kernel_rfl)) h2 hb fun y hy=>aA y (by simp[hy])) trodAll_mk0))
 ·rfl
theorem proved:Rows.NetlistMatchesReferenceSaid:=
 OpenClaim.holds_of_wide 3 f3 rfl rfl rfl rfl rfl rfl rfl ⟨rfl,rfl,rfl,rfl,rfl⟩ rfl rfl rfl rfl rfl (by kernel_rfl) func3 (by kernel_rfl)
  (of_decide_eq_true (by kernel_rfl)) (by unfold Func.isWrapper;first|(rw[if_pos (by decide +kernel)];kernel_rfl)|(rw[if_neg (by decide +kernel)];exact⟨rfl,rfl⟩))
  (fun os started H enc _=>lifted os started H enc)
end Go.Proofs.YtapjobndmmkanaaGreat.netlistMatchesReference
