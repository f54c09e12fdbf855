/- The law NetlistMeaning: evaluated gate by gate, the netlist of a process gives the next state, and all words that are taken and put, as process.Step does: it returns true for every input, and every input reads afterwards as it read before. -/
import Derived.Test.YtapjobndmmkanaaGreatLx
import Derived.Test.YtapjobndmmkanaaGreatPy
set_option linter.unusedVariables false
set_option linter.unusedSimpArgs false
namespace Go.Proofs.YtapjobndmmkanaaGreat.netlistMeaning
open Go.Proofs.Tryz
open Go.ChangeShapes Go.WideShapes Go.ChangeAt Go.RowKit
open Go
set_option maxRecDepth 100000 in
theorem lifted(os:Go.Os)(started:os.Started)(H:Type)(enc:TypeId × Value→H):
  ReturnsInHanded {} checked os 4 .any (Rows.netlistMeaningSpec.pre6 enc prog f4 Rows.netlistMeaningRow.domain false) (Rows.netlistMeaningSpec.post enc prog f4 false true false false):=by
 refine returnsInHanded_of_change (C:=checked) yp3 started (by kernel_rfl) func4
  (ChangeSpec.witness6 (enc:=enc) (C:=checked) false ⟨#[],#[.agg #[.slice none 0 0],.agg #[.slice none 0 0,.slice none 0 0]],[]⟩ 8 (by kernel_rfl) (by kernel_rfl) (by kernel_rfl) (by kernel_rfl)) ?_
 intro W base args ds gs before Bi hW hcnd _
 have CO:∀(j:Nat) t v,f4.params[j]? =some t→args[j]? =some v→Value.okWide prog W .any base t v:=Bi
 have hW':=hW
 obtain⟨p,q,hA0,hV,rfl,hfz,o4⟩:=hW
 have hA:DataW.TrodAll enc prog W 0 (fun _=>true) true f4.params.toList args.toList ds p:=hA0
 rw[params4]at hA CO
 obtain⟨v0,vs0,d0,ds0,p0,q0,BF,rfl,rfl,h0,r0⟩:=trodAll_cons hA
 obtain⟨v1,vs1,d1,ds1,p1,q1,rfl,rfl,rfl,h1,r1⟩:=trodAll_cons r0
 obtain⟨rfl,rfl,rfl⟩:=trodAll_nil r1
 obtain rfl:args=#[v0,v1]:=by cases args;simp_all
 obtain⟨rfl,rfl⟩:=trodVars_none hV
 have o0:=CO 0 24 v0 rfl rfl
 unfold Value.okWide at o0
 rw[underlying24]at o0
 obtain⟨c0,rfl,_,_⟩:=o0
 have o1:=CO 1 48 v1 rfl rfl
 unfold Value.okWide at o1
 rw[underlying48]at o1
 obtain⟨c1,rfl,_,_⟩:=o1
 obtain⟨x0,y0,z0⟩:=u9.IN h0
 obtain⟨x1,y1,z1⟩:=zo.IN h1
 clear hA0 Bi
 have aA:∀y∈(p0++(p1++[]))++[],y.block<W.heap.size:=fun y hy=>hW'.lt y hy
 have hw:=(ja2 x0 y0.2 y0.1 x1.1 y1.1.2 y1.1.1 x1.2 y1.2.2 y1.2.1).2 W (fun _=>False) #[.agg c0,.agg c1] rfl (fun j y hj=>by
  match j,hj with
  |0,hj=>cases hj;exact z0
  |1,hj=>cases hj;exact z1) (fun b hb=>hb.elim)
 refine hw.mono fun e W' ⟨v,he,hr,hb⟩=>?_
 subst he
 cases hr with|d _ _ hr=>
 cases hr
 refine⟨_,rfl,_,_,_,[],p0++(p1++[]),[],hW',?_,?_,?_,hb.frame _,fun h=>by cases h⟩
 ·exact trodAll_cons_mk (shut_bool underlying4 _) trodAll_mk0
 ·exact trodAll_cons_mk (Below.trod B7 (by kernel_rfl) (of_decide_eq_true (by kernel_rfl)) h0 hb fun y hy=>aA y (by simp[hy])) (trodAll_cons_mk (Below.trod B7 (by kernel_rfl) (of_decide_eq_true (by kernel_rfl)) h1 hb fun y hy=>aA y (by simp[hy])) trodAll_mk0)
 ·rfl
theorem proved:Rows.NetlistMeaningSaid:=
 OpenClaim.holds_of_wide 4 f4 rfl rfl rfl rfl rfl rfl rfl ⟨rfl,rfl,rfl,rfl,rfl⟩ rfl rfl rfl rfl rfl (by kernel_rfl) func4 (by kernel_rfl)
  (of_decide_eq_true (by kernel_rfl)) (by unfold Func.isWrapper;first|(rw[if_pos (by decide +kernel)];kernel_rfl)|(rw[if_neg (by decide +kernel)];exact⟨rfl,rfl⟩))
  (fun os started H enc _=>lifted os started H enc)
end Go.Proofs.YtapjobndmmkanaaGreat.netlistMeaning
