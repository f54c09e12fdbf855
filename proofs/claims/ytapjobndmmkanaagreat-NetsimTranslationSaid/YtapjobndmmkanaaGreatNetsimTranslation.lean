/- The law NetsimTranslation: the netlist of a process makes the same steps as the process, but for Fires, whatever its state, heads and rooms are, and so behind any number of ticks: it returns true for every input, and every input reads afterwards as it read before. -/
import Derived.Test.YtapjobndmmkanaaGreatLx
import Derived.Test.YtapjobndmmkanaaGreatPu
set_option linter.unusedVariables false
set_option linter.unusedSimpArgs false
namespace Go.Proofs.YtapjobndmmkanaaGreat.netsimTranslation
open Go.Proofs.Tryz
open Go.ChangeShapes Go.WideShapes Go.ChangeAt Go.RowKit
open Go
set_option maxRecDepth 100000 in
theorem lifted(os:Go.Os)(started:os.Started)(H:Type)(enc:TypeId × Value→H):
  ReturnsInHanded {} checked os 5 .any (Rows.netsimTranslationSpec.pre6 enc prog f5 Rows.netsimTranslationRow.domain false) (Rows.netsimTranslationSpec.post enc prog f5 false true false false):=by
 refine returnsInHanded_of_change (C:=checked) ynm started (by kernel_rfl) func5
  (ChangeSpec.witness6 (enc:=enc) (C:=checked) false ⟨#[],#[.agg #[.slice none 0 0],.slice none 0 0,.slice none 0 0],[]⟩ 8 (by kernel_rfl) (by kernel_rfl) (by kernel_rfl) (by kernel_rfl)) ?_
 intro W base args ds gs before hval0 hW hcnd _
 have hval:∀(j:Nat) t v,f5.params[j]? =some t→args[j]? =some v→Value.okWide prog W .any base t v:=hval0
 have hW':=hW
 obtain⟨p,q,hA0,hV,rfl,hfz,hnd⟩:=hW
 have hA:DataW.TrodAll enc prog W 0 (fun _=>true) true f5.params.toList args.toList ds p:=hA0
 rw[params5]at hA hval
 obtain⟨v0,vs0,d0,ds0,p0,q0,hargs,rfl,rfl,h0,r0⟩:=trodAll_cons hA
 obtain⟨v1,vs1,d1,ds1,p1,q1,rfl,rfl,rfl,h1,r1⟩:=trodAll_cons r0
 obtain⟨v2,vs2,d2,ds2,p2,q2,rfl,rfl,rfl,h2,r2⟩:=trodAll_cons r1
 obtain⟨rfl,rfl,rfl⟩:=trodAll_nil r2
 obtain rfl:args=#[v0,v1,v2]:=by cases args;simp_all
 obtain⟨rfl,rfl⟩:=trodVars_none hV
 have o0:=hval 0 24 v0 rfl rfl
 unfold Value.okWide at o0
 rw[underlying24]at o0
 obtain⟨c0,rfl,_,_⟩:=o0
 have o1:=hval 1 22 v1 rfl rfl
 have n1:v1.cells=#[v1]:=by
  cases v1 with
  |agg cs=>unfold Value.okWide at o1;rw[underlying22]at o1;unfold Cell.okWide at o1;rw[underlying22]at o1;unfold Cell.ok at o1;rw[underlying22]at o1;exact o1.elim
  |_=>rfl
 have o2:=hval 2 71 v2 rfl rfl
 have n2:v2.cells=#[v2]:=by
  cases v2 with
  |agg cs=>unfold Value.okWide at o2;rw[underlying71]at o2;unfold Cell.okWide at o2;rw[underlying71]at o2;unfold Cell.ok at o2;rw[underlying71]at o2;exact o2.elim
  |_=>rfl
 obtain⟨x0,y0,z0⟩:=lop_raw12.argS h0
 obtain⟨x1,y1,z1⟩:=lop_bytes.arg n1 h1
 obtain⟨x2,y2,z2⟩:=lop_bss.arg n2 h2
 clear hA0 hval0
 have hlt:∀y∈(p0++(p1++(p2++[])))++[],y.block<W.heap.size:=fun y hy=>hW'.lt y hy
 have hw:=(jlx x0 y0.2 y0.1 x1 y1.2 y1.1 x2 y2.1 y2.2).2 W (fun _=>False) #[.agg c0,v1,v2] rfl (fun j y hj=>by
  match j,hj with
  |0,hj=>cases hj;exact z0
  |1,hj=>cases hj;exact z1
  |2,hj=>cases hj;exact z2) (fun b hb=>hb.elim)
 refine hw.mono fun e W' ⟨v,he,hr,hb⟩=>?_
 subst he
 cases hr with|d _ _ hr=>
 cases hr
 refine⟨_,rfl,_,_,_,[],p0++(p1++(p2++[])),[],hW',?_,?_,?_,hb.frame _,fun h=>by cases h⟩
 ·exact trodAll_cons_mk (shut_bool underlying4 _) trodAll_mk0
 ·exact trodAll_cons_mk (Below.trod zjp (by kernel_rfl) (of_decide_eq_true (by kernel_rfl)) h0 hb fun y hy=>hlt y (by simp[hy])) (trodAll_cons_mk (Below.trod zjp (by kernel_rfl) (of_decide_eq_true (by kernel_rfl)) h1 hb fun y hy=>hlt y (by simp[hy])) (trodAll_cons_mk (Below.trod zjp (by kernel_rfl) (of_decide_eq_true (by kernel_rfl)) h2 hb fun y hy=>hlt y (by simp[hy])) trodAll_mk0))
 ·rfl
theorem proved:Rows.NetsimTranslationSaid:=
 OpenClaim.holds_of_wide 5 f5 rfl rfl rfl rfl rfl rfl rfl ⟨rfl,rfl,rfl,rfl,rfl⟩ rfl rfl rfl rfl rfl (by kernel_rfl) func5 (by kernel_rfl)
  (of_decide_eq_true (by kernel_rfl)) (by unfold Func.isWrapper;first|(rw[if_pos (by decide +kernel)];kernel_rfl)|(rw[if_neg (by decide +kernel)];exact⟨rfl,rfl⟩))
  (fun os started H enc _=>lifted os started H enc)
end Go.Proofs.YtapjobndmmkanaaGreat.netsimTranslation
