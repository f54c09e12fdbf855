/- netlist's builder: operands, complements, pairs. -/
import Derived.Test.YtapjobndmmkanaaGreatQr
import Derived.Test.YtapjobndmmkanaaGreatYb
set_option linter.unusedVariables false
set_option linter.unusedSimpArgs false
set_option maxRecDepth 100000
set_option maxHeartbeats 4000000
namespace Go.Proofs.YtapjobndmmkanaaGreat
open Go.Proofs.Tryz
open Go Go.RowKit
section
section
variable {e:BE} {gs:Gs} {μ:Mp}
theorem dM.uk(h:dM e gs μ){x:Int}(hx:bm (aB e) gs x):kJ x:=by
 have h1:=hx.1;have h2:=hx.2;have h3:=h.i;have h4:=h.l
 unfold aB at h2
 exact n9 (by omega) (by omega)
theorem dM.EB(h:dM e gs μ){o x y z:Int}(o0:0≤o)(o1:o≤10)(hx:bm (aB e) gs x)(hy:bm (aB e) gs y)(hz:bm (aB e) gs z):QY ⟨o,x,y,z,0⟩:=
 ⟨n9 (by simp only;omega) (by simp only;omega),h.uk hx,h.uk hy,h.uk hz,(n9 (by decide) (by decide):kJ 0)⟩
theorem dM.z(h:dM e gs μ):bm (aB e) gs 0:=⟨by omega,by unfold aB;omega⟩
theorem nG:2≤aB e:=by unfold aB;omega
theorem dM.next(h:dM e gs μ){n:Nat}{r:Re}(hr:Rs (aB e) n gs r){μ':Mp}(hn:ir (aB e) r.1 μ')(hl:gs.length+n≤100000):dM e r.1 μ':=⟨hn,hr.gi,h.i,by have:=hr.len;omega⟩
end
def VK(e:BE)(gs:Gs)(μ:Mp)(y x:AV)(S':av):Prop:=∃z,z=y∧x=z∧S'=bH e gs μ
theorem Kb{p q:Prop}(hq:q)(h:p=q:=by
 conv=>lhs;simp -dsimp -implicitDefEqProofs (disch:=first|assumption|omega|(simp only[aH,aQ,bc]<;>omega)|decide) only[aN,↓reduceIte,Nat.reduceEqDiff,Nat.reduceAdd,D.fix,Int.reduceToNat,Nat.reduceMul,Nat.reduceBNe,Nat.reduceBEq,ch,bH,bO,aK]):p:=h.mpr hq
theorem NZ{p q r:Prop}(e:r)(hq:q)(h:r→p=q:=by
 intro hY
 conv=>lhs;simp -dsimp -implicitDefEqProofs (disch:=first|assumption|omega|(simp only[aH,aQ,bc]<;>omega)|decide) only[aN,↓reduceIte,Nat.reduceEqDiff,Nat.reduceAdd,D.fix,Int.reduceToNat,Nat.reduceMul,Nat.reduceBNe,Nat.reduceBEq,ch,bH,bO,aK,BK,EX,bw,hY]):p:=(h e).mpr hq
theorem AD(k:List Nat){m:List Nat}{τ τ1:Fr}{H H1:av}(h:Rt m (fun t=>du k (τ t)) (dg k H) τ1 H1)(a:∀i∈m,k[i]? =some i:=by decide)(b:k.Nodup:=by decide)(c:∀i∈k,i<H.length:=by
 simp[eJ,dg]):Rt m τ H τ1 H1:=Rt.trans (Rt.gc a b c) h
theorem AB{m:List Nat}{τ τ':Fr}{H H':av}(h2:H=H')(h:fw τ τ':=by
 repeat (first|exact cw _|refine cg ?_ (by first|rfl|(simp[aX,aQ,bc];done)|simp[aX,aQ,bc, *]))):Rt m τ H τ' H':=Rt.end h h2
theorem FH{p:Prop}(h:p:=by
 first|rfl|(simp only[cP,Nat.reduceAdd,↓reduceIte,Nat.reduceEqDiff,ch,bH,bO,aK];first|done|rfl)):p:=h
theorem It(e:BE)(gs:Gs)(μ:Mp)(x:Int)(h:dM e gs μ)(hx:bm (aB e) gs x):cY prog [0,1,2,3,4,5,6,7] 180 [.op 0 0,.d (iD x)] (bH e gs μ) (VK e gs μ (.d (iD (fV (aB e) gs x)))):=by
 refine fX (fn:=f180) (by kernel_rfl) func180 rfl (cn rfl) fun c hc hp=>?_
 refine pX ?_
 have x0:=hx.1;have x1:=hx.2;have i1:=h.i;have l1:=h.l
 have hm:((aB e:Nat):Int)=2+e.ins.length:=by unfold aB;omega
 rw[hm]at x1
 refine ah (Kb ·) ?_
 refine aD fun K2 bS=>?_
 refine aZ hp ax hc rfl fun K3 cm=>?_
 simp -dsimp -implicitDefEqProofs (disch:=first|assumption|omega|(simp only[aH,aQ,bc]<;>omega)|decide) only[aN,↓reduceIte,Nat.reduceEqDiff,Nat.reduceAdd,D.fix,Int.reduceToNat,Nat.reduceMul,Nat.reduceBNe,Nat.reduceBEq,ch,bH,bO,aK,bw]
 refine cm _ _ ?_
 refine aZ hp ax hc rfl fun K4 dE=>?_
 rcases(show ¬(0≤x - 2 - (e.ins.length:Int))∨(0≤x - 2 - (e.ins.length:Int)∧(nth gs (x - 2 - (e.ins.length:Int)).toNat).op=1)∨(0≤x - 2 - (e.ins.length:Int)∧(nth gs (x - 2 - (e.ins.length:Int)).toNat).op≠1) by omega)with q|⟨q,q'⟩|⟨q,q'⟩
 ·have q1:decide (0≤x - 2 - (e.ins.length:Int))=false:=decide_eq_false q
  have q2:=q1
  have fk:fV (aB e) gs x= -1:=by unfold fV;rw[if_neg (fun hh=>q (by have:=hh.1;omega))]
  refine NZ (aw q1 q2) ?_
  refine dE _ _ ?_
  refine bA ?_
  refine bg (bS _ _ ?_)
  refine ah (Kb ·) ?_
  refine bC hp (τ':=aF [(4,.d (iD (-1)))]) (H':=bH e gs μ) ?_ ?_
  ·refine AD [0,1,2,3,4,5,6,7] ?_
   refine AB ?_
   exact FH
  refine aM ?_
  refine dJ (t:=4) rfl ?_
  show ∃_,_
  exact⟨_,rfl,by rw[fk];rfl,rfl⟩
 ·have q1:decide (0≤x - 2 - (e.ins.length:Int))=true:=decide_eq_true q
  have q2:((nth gs (x - 2 - (e.ins.length:Int)).toNat).op==1)=true:=by simpa using q'
  have hk:(x - 2 - (e.ins.length:Int)).toNat<gs.length:=by omega
  have fk:fV (aB e) gs x=(nth gs (x - 2 - (e.ins.length:Int)).toNat).a:=by unfold fV;rw[hm,show x - (2+(e.ins.length:Int))=x - 2 - e.ins.length by omega,if_pos ⟨by omega,q'⟩]
  refine NZ (aw q1 q2) ?_
  refine dE _ _ ?_
  refine dh ?_
  refine aZ hp ax hc rfl fun K6 cK=>?_
  simp -dsimp -implicitDefEqProofs (disch:=first|assumption|omega|(simp only[aH,aQ,bc]<;>omega)|decide) only[aN,↓reduceIte,Nat.reduceEqDiff,Nat.reduceAdd,D.fix,Int.reduceToNat,Nat.reduceMul,Nat.reduceBNe,Nat.reduceBEq,ch,bH,bO,aK,BK,EW,bw]
  refine cK _ _ ?_
  refine bC hp (τ':=aF [(4,.d (iD (nth gs (x - 2 - (e.ins.length:Int)).toNat).a))]) (H':=bH e gs μ) ?_ ?_
  ·refine AD [0,1,2,3,4,5,6,7] ?_
   refine AB ?_
   exact FH
  refine aM ?_
  refine dJ (t:=4) rfl ?_
  show ∃_,_
  exact⟨_,rfl,by rw[fk];rfl,rfl⟩
 ·have q1:decide (0≤x - 2 - (e.ins.length:Int))=true:=decide_eq_true q
  have q2:((nth gs (x - 2 - (e.ins.length:Int)).toNat).op==1)=false:=by simpa using q'
  have hk:(x - 2 - (e.ins.length:Int)).toNat<gs.length:=by omega
  have fk:fV (aB e) gs x= -1:=by unfold fV;rw[hm,show x - (2+(e.ins.length:Int))=x - 2 - e.ins.length by omega,if_neg (fun hh=>q' hh.2)]
  refine NZ (aw q1 q2) ?_
  refine dE _ _ ?_
  refine bA ?_
  refine bg (bS _ _ ?_)
  refine ah (Kb ·) ?_
  refine bC hp (τ':=aF [(4,.d (iD (-1)))]) (H':=bH e gs μ) ?_ ?_
  ·refine AD [0,1,2,3,4,5,6,7] ?_
   refine AB ?_
   exact FH
  refine aM ?_
  refine dJ (t:=4) rfl ?_
  show ∃_,_
  exact⟨_,rfl,by rw[fk];rfl,rfl⟩
theorem Xw{p q:Prop}(hq:q)(h:p=q:=by
 conv=>lhs;simp -dsimp -implicitDefEqProofs (disch:=first|assumption|omega|(simp only[aH,aQ,bc]<;>omega)|decide) only[aN,↓reduceIte,Nat.reduceEqDiff,Nat.reduceAdd,D.fix,Int.reduceToNat,Nat.reduceMul,Nat.reduceBNe,Nat.reduceBEq,ch,bH,bO,aK,aY]):p:=h.mpr hq
theorem Br{p q:Prop}(hq:q)(h:p=q:=by
 conv=>lhs;simp -dsimp -implicitDefEqProofs (disch:=first|assumption|omega|(simp only[aH,aQ,bc]<;>omega)|decide) only[aN,↓reduceIte,Nat.reduceEqDiff,Nat.reduceAdd,D.fix,Int.reduceToNat,Nat.reduceMul,Nat.reduceBNe,Nat.reduceBEq,ch,bH,bO,aK,aY,bw]):p:=h.mpr hq
theorem FG{P:Program}{sm:List Nat}{N:Nat}{τ:Fr}{H:av}{f:FuncId}{args:List AV}{K0 KK:AV→av→Prop}{ks:List Nat}(S T:av)(h:cY P ks f args S K0)(hK:∀x S',K0 x S'→S'.length=S.length∧KK x (S'++T))(hH:H=S++T:=by
 rfl) (hm:sm.all (aL ks S.length)=true:=by
 first|rfl|(simp[AV.aj,AV.allI,bo,bq,bp,aL,aO,bn,br,bH,bO];done)|(intro o ho;simp at ho;done)) (hτ:∀t,(τ t).allI (aL ks S.length)=true:=by
 exact fun t=>fL (by first|rfl|(simp[AV.aj,AV.allI,bo,bq,bp,aL,aO,bn,br,bH,bO];done)|(intro o ho;simp at ho;done)) t) (ha:AV.aj (aO S.length) args=true:=by
 first|rfl|(simp[AV.aj,AV.allI,bo,bq,bp,aL,aO,bn,br,bH,bO];done)|(intro o ho;simp at ho;done)) (hS:∀o∈S,o.allI (aO S.length)=true:=by
 first|rfl|(simp[AV.aj,AV.allI,bo,bq,bp,aL,aO,bn,br,bH,bO];done)|(intro o ho;simp at ho;done)) (hT:∀o∈T,o.allI (aL ks S.length)=true:=by
 first|rfl|(simp[AV.aj,AV.allI,bo,bq,bp,aL,aO,bn,br,bH,bO];done)|(intro o ho;simp at ho;done)):kC P sm N H τ (.d (.val (.func (.func f) #[] #[]))) args true (tg KK):=rH h hH hm hτ ha hS hT hK
theorem Nh{p:Prop}(h:p:=by
 first|rfl|(simp only[cP,Nat.reduceAdd,↓reduceIte,Nat.reduceEqDiff,ch,bH,bO,aK,aY];first|done|rfl)):p:=h
theorem zU(e:BE)(gs:Gs)(μ:Mp)(x:Int)(h:dM e gs μ)(hx:bm (aB e) gs x):cY prog [0,1,3,4,5,6,7] 142 [.op 0 0,.d (iD x)] (bH e gs μ) (yP e (dH (aB e) gs x)):=by
 refine fX (fn:=f142) (by kernel_rfl) func142 rfl (cn rfl) fun c hc hp=>?_
 refine pX ?_
 have x0:=hx.1;have x1:=hx.2;have i1:=h.i;have l1:=h.l
 unfold aB at x1
 refine ah (Xw ·) ?_
 refine aD fun K2 bS=>?_
 refine ah (Br ·) ?_
 refine bf rfl (fun ht=>?_) (fun ht=>?_)
 ·have aA:x<2:=by simpa using ht
  refine ah (Br ·) ?_
  refine bC hp (τ':=aF [(4,.d (iD (1 - x)))]) (H':=bH e gs μ) ?_ ?_
  ·refine AD [0,1,2,3,4,5,6,7] ?_
   refine AB ?_
   exact Nh
  refine aM ?_
  refine dJ (t:=4) rfl ?_
  show ∃_,_
  exact⟨μ,by unfold dH;rw[if_pos aA];exact h.n,by unfold dH;rw[if_pos aA];rfl,by unfold dH;rw[if_pos aA]⟩
 ·have aA:¬x<2:=by simpa using ht
  refine bg (bS _ _ ?_)
  refine aD fun K5 dx=>?_
  refine aZ hp ax hc rfl fun K6 cK=>?_
  refine Br ?_
  refine FG (bH e gs μ) ([]) (It e gs μ x h hx) ?_
  rintro _ _ ⟨_,rfl,rfl,rfl⟩
  refine⟨rfl,?_⟩
  refine Br ?_
  refine cK _ _ ?_
  refine ah (Br ·) ?_
  refine bf rfl (fun ht=>?_) (fun ht=>?_)
  ·have fk:0≤fV (aB e) gs x:=by simpa using ht
   refine ah (Xw ·) ?_
   refine bC hp (τ':=aF [(4,.d (iD (fV (aB e) gs x)))]) (H':=bH e gs μ) ?_ ?_
   ·refine AD [0,1,2,3,4,5,6,7] ?_
    refine AB ?_
    exact Nh
   refine aM ?_
   refine dJ (t:=4) rfl ?_
   show ∃_,_
   exact⟨μ,by unfold dH;rw[if_neg aA,if_pos fk];exact h.n,by unfold dH;rw[if_neg aA,if_pos fk];rfl,by unfold dH;rw[if_neg aA,if_pos fk]⟩
  ·have fk:¬0≤fV (aB e) gs x:=by simpa using ht
   refine bg (dx _ _ ?_)
   refine aZ hp ax hc rfl fun K9 cX=>?_
   refine Br ?_
   refine FG (bH e gs μ) ([]) (BG e gs μ ⟨1,x,0,0,0⟩ h.n (h.EB (by decide) (by decide) hx h.z h.z) h.i h.l) ?_
   rintro _ _ ⟨μ2,dA,rfl,rfl⟩
   refine⟨rfl,?_⟩
   refine Br ?_
   refine cX _ _ ?_
   refine bC hp (τ':=aF [(4,.d (iD (gw (aB e) gs ⟨1,x,0,0,0⟩).2))]) (H':=bH e (gw (aB e) gs ⟨1,x,0,0,0⟩).1 μ2) ?_ ?_
   ·refine AD [0,1,2,3,4,5,6,7] ?_
    refine AB ?_
    exact Nh
   refine aM ?_
   refine dJ (t:=4) rfl ?_
   show ∃_,_
   exact⟨μ2,by unfold dH;rw[if_neg aA,if_neg fk];exact dA,by unfold dH;rw[if_neg aA,if_neg fk];rfl,by unfold dH;rw[if_neg aA,if_neg fk]⟩
theorem Gm{p q r:Prop}(e:r)(hq:q)(h:r→p=q:=by
 intro hY
 conv=>lhs;simp -dsimp -implicitDefEqProofs (disch:=first|assumption|omega|(simp only[aH,aQ,bc]<;>omega)|decide) only[aN,↓reduceIte,Nat.reduceEqDiff,Nat.reduceAdd,D.fix,Int.reduceToNat,Nat.reduceMul,Nat.reduceBNe,Nat.reduceBEq,ch,bH,bO,aK,bw,hY]):p:=(h e).mpr hq
theorem Oy(e:BE)(gs:Gs)(μ:Mp)(x y:Int)(h:dM e gs μ)(hx:bm (aB e) gs x)(hy:bm (aB e) gs y):cY prog [0,1,2,3,4,5,6,7] 155 [.op 0 0,.d (iD x),.d (iD y)] (bH e gs μ) (VK e gs μ (.dR [.d (iD (min x y)),.d (iD (max x y)),.d (oD (jo (aB e) gs x y))])):=by
 refine fX (fn:=f155) (by kernel_rfl) func155 rfl (cn rfl) fun c hc hp=>?_
 refine tr ?_
 refine ah (Kb ·) ?_
 refine aZ hp ax hc rfl fun K2 bS=>?_
 by_cases q:fV (aB e) gs x=y
 ·have q1:(fV (aB e) gs x==y)=true:=by simpa using q
  have ho:jo (aB e) gs x y=true:=by unfold jo;rw[decide_eq_true q];rfl
  refine Gm q1 ?_
  refine FG (bH e gs μ) ([]) (It e gs μ x h hx) ?_
  rintro _ _ ⟨_,rfl,rfl,rfl⟩
  refine⟨rfl,?_⟩
  refine Gm q1 ?_
  refine bS _ _ ?_
  refine bC hp (τ':=aF [(6,.d (iD (min x y))),(7,.d (iD (max x y))),(8,.d (oD true))]) (H':=bH e gs μ) ?_ ?_
  ·refine AD [0,1,2,3,4,5,6,7] ?_
   refine AB ?_
   exact FH
  refine aM ?_
  try dsimp only[cC,cI]
  refine Mq rfl ?_
  refine zW ?_
  refine zW ?_
  refine zW ?_
  show ∃_,_
  exact⟨_,rfl,by rw[ho];rfl,rfl⟩
 ·have q1:(fV (aB e) gs x==y)=false:=by simpa using q
  have ho:jo (aB e) gs x y=(fV (aB e) gs y==x):=by unfold jo;rw[decide_eq_false q,Bool.false_or];cases hd:decide (fV (aB e) gs y=x)<;>simp_all
  refine Gm q1 ?_
  refine FG (bH e gs μ) ([]) (It e gs μ x h hx) ?_
  rintro _ _ ⟨_,rfl,rfl,rfl⟩
  refine⟨rfl,?_⟩
  refine Gm q1 ?_
  refine FG (bH e gs μ) ([]) (It e gs μ y h hy) ?_
  rintro _ _ ⟨_,rfl,rfl,rfl⟩
  refine⟨rfl,?_⟩
  refine Gm q1 ?_
  refine bS _ _ ?_
  refine bC hp (τ':=aF [(6,.d (iD (min x y))),(7,.d (iD (max x y))),(8,.d (oD (fV (aB e) gs y==x)))]) (H':=bH e gs μ) ?_ ?_
  ·refine AD [0,1,2,3,4,5,6,7] ?_
   refine AB ?_
   exact FH
  refine aM ?_
  try dsimp only[cC,cI]
  refine Mq rfl ?_
  refine zW ?_
  refine zW ?_
  refine zW ?_
  show ∃_,_
  exact⟨_,rfl,by rw[ho];rfl,rfl⟩
end
theorem Ox(m:Nat)(gs:Gs)(x y:Int):jo m gs (min x y) (max x y)=jo m gs x y:=by
 rcases Int.le_total x y with h|h
 ·rw[Int.min_eq_left h,Int.max_eq_right h]
 ·rw[Int.min_eq_right h,Int.max_eq_left h];unfold jo;rw[Bool.or_comm]
theorem ya6(m:Nat)(gs:Gs)(x y:Int):dj m gs x y=if min x y=0∨jo m gs x y=true then(gs,0)else if min x y=1∨min x y=max x y then(gs,max x y)else gw m gs ⟨2,min x y,max x y,0,0⟩:=by
 unfold dj yW;rw[Ox]
theorem yf3(m:Nat)(gs:Gs)(x y:Int):iM m gs x y=if min x y=1∨jo m gs x y=true then(gs,1)else if min x y=0∨min x y=max x y then(gs,max x y)else gw m gs ⟨3,min x y,max x y,0,0⟩:=by
 unfold iM yK;rw[Ox]
theorem ya7(m:Nat)(gs:Gs)(x y:Int):fQ m gs x y=if min x y=0 then(gs,max x y)else if min x y=1 then dH m gs (max x y)else if min x y=max x y then(gs,0)else if jo m gs x y=true then(gs,1)else gw m gs ⟨4,min x y,max x y,0,0⟩:=by
 unfold fQ yV;rw[Ox]
theorem xd{a b:Int}(h:a=b):(a==b)=true:=by simpa using h
theorem oC{a b:Int}(h:a≠b):(a==b)=false:=by simpa using h
theorem sg{p q:Prop}(hq:q)(h:p=q:=by
 conv=>lhs;simp -dsimp -implicitDefEqProofs (disch:=first|assumption|omega|(simp only[aH,aQ,bc]<;>omega)|decide) only[aN,↓reduceIte,Nat.reduceEqDiff,Nat.reduceAdd,D.fix,Int.reduceToNat,Nat.reduceMul,Nat.reduceBNe,Nat.reduceBEq,ch,bH,bO,aK,aY]):p:=h.mpr hq
theorem qu{p q:Prop}(hq:q)(h:p=q:=by
 conv=>lhs;simp -dsimp -implicitDefEqProofs (disch:=first|assumption|omega|(simp only[aH,aQ,bc]<;>omega)|decide) only[aN,↓reduceIte,Nat.reduceEqDiff,Nat.reduceAdd,D.fix,Int.reduceToNat,Nat.reduceMul,Nat.reduceBNe,Nat.reduceBEq,ch,bH,bO,aK,aY,bw]):p:=h.mpr hq
theorem B8{P:Program}{sm:List Nat}{N:Nat}{τ:Fr}{H:av}{f:FuncId}{args:List AV}{K0 KK:AV→av→Prop}{ks:List Nat}(S T:av)(h:cY P ks f args S K0)(hK:∀x S',K0 x S'→S'.length=S.length∧KK x (S'++T))(hH:H=S++T:=by
 rfl) (hm:sm.all (aL ks S.length)=true:=by
 first|rfl|(simp[AV.aj,AV.allI,bo,bq,bp,aL,aO,bn,br,bH,bO];done)|(intro o ho;simp at ho;done)) (hτ:∀t,(τ t).allI (aL ks S.length)=true:=by
 exact fun t=>fL (by first|rfl|(simp[AV.aj,AV.allI,bo,bq,bp,aL,aO,bn,br,bH,bO];done)|(intro o ho;simp at ho;done)) t) (ha:AV.aj (aO S.length) args=true:=by
 first|rfl|(simp[AV.aj,AV.allI,bo,bq,bp,aL,aO,bn,br,bH,bO];done)|(intro o ho;simp at ho;done)) (hS:∀o∈S,o.allI (aO S.length)=true:=by
 first|rfl|(simp[AV.aj,AV.allI,bo,bq,bp,aL,aO,bn,br,bH,bO];done)|(intro o ho;simp at ho;done)) (hT:∀o∈T,o.allI (aL ks S.length)=true:=by
 first|rfl|(simp[AV.aj,AV.allI,bo,bq,bp,aL,aO,bn,br,bH,bO];done)|(intro o ho;simp at ho;done)):kC P sm N H τ (.d (.val (.func (.func f) #[] #[]))) args true (tg KK):=rH h hH hm hτ ha hS hT hK
theorem rE{p q r:Prop}(e:r)(hq:q)(h:r→p=q:=by
 intro hY
 conv=>lhs;simp -dsimp -implicitDefEqProofs (disch:=first|assumption|omega|(simp only[aH,aQ,bc]<;>omega)|decide) only[aN,↓reduceIte,Nat.reduceEqDiff,Nat.reduceAdd,D.fix,Int.reduceToNat,Nat.reduceMul,Nat.reduceBNe,Nat.reduceBEq,ch,bH,bO,aK,aY,bw,hY]):p:=(h e).mpr hq
theorem sd(k:List Nat){m:List Nat}{τ τ1:Fr}{H H1:av}(h:Rt m (fun t=>du k (τ t)) (dg k H) τ1 H1)(a:∀i∈m,k[i]? =some i:=by decide)(b:k.Nodup:=by decide)(c:∀i∈k,i<H.length:=by
 simp[eJ,dg]):Rt m τ H τ1 H1:=Rt.trans (Rt.gc a b c) h
theorem r7{m:List Nat}{τ τ':Fr}{H H':av}(h2:H=H')(h:fw τ τ':=by
 repeat (first|exact cw _|refine cg ?_ (by first|rfl|(simp[aX,aQ,bc];done)|simp[aX,aQ,bc, *]))):Rt m τ H τ' H':=Rt.end h h2
theorem r6{p:Prop}(h:p:=by
 first|rfl|(simp only[cP,Nat.reduceAdd,↓reduceIte,Nat.reduceEqDiff,ch,bH,bO,aK,aY];first|done|rfl)):p:=h
theorem vH(e:BE)(gs:Gs)(μ:Mp)(x y:Int)(h:dM e gs μ)(hx:bm (aB e) gs x)(hy:bm (aB e) gs y):cY prog [0,1,3,4,5,6,7] 95 [.op 0 0,.d (iD x),.d (iD y)] (bH e gs μ) (yP e (dj (aB e) gs x y)):=by
 refine fX (fn:=f95) (by kernel_rfl) func95 rfl (cn rfl) fun c hc hp=>?_
 refine tr ?_
 have hd:=ya6 (aB e) gs x y
 have hX:=C6 hx hy;have hY:=C5 hx hy
 have hs:=Oy e gs μ x y h hx hy
 obtain⟨X,eX⟩:∃X,X=min x y:=⟨_,rfl⟩
 obtain⟨Y,eY⟩:∃Y,Y=max x y:=⟨_,rfl⟩
 obtain⟨O,eO⟩:∃O,O=jo (aB e) gs x y:=⟨_,rfl⟩
 rw[←eX,←eY,←eO]at hs
 simp only[←eX,←eY,←eO]at hd
 rw[←eX]at hX
 rw[←eY]at hY
 have x0:=hX.1;have x1:=hX.2;have y0:=hY.1;have y1:=hY.2;have i1:=h.i;have l1:=h.l
 unfold aB at x1 y1
 refine ah (sg ·) ?_
 refine aZ hp ax hc rfl fun K2 bS=>?_
 refine qu ?_
 refine B8 (bH e gs μ) ([]) (hs) ?_
 rintro _ _ ⟨_,rfl,rfl,rfl⟩
 refine⟨rfl,?_⟩
 refine qu ?_
 refine bS _ _ ?_
 refine aD fun K3 cm=>?_
 refine aW ?_
 refine aZ hp ax hc rfl fun K4 dE=>?_
 rcases(show X=0∨(X≠0∧O=true)∨(X≠0∧O=false∧X=1)∨(X≠0∧O=false∧X≠1∧X=Y)∨(X≠0∧O=false∧X≠1∧X≠Y) by cases O<;>simp<;>omega)with q|⟨q,o⟩|⟨q,o,r⟩|⟨q,o,r,s⟩|⟨q,o,r,s⟩
 ·have q1:=xd q
  have o:=q1
  refine rE (aw q1 o) ?_
  refine dE _ _ ?_
  refine dh ?_
  refine ah (sg ·) ?_
  refine bC hp (τ':=aF [(6,.d (iD 0))]) (H':=bH e gs μ) ?_ ?_
  ·refine sd [0,1,2,3,4,5,6,7] ?_
   refine r7 ?_
   exact r6
  refine aM ?_
  refine dJ (t:=6) rfl ?_
  show ∃_,_
  rw[hd,if_pos (.inl q)];exact⟨μ,h.n,rfl,rfl⟩
 ·have q1:=oC q
  refine rE (aw q1 o) ?_
  refine dE _ _ ?_
  refine dh ?_
  refine ah (sg ·) ?_
  refine bC hp (τ':=aF [(6,.d (iD 0))]) (H':=bH e gs μ) ?_ ?_
  ·refine sd [0,1,2,3,4,5,6,7] ?_
   refine r7 ?_
   exact r6
  refine aM ?_
  refine dJ (t:=6) rfl ?_
  show ∃_,_
  rw[hd,if_pos (.inr o)];exact⟨μ,h.n,rfl,rfl⟩
 ·have q1:=oC q
  have q2:=xd r
  have q3:=q2
  refine rE (aw q1 o) ?_
  refine dE _ _ ?_
  refine bA ?_
  refine ah (rE (aw q2 q3) ·) ?_
  refine dh ?_
  refine ah (sg ·) ?_
  refine bC hp (τ':=aF [(6,.d (iD Y))]) (H':=bH e gs μ) ?_ ?_
  ·refine sd [0,1,2,3,4,5,6,7] ?_
   refine r7 ?_
   exact r6
  refine aM ?_
  refine dJ (t:=6) rfl ?_
  show ∃_,_
  rw[hd,if_neg (by rw[o];simpa using q),if_pos (.inl r)];exact⟨μ,h.n,rfl,rfl⟩
 ·have q1:=oC q
  have q2:=oC r
  have q3:=xd s
  refine rE (aw q1 o) ?_
  refine dE _ _ ?_
  refine bA ?_
  refine ah (rE (aw q2 q3) ·) ?_
  refine dh ?_
  refine ah (sg ·) ?_
  refine bC hp (τ':=aF [(6,.d (iD Y))]) (H':=bH e gs μ) ?_ ?_
  ·refine sd [0,1,2,3,4,5,6,7] ?_
   refine r7 ?_
   exact r6
  refine aM ?_
  refine dJ (t:=6) rfl ?_
  show ∃_,_
  rw[hd,if_neg (by rw[o];simpa using q),if_pos (.inr s)];exact⟨μ,h.n,rfl,rfl⟩
 ·have q1:=oC q
  have q2:=oC r
  have q3:=oC s
  refine rE (aw q1 o) ?_
  refine dE _ _ ?_
  refine bA ?_
  refine ah (rE (aw q2 q3) ·) ?_
  refine bA ?_
  refine bg (cm _ _ ?_)
  refine aZ hp ax hc rfl fun lK bN=>?_
  refine qu ?_
  refine B8 (bH e gs μ) ([]) (BG e gs μ ⟨2,X,Y,0,0⟩ h.n (h.EB (by decide) (by decide) hX hY h.z) h.i h.l) ?_
  rintro _ _ ⟨μ2,dA,rfl,rfl⟩
  refine⟨rfl,?_⟩
  refine qu ?_
  refine bN _ _ ?_
  refine bC hp (τ':=aF [(6,.d (iD (gw (aB e) gs ⟨2,X,Y,0,0⟩).2))]) (H':=bH e (gw (aB e) gs ⟨2,X,Y,0,0⟩).1 μ2) ?_ ?_
  ·refine sd [0,1,2,3,4,5,6,7] ?_
   refine r7 ?_
   exact r6
  refine aM ?_
  refine dJ (t:=6) rfl ?_
  show ∃_,_
  rw[hd,if_neg (by rw[o];simpa using q),if_neg (fun hh=>by rcases hh with hh|hh;exact r hh;exact s hh)];exact⟨μ2,dA,rfl,rfl⟩
theorem Gl(e:BE)(gs:Gs)(μ:Mp)(x y:Int)(h:dM e gs μ)(hx:bm (aB e) gs x)(hy:bm (aB e) gs y):cY prog [0,1,3,4,5,6,7] 141 [.op 0 0,.d (iD x),.d (iD y)] (bH e gs μ) (yP e (iM (aB e) gs x y)):=by
 refine fX (fn:=f141) (by kernel_rfl) func141 rfl (cn rfl) fun c hc hp=>?_
 refine tr ?_
 have hd:=yf3 (aB e) gs x y
 have hX:=C6 hx hy;have hY:=C5 hx hy
 have hs:=Oy e gs μ x y h hx hy
 obtain⟨X,eX⟩:∃X,X=min x y:=⟨_,rfl⟩
 obtain⟨Y,eY⟩:∃Y,Y=max x y:=⟨_,rfl⟩
 obtain⟨O,eO⟩:∃O,O=jo (aB e) gs x y:=⟨_,rfl⟩
 rw[←eX,←eY,←eO]at hs
 simp only[←eX,←eY,←eO]at hd
 rw[←eX]at hX
 rw[←eY]at hY
 have x0:=hX.1;have x1:=hX.2;have y0:=hY.1;have y1:=hY.2;have i1:=h.i;have l1:=h.l
 unfold aB at x1 y1
 refine ah (sg ·) ?_
 refine aZ hp ax hc rfl fun K2 bS=>?_
 refine qu ?_
 refine B8 (bH e gs μ) ([]) (hs) ?_
 rintro _ _ ⟨_,rfl,rfl,rfl⟩
 refine⟨rfl,?_⟩
 refine qu ?_
 refine bS _ _ ?_
 refine aD fun K3 cm=>?_
 refine aW ?_
 refine aZ hp ax hc rfl fun K4 dE=>?_
 rcases(show X=1∨(X≠1∧O=true)∨(X≠1∧O=false∧X=0)∨(X≠1∧O=false∧X≠0∧X=Y)∨(X≠1∧O=false∧X≠0∧X≠Y) by cases O<;>simp<;>omega)with q|⟨q,o⟩|⟨q,o,r⟩|⟨q,o,r,s⟩|⟨q,o,r,s⟩
 ·have q1:=xd q
  have o:=q1
  refine rE (aw q1 o) ?_
  refine dE _ _ ?_
  refine dh ?_
  refine ah (sg ·) ?_
  refine bC hp (τ':=aF [(6,.d (iD 1))]) (H':=bH e gs μ) ?_ ?_
  ·refine sd [0,1,2,3,4,5,6,7] ?_
   refine r7 ?_
   exact r6
  refine aM ?_
  refine dJ (t:=6) rfl ?_
  show ∃_,_
  rw[hd,if_pos (.inl q)];exact⟨μ,h.n,rfl,rfl⟩
 ·have q1:=oC q
  refine rE (aw q1 o) ?_
  refine dE _ _ ?_
  refine dh ?_
  refine ah (sg ·) ?_
  refine bC hp (τ':=aF [(6,.d (iD 1))]) (H':=bH e gs μ) ?_ ?_
  ·refine sd [0,1,2,3,4,5,6,7] ?_
   refine r7 ?_
   exact r6
  refine aM ?_
  refine dJ (t:=6) rfl ?_
  show ∃_,_
  rw[hd,if_pos (.inr o)];exact⟨μ,h.n,rfl,rfl⟩
 ·have q1:=oC q
  have q2:=xd r
  have q3:=q2
  refine rE (aw q1 o) ?_
  refine dE _ _ ?_
  refine bA ?_
  refine ah (rE (aw q2 q3) ·) ?_
  refine dh ?_
  refine ah (sg ·) ?_
  refine bC hp (τ':=aF [(6,.d (iD Y))]) (H':=bH e gs μ) ?_ ?_
  ·refine sd [0,1,2,3,4,5,6,7] ?_
   refine r7 ?_
   exact r6
  refine aM ?_
  refine dJ (t:=6) rfl ?_
  show ∃_,_
  rw[hd,if_neg (by rw[o];simpa using q),if_pos (.inl r)];exact⟨μ,h.n,rfl,rfl⟩
 ·have q1:=oC q
  have q2:=oC r
  have q3:=xd s
  refine rE (aw q1 o) ?_
  refine dE _ _ ?_
  refine bA ?_
  refine ah (rE (aw q2 q3) ·) ?_
  refine dh ?_
  refine ah (sg ·) ?_
  refine bC hp (τ':=aF [(6,.d (iD Y))]) (H':=bH e gs μ) ?_ ?_
  ·refine sd [0,1,2,3,4,5,6,7] ?_
   refine r7 ?_
   exact r6
  refine aM ?_
  refine dJ (t:=6) rfl ?_
  show ∃_,_
  rw[hd,if_neg (by rw[o];simpa using q),if_pos (.inr s)];exact⟨μ,h.n,rfl,rfl⟩
 ·have q1:=oC q
  have q2:=oC r
  have q3:=oC s
  refine rE (aw q1 o) ?_
  refine dE _ _ ?_
  refine bA ?_
  refine ah (rE (aw q2 q3) ·) ?_
  refine bA ?_
  refine bg (cm _ _ ?_)
  refine aZ hp ax hc rfl fun lK bN=>?_
  refine qu ?_
  refine B8 (bH e gs μ) ([]) (BG e gs μ ⟨3,X,Y,0,0⟩ h.n (h.EB (by decide) (by decide) hX hY h.z) h.i h.l) ?_
  rintro _ _ ⟨μ2,dA,rfl,rfl⟩
  refine⟨rfl,?_⟩
  refine qu ?_
  refine bN _ _ ?_
  refine bC hp (τ':=aF [(6,.d (iD (gw (aB e) gs ⟨3,X,Y,0,0⟩).2))]) (H':=bH e (gw (aB e) gs ⟨3,X,Y,0,0⟩).1 μ2) ?_ ?_
  ·refine sd [0,1,2,3,4,5,6,7] ?_
   refine r7 ?_
   exact r6
  refine aM ?_
  refine dJ (t:=6) rfl ?_
  show ∃_,_
  rw[hd,if_neg (by rw[o];simpa using q),if_neg (fun hh=>by rcases hh with hh|hh;exact r hh;exact s hh)];exact⟨μ2,dA,rfl,rfl⟩
theorem KJ(e:BE)(gs:Gs)(μ:Mp)(x y:Int)(h:dM e gs μ)(hx:bm (aB e) gs x)(hy:bm (aB e) gs y):cY prog [0,1,3,4,5,6,7] 143 [.op 0 0,.d (iD x),.d (iD y)] (bH e gs μ) (yP e (fQ (aB e) gs x y)):=by
 refine fX (fn:=f143) (by kernel_rfl) func143 rfl (cn rfl) fun c hc hp=>?_
 refine tr ?_
 have hd:=ya7 (aB e) gs x y
 have hX:=C6 hx hy;have hY:=C5 hx hy
 have hs:=Oy e gs μ x y h hx hy
 obtain⟨X,eX⟩:∃X,X=min x y:=⟨_,rfl⟩
 obtain⟨Y,eY⟩:∃Y,Y=max x y:=⟨_,rfl⟩
 obtain⟨O,eO⟩:∃O,O=jo (aB e) gs x y:=⟨_,rfl⟩
 rw[←eX,←eY,←eO]at hs
 simp only[←eX,←eY,←eO]at hd
 rw[←eX]at hX
 rw[←eY]at hY
 have x0:=hX.1;have x1:=hX.2;have y0:=hY.1;have y1:=hY.2;have i1:=h.i;have l1:=h.l
 unfold aB at x1 y1
 refine ah (sg ·) ?_
 refine aZ hp ax hc rfl fun K2 bS=>?_
 refine qu ?_
 refine B8 (bH e gs μ) ([]) (hs) ?_
 rintro _ _ ⟨_,rfl,rfl,rfl⟩
 refine⟨rfl,?_⟩
 refine qu ?_
 refine bS _ _ ?_
 refine aD fun K3 cm=>?_
 refine aW ?_
 refine ah (qu ·) ?_
 refine bf rfl (fun ht=>?_) (fun ht=>?_)
 ·have q:X=0:=by simpa using ht
  refine ah (sg ·) ?_
  refine bC hp (τ':=aF [(6,.d (iD Y))]) (H':=bH e gs μ) ?_ ?_
  ·refine sd [0,1,2,3,4,5,6,7] ?_
   refine r7 ?_
   exact r6
  refine aM ?_
  refine dJ (t:=6) rfl ?_
  show ∃_,_
  rw[hd,if_pos q];exact⟨μ,h.n,rfl,rfl⟩
 ·have q:X≠0:=by simpa using ht
  refine ah (qu ·) ?_
  refine bf rfl (fun ht=>?_) (fun ht=>?_)
  ·have r:X=1:=by simpa using ht
   refine aZ hp ax hc rfl fun K7 cL=>?_
   refine qu ?_
   refine B8 (bH e gs μ) ([]) (zU e gs μ Y h hY) ?_
   rintro _ _ ⟨μ1,de,rfl,rfl⟩
   refine⟨rfl,?_⟩
   refine qu ?_
   refine cL _ _ ?_
   refine bC hp (τ':=aF [(6,.d (iD (dH (aB e) gs Y).2))]) (H':=bH e (dH (aB e) gs Y).1 μ1) ?_ ?_
   ·refine sd [0,1,2,3,4,5,6,7] ?_
    refine r7 ?_
    exact r6
   refine aM ?_
   refine dJ (t:=6) rfl ?_
   show ∃_,_
   rw[hd,if_neg q,if_pos r];exact⟨μ1,de,rfl,rfl⟩
  ·have r:X≠1:=by simpa using ht
   refine ah (qu ·) ?_
   refine bf rfl (fun ht=>?_) (fun ht=>?_)
   ·have s:X=Y:=by simpa using ht
    refine ah (sg ·) ?_
    refine bC hp (τ':=aF [(6,.d (iD 0))]) (H':=bH e gs μ) ?_ ?_
    ·refine sd [0,1,2,3,4,5,6,7] ?_
     refine r7 ?_
     exact r6
    refine aM ?_
    refine dJ (t:=6) rfl ?_
    show ∃_,_
    rw[hd,if_neg q,if_neg r,if_pos s];exact⟨μ,h.n,rfl,rfl⟩
   ·have s:X≠Y:=by simpa using ht
    refine ah (sg ·) ?_
    refine bf rfl (fun ht=>?_) (fun ht=>?_)
    ·have o:O=true:=by simpa using ht
     refine ah (sg ·) ?_
     refine bC hp (τ':=aF [(6,.d (iD 1))]) (H':=bH e gs μ) ?_ ?_
     ·refine sd [0,1,2,3,4,5,6,7] ?_
      refine r7 ?_
      exact r6
     refine aM ?_
     refine dJ (t:=6) rfl ?_
     show ∃_,_
     rw[hd,if_neg q,if_neg r,if_neg s,if_pos o];exact⟨μ,h.n,rfl,rfl⟩
    ·have o:¬O=true:=by simpa using ht
     refine bg (cm _ _ ?_)
     refine aZ hp ax hc rfl fun lK bN=>?_
     refine qu ?_
     refine B8 (bH e gs μ) ([]) (BG e gs μ ⟨4,X,Y,0,0⟩ h.n (h.EB (by decide) (by decide) hX hY h.z) h.i h.l) ?_
     rintro _ _ ⟨μ2,dA,rfl,rfl⟩
     refine⟨rfl,?_⟩
     refine qu ?_
     refine bN _ _ ?_
     refine bC hp (τ':=aF [(6,.d (iD (gw (aB e) gs ⟨4,X,Y,0,0⟩).2))]) (H':=bH e (gw (aB e) gs ⟨4,X,Y,0,0⟩).1 μ2) ?_ ?_
     ·refine sd [0,1,2,3,4,5,6,7] ?_
      refine r7 ?_
      exact r6
     refine aM ?_
     refine dJ (t:=6) rfl ?_
     show ∃_,_
     rw[hd,if_neg q,if_neg r,if_neg s,if_neg o];exact⟨μ2,dA,rfl,rfl⟩
end Go.Proofs.YtapjobndmmkanaaGreat
