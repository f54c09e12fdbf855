/- The law NetlistMatchesReference, walked. -/
import Derived.Test.YtapjobndmmkanaaGreatQr
import Derived.Test.YtapjobndmmkanaaGreatTb
import Derived.Test.YtapjobndmmkanaaGreatLee
import Derived.Test.YtapjobndmmkanaaGreatPn
set_option linter.unusedVariables false
set_option linter.unusedSimpArgs false
set_option maxRecDepth 100000
set_option maxHeartbeats 4000000
namespace Go.Proofs.YtapjobndmmkanaaGreat
open Go.Proofs.Tryz
open Go Go.RowKit
theorem ycq{p:Pr}(hp:cB p)(gL:(aU p).length≤1000)(nQ:oG p≤80000)(p9:p.au.length≤100):∃n:Net,∃e:Int,(n.ins.length≤1000000∧n.gates.length≤1000000∧n.out.length≤1000000∧n.aP.length≤1000000)∧dq prog 11 [dI p] (.d (.agg (oB n e)))∧dq prog 12 [dI p] (.d (.agg (oB n e))):=by
 have hr:=jc4 p hp gL
 unfold EY at hr
 by_cases hb:600<2+(aU p).length+(kh p).gates.length
 ·rw[if_pos hb]at hr
  exact⟨⟨[],[],[],[]⟩,2,⟨by simp,by simp,by simp,by simp⟩,Rm p hp gL nQ p9 hb,hr⟩
 ·rw[if_neg hb]at hr
  have hom:=ub hp _ (bJ _)
  have nN:(kh p).out.length=(kh p).aP.length:=hom.ol
  have qe:=C9 hp hom
  have PI:=L0 hp _ (bJ _)
  have hoe:(kh p).out.length=(eu p p.au.length).out.length:=rfl
  have qe:(kh p).aP.length≤1000000:=by
   have:(kh p).aP.length=(eu p p.au.length).dr.length:=rfl
   omega
  exact⟨kh p,0,⟨by show(aU p).length≤_;omega,by omega,by omega,qe⟩,IH p hp gL nQ p9 hb,hr⟩
theorem lZ{p q:Prop}(hq:q)(h:p=q:=by
 conv=>lhs;simp -dsimp -implicitDefEqProofs (disch:=first|assumption|omega|(simp only[aH,aQ,bc]<;>omega)|decide) only[aN,↓reduceIte,Nat.reduceEqDiff,Nat.reduceAdd,D.fix,Int.reduceToNat,Nat.reduceMul,Nat.reduceBNe,Nat.reduceBEq,dI,aK,dt,dp,bQ,bt,oB,bne_self_eq_false,beq_self_eq_true,sD,nS,List.cons_append,List.nil_append,bw]):p:=h.mpr hq
theorem DX{p q:Prop}(hq:q)(h:p=q:=by
 conv=>lhs;simp -dsimp -implicitDefEqProofs (disch:=first|assumption|omega|(simp only[aH,aQ,bc]<;>omega)|decide) only[aN,↓reduceIte,Nat.reduceEqDiff,Nat.reduceAdd,D.fix,Int.reduceToNat,Nat.reduceMul,Nat.reduceBNe,Nat.reduceBEq,dI,aK,dt,dp,bQ,bt,oB,bne_self_eq_false,beq_self_eq_true,sD,nS,List.cons_append,List.nil_append]):p:=h.mpr hq
theorem Gn{p q r:Prop}(e:r)(hq:q)(h:r→p=q:=by
 intro hY
 conv=>lhs;simp -dsimp -implicitDefEqProofs (disch:=first|assumption|omega|(simp only[aH,aQ,bc]<;>omega)|decide) only[aN,↓reduceIte,Nat.reduceEqDiff,Nat.reduceAdd,D.fix,Int.reduceToNat,Nat.reduceMul,Nat.reduceBNe,Nat.reduceBEq,dI,aK,dt,dp,bQ,bt,oB,bne_self_eq_false,beq_self_eq_true,sD,nS,List.cons_append,List.nil_append,bw,hY]):p:=(h e).mpr hq
theorem NM{p q:Prop}(hq:q)(h:p=q:=by
 conv=>lhs;simp -dsimp -implicitDefEqProofs (disch:=first|assumption|omega|(simp only[aH,aQ,bc]<;>omega)|decide) only[aN,↓reduceIte,Nat.reduceEqDiff,Nat.reduceAdd,D.fix,Int.reduceToNat,Nat.reduceMul,Nat.reduceBNe,Nat.reduceBEq,mC,dI,aK,dt,dp,bQ,bt,oB,bne_self_eq_false,beq_self_eq_true,sD,nS,List.cons_append,List.nil_append,bw]):p:=h.mpr hq
theorem Du{p:Prop}(h:p:=by
 simp (disch:=first|assumption|omega|(simp only[aH,aQ,bc]<;>omega)|decide) only[fA,Nat.reduceAdd,D.fix,↓reduceIte,Nat.reduceEqDiff,dI,aK,dt,dp,bQ,bt,oB,bne_self_eq_false,beq_self_eq_true,sD,nS,List.cons_append,List.nil_append]):p:=h
theorem jka(x:List Int)(hx:rJ x)(uw:x.length≤maxLen)(k0 k1:Nat)(h0:k0<256)(h1:k1<256)(z:Net)(hI:∀k,k<z.gates.length→kJ (nth z.gates k).op)(Pb:z.ins.length≤maxLen)(El:z.gates.length≤maxLen)(hz3:z.out.length≤maxLen)(hz4:z.aP.length≤maxLen):dq prog 3 [.agg [aI x],.agg [.val (.int .u8 k0),.val (.int .u8 k1)],.agg (dp z)] (.d (oD true)):=by
 have hlg:=jdk k0 k1 h0 h1
 obtain⟨n1,de⟩:∃n,n=1+k0 % 16:=⟨_,rfl⟩
 obtain⟨w1,rQ⟩:∃w,w=1+k1 % 8:=⟨_,rfl⟩
 have r1:1≤n1∧n1≤16:=by omega
 have r2:1≤w1∧w1≤8:=by omega
 rw[←de,←rQ]at hlg
 clear de rQ
 have m1:n1*w1≤16*8:=Nat.mul_le_mul r1.2 r2.2
 have m2:n1*(12*w1+1)≤16*97:=Nat.mul_le_mul r1.2 (by omega)
 obtain⟨nq,eq,⟨q1,q2,q3,q4⟩,cq,rq⟩:=ycq (NQ r1.1 r1.2 r2.1 r2.2) (by rw[Oz];omega) (by rw[LV r1.1];omega) (cF _)
 generalize iz n1 w1=q at *
 have sq:=KH nq q1 q2 q3 q4
 refine fh (fn:=f3) (by kernel_rfl) func3 rfl (cn rfl) fun c hc hp=>?_
 refine dY (τ':=aF [(0,.d (.agg [aI x])),(1,.d (.agg [.val (.int .u8 k0),.val (.int .u8 k1)])),(2,.d (.agg (dp z)))]) (by repeat (first|exact cw _|refine cg ?_ (by first|rfl|(simp[aX,aQ,bc];done)|simp[aX,aQ,bc, *]))) ?_
 refine ah (lZ ·) ?_
 refine aZ hp ax hc rfl fun K2 bS=>?_
 refine DX ?_
 refine bx (zxq) rfl ?_
 refine DX ?_
 refine bS _ _ ?_
 refine aD fun K3 cm=>?_
 refine ah (lZ ·) ?_
 refine bA ?_
 refine bg (cm _ _ ?_)
 refine aD fun K5 dx=>?_
 refine aZ hp ax hc rfl fun K6 cK=>?_
 rcases(show 700<z.ins.length∨(¬700<z.ins.length∧700<z.gates.length)∨(¬700<z.ins.length∧¬700<z.gates.length∧60<z.out.length)∨(¬700<z.ins.length∧¬700<z.gates.length∧¬60<z.out.length∧60<z.aP.length)∨(¬700<z.ins.length∧¬700<z.gates.length∧¬60<z.out.length∧¬60<z.aP.length) by omega)with e1|⟨e1,e2⟩|⟨e1,e2,e3⟩|⟨e1,e2,e3,e4⟩|⟨e1,e2,e3,e4⟩
 ·have d1:decide ((700:Int)<z.ins.length)=true:=decide_eq_true (by omega)
  have d2:=d1
  have d3:=d1
  have d4:=d1
  refine Gn (aw d1 (aw d2 (aw d3 d4))) ?_
  refine cK _ _ ?_
  refine dh ?_
  refine ah (DX ·) ?_
  refine aM ?_
  show ai _ _=_
  exact Du
 ·have d1:decide ((700:Int)<z.ins.length)=false:=decide_eq_false (by omega)
  have d2:decide ((700:Int)<z.gates.length)=true:=decide_eq_true (by omega)
  have d3:=d1
  have d4:=d1
  refine Gn (aw d1 (aw d2 (aw d3 d4))) ?_
  refine cK _ _ ?_
  refine dh ?_
  refine ah (DX ·) ?_
  refine aM ?_
  show ai _ _=_
  exact Du
 ·have d1:decide ((700:Int)<z.ins.length)=false:=decide_eq_false (by omega)
  have d2:decide ((700:Int)<z.gates.length)=false:=decide_eq_false (by omega)
  have d3:decide ((60:Int)<z.out.length)=true:=decide_eq_true (by omega)
  have d4:=d1
  refine Gn (aw d1 (aw d2 (aw d3 d4))) ?_
  refine cK _ _ ?_
  refine dh ?_
  refine ah (DX ·) ?_
  refine aM ?_
  show ai _ _=_
  exact Du
 ·have d1:decide ((700:Int)<z.ins.length)=false:=decide_eq_false (by omega)
  have d2:decide ((700:Int)<z.gates.length)=false:=decide_eq_false (by omega)
  have d3:decide ((60:Int)<z.out.length)=false:=decide_eq_false (by omega)
  have d4:decide ((60:Int)<z.aP.length)=true:=decide_eq_true (by omega)
  refine Gn (aw d1 (aw d2 (aw d3 d4))) ?_
  refine cK _ _ ?_
  refine dh ?_
  refine ah (DX ·) ?_
  refine aM ?_
  show ai _ _=_
  exact Du
 ·have d1:decide ((700:Int)<z.ins.length)=false:=decide_eq_false (by omega)
  have d2:decide ((700:Int)<z.gates.length)=false:=decide_eq_false (by omega)
  have d3:decide ((60:Int)<z.out.length)=false:=decide_eq_false (by omega)
  have d4:decide ((60:Int)<z.aP.length)=false:=decide_eq_false (by omega)
  refine Gn (aw d1 (aw d2 (aw d3 d4))) ?_
  refine cK _ _ ?_
  refine bA ?_
  refine bg (dx _ _ ?_)
  refine jP ax hp hc mixed rfl [(0,[]),(2,[]),(3,[]),(4,[]),(5,[]),(7,[]),(8,[]),(1,[3,5]),(6,[]),(9,[]),(10,[])] [[],[0],[],[2],[],[4],[0,1,2,3,4,5],[],[],[0,1,2,3,4,5,6,7,8],[0,1,2,3,4,5,6,7,8,9]] 2 (by kernel_rfl) fun mh cQ=>?_
  refine NM ?_
  refine OU (jsi x hx uw) rfl fun r hr=>?_
  obtain⟨p,hP,rfl⟩:=hr
  refine NM ?_
  refine qy (hlg) rfl ?_
  refine NM ?_
  refine cQ _ _ ?_
  have hpb:=jey hP
  have AZ:=WS hP
  have pd:=AZ.d0;have pl:=AZ.dl;have pn:=AZ.len
  have hpr:dq prog 12 [dI p] (.d (.agg (oB (kh p) 0))):=jmc p hP.ok (by have:=hP.ins;omega) (by have:=hP.ins;have:=hP.cost;omega)
  have sp:=KH (kh p) (by omega) (by omega) (by omega) (by omega)
  have vz:=yau z hI (by omega) (by omega) (by omega) (by omega)
  have wz:=yav z (by omega) (by omega) (by omega) (by omega)
  have vp:=ji1 (kh p) AZ
  refine dO ax hc mixed rfl (q:=4) (by kernel_rfl) (by kernel_rfl) fun lK bN=>?_
  refine lZ ?_
  refine bx (hpb) rfl ?_
  refine lZ ?_
  refine bx (hpr) rfl ?_
  refine lZ ?_
  refine bx (cq) rfl ?_
  refine lZ ?_
  refine bx (rq) rfl ?_
  refine lZ ?_
  refine bN _ _ ?_
  refine aD fun nV df=>?_
  refine dO ax hc mixed rfl (q:=0) (by kernel_rfl) (by kernel_rfl) fun re dT=>?_
  refine lZ ?_
  refine bx (sp) rfl ?_
  refine lZ ?_
  refine bx (sq) rfl ?_
  refine lZ ?_
  refine bx (vz) rfl ?_
  refine lZ ?_
  refine bx (wz) rfl ?_
  refine lZ ?_
  refine bx (vp) rfl ?_
  refine lZ ?_
  refine dT _ _ ?_
  refine bf rfl (fun ht=>?_) (fun ht=>?_)
  ·exact absurd ht (by decide)
  ·refine bg (df _ _ ?_)
   refine aD fun sY eG=>?_
   refine dO ax hc mixed rfl (q:=0) (by kernel_rfl) (by kernel_rfl) fun pE dB=>?_
   cases hv:oZ z
   ·rw[hv]at wz
    refine lZ ?_
    refine bx (wz) rfl ?_
    refine lZ ?_
    refine dB _ _ ?_
    refine bf rfl (fun ht=>?_) (fun ht=>?_)
    ·exact absurd ht (by decide)
    ·refine bg (eG _ _ ?_)
     refine dO ax hc mixed rfl (q:=0) (by kernel_rfl) (by kernel_rfl) fun rZ ey=>?_
     refine lZ ?_
     refine bx (E7 _ AZ.g) rfl ?_
     refine lZ ?_
     refine bx (LY _ AZ.g) rfl ?_
     refine lZ ?_
     refine ey _ _ ?_
     refine aM ?_
     show ai _ _=_
     exact Du
   ·rw[hv]at wz
    have gz:=yf1 (pa.1 hv) (by omega)
    have dz:=E7 z gz
    have ez:=LY z gz
    refine lZ ?_
    refine bx (wz) rfl ?_
    refine lZ ?_
    refine bx (dz) rfl ?_
    refine lZ ?_
    refine bx (ez) rfl ?_
    refine lZ ?_
    refine dB _ _ ?_
    refine bf rfl (fun ht=>?_) (fun ht=>?_)
    ·exact absurd ht (by decide)
    ·refine bg (eG _ _ ?_)
     refine dO ax hc mixed rfl (q:=0) (by kernel_rfl) (by kernel_rfl) fun zD iW=>?_
     refine lZ ?_
     refine bx (E7 _ AZ.g) rfl ?_
     refine lZ ?_
     refine bx (LY _ AZ.g) rfl ?_
     refine lZ ?_
     refine iW _ _ ?_
     refine aM ?_
     show ai _ _=_
     exact Du
end Go.Proofs.YtapjobndmmkanaaGreat
