/- netlist's builder: operands, complements, pairs. -/
import Derived.Test.YtapjobndmmkanaaGreatQr
import Derived.Test.YtapjobndmmkanaaGreatYb
set_option linter.unusedVariables false
set_option linter.unusedSimpArgs false
set_option maxRecDepth 100000
set_option maxHeartbeats 4000000
namespace Go.Proofs.YtapjobndmmkanaaGreat
open Go.Proofs.Tryz
open Go Go.RowKit
section
section
variable {e:BE} {gs:Gs} {μ:Mp}
theorem dx.u7(h:dx e gs μ){x:Int}(hx:br (aw e) gs x):nN x:=by
 have h1:=hx.1;have h2:=hx.2;have h3:=h.i;have h4:=h.l
 unfold aw at h2
 exact nP (by omega) (by omega)
theorem dx.Fe(h:dx e gs μ){o x y z:Int}(o0:0≤o)(o1:o≤10)(hx:br (aw e) gs x)(hy:br (aw e) gs y)(hz:br (aw e) gs z):R3 ⟨o,x,y,z,0⟩:=
 ⟨nP (by simp only;omega) (by simp only;omega),h.u7 hx,h.u7 hy,h.u7 hz,(nP (by decide) (by decide):nN 0)⟩
theorem dx.z(h:dx e gs μ):br (aw e) gs 0:=⟨by omega,by unfold aw;omega⟩
theorem nw:2≤aw e:=by unfold aw;omega
theorem dx.next(h:dx e gs μ){n:Nat}{r:Re}(hr:Rs (aw e) n gs r){μ':Mp}(hn:ic (aw e) r.1 μ')(hl:gs.length+n≤100000):dx e r.1 μ':=⟨hn,hr.gi,h.i,by have:=hr.len;omega⟩
end
def Wv(e:BE)(gs:Gs)(μ:Mp)(y x:AV)(S':ak):Prop:=∃z,z=y∧x=z∧S'=bH e gs μ
theorem La{p q:Prop}(hq:q)(h:p=q:=by
 conv=>lhs;simp -dsimp -implicitDefEqProofs (disch:=first|assumption|omega|(simp only[aK,aT,bx]<;>omega)|decide) only[aP,↓reduceIte,Nat.reduceEqDiff,Nat.reduceAdd,D.fix,Int.reduceToNat,Nat.reduceMul,Nat.reduceBNe,Nat.reduceBEq,bR,bH,bO,aD]):p:=h.mpr hq
theorem OF{p q r:Prop}(e:r)(hq:q)(h:r→p=q:=by
 intro hY
 conv=>lhs;simp -dsimp -implicitDefEqProofs (disch:=first|assumption|omega|(simp only[aK,aT,bx]<;>omega)|decide) only[aP,↓reduceIte,Nat.reduceEqDiff,Nat.reduceAdd,D.fix,Int.reduceToNat,Nat.reduceMul,Nat.reduceBNe,Nat.reduceBEq,bR,bH,bO,aD,B0,ybw,bw,hY]):p:=(h e).mpr hq
theorem A6(k:List Nat){m:List Nat}{τ τ1:Fr}{H H1:ak}(h:Rt m (fun t=>c7 k (τ t)) (dg k H) τ1 H1)(a:∀i∈m,k[i]? =some i:=by decide)(b:k.Nodup:=by decide)(c:∀i∈k,i<H.length:=by
 simp[eS,dg]):Rt m τ H τ1 H1:=Rt.trans (Rt.gc a b c) h
theorem A5{m:List Nat}{τ τ':Fr}{H H':ak}(h2:H=H')(h:fm τ τ':=by
 repeat (first|exact bT _|refine bM ?_ (by first|rfl|(simp[aR,aT,bx];done)|simp[aR,aT,bx, *]))):Rt m τ H τ' H':=Rt.end h h2
theorem Gl{p:Prop}(h:p:=by
 first|rfl|(simp only[cD,Nat.reduceAdd,↓reduceIte,Nat.reduceEqDiff,bR,bH,bO,aD];first|done|rfl)):p:=h
theorem I3(e:BE)(gs:Gs)(μ:Mp)(x:Int)(h:dx e gs μ)(hx:br (aw e) gs x):cM prog [0,1,2,3,4,5,6,7] 180 [.op 0 0,.d (iD x)] (bH e gs μ) (Wv e gs μ (.d (iD (iM (aw e) gs x)))):=by
 refine fV (fn:=f180) (by kernel_rfl) func180 rfl (bN rfl) fun c hc hp=>?_
 refine oc ?_
 have x0:=hx.1;have x1:=hx.2;have i1:=h.i;have l1:=h.l
 have hm:((aw e:Nat):Int)=2+e.ins.length:=by unfold aw;omega
 rw[hm]at x1
 refine aj (La ·) ?_
 refine aH fun K2 bG=>?_
 refine bC hp ax hc rfl fun K3 bS=>?_
 simp -dsimp -implicitDefEqProofs (disch:=first|assumption|omega|(simp only[aK,aT,bx]<;>omega)|decide) only[aP,↓reduceIte,Nat.reduceEqDiff,Nat.reduceAdd,D.fix,Int.reduceToNat,Nat.reduceMul,Nat.reduceBNe,Nat.reduceBEq,bR,bH,bO,aD,bw]
 refine bS _ _ ?_
 refine bC hp ax hc rfl fun K4 dD=>?_
 rcases(show ¬(0≤x - 2 - (e.ins.length:Int))∨(0≤x - 2 - (e.ins.length:Int)∧(nth gs (x - 2 - (e.ins.length:Int)).toNat).op=1)∨(0≤x - 2 - (e.ins.length:Int)∧(nth gs (x - 2 - (e.ins.length:Int)).toNat).op≠1) by omega)with q|⟨q,q'⟩|⟨q,q'⟩
 ·have q1:decide (0≤x - 2 - (e.ins.length:Int))=false:=decide_eq_false q
  have q2:=q1
  have iJ:iM (aw e) gs x= -1:=by unfold iM;rw[if_neg (fun hh=>q (by have:=hh.1;omega))]
  refine OF (aL q1 q2) ?_
  refine dD _ _ ?_
  refine eC ?_
  refine bB (bG _ _ ?_)
  refine aj (La ·) ?_
  refine bI hp (τ':=aG [(4,.d (iD (-1)))]) (H':=bH e gs μ) ?_ ?_
  ·refine A6 [0,1,2,3,4,5,6,7] ?_
   refine A5 ?_
   exact Gl
  refine bh ?_
  refine c8 (t:=4) rfl ?_
  show ∃_,_
  exact⟨_,rfl,by rw[iJ];rfl,rfl⟩
 ·have q1:decide (0≤x - 2 - (e.ins.length:Int))=true:=decide_eq_true q
  have q2:((nth gs (x - 2 - (e.ins.length:Int)).toNat).op==1)=true:=by simpa using q'
  have hk:(x - 2 - (e.ins.length:Int)).toNat<gs.length:=by omega
  have iJ:iM (aw e) gs x=(nth gs (x - 2 - (e.ins.length:Int)).toNat).a:=by unfold iM;rw[hm,show x - (2+(e.ins.length:Int))=x - 2 - e.ins.length by omega,if_pos ⟨by omega,q'⟩]
  refine OF (aL q1 q2) ?_
  refine dD _ _ ?_
  refine jW ?_
  refine bC hp ax hc rfl fun K6 cF=>?_
  simp -dsimp -implicitDefEqProofs (disch:=first|assumption|omega|(simp only[aK,aT,bx]<;>omega)|decide) only[aP,↓reduceIte,Nat.reduceEqDiff,Nat.reduceAdd,D.fix,Int.reduceToNat,Nat.reduceMul,Nat.reduceBNe,Nat.reduceBEq,bR,bH,bO,aD,B0,ybx,bw]
  refine cF _ _ ?_
  refine bI hp (τ':=aG [(4,.d (iD (nth gs (x - 2 - (e.ins.length:Int)).toNat).a))]) (H':=bH e gs μ) ?_ ?_
  ·refine A6 [0,1,2,3,4,5,6,7] ?_
   refine A5 ?_
   exact Gl
  refine bh ?_
  refine c8 (t:=4) rfl ?_
  show ∃_,_
  exact⟨_,rfl,by rw[iJ];rfl,rfl⟩
 ·have q1:decide (0≤x - 2 - (e.ins.length:Int))=true:=decide_eq_true q
  have q2:((nth gs (x - 2 - (e.ins.length:Int)).toNat).op==1)=false:=by simpa using q'
  have hk:(x - 2 - (e.ins.length:Int)).toNat<gs.length:=by omega
  have iJ:iM (aw e) gs x= -1:=by unfold iM;rw[hm,show x - (2+(e.ins.length:Int))=x - 2 - e.ins.length by omega,if_neg (fun hh=>q' hh.2)]
  refine OF (aL q1 q2) ?_
  refine dD _ _ ?_
  refine eC ?_
  refine bB (bG _ _ ?_)
  refine aj (La ·) ?_
  refine bI hp (τ':=aG [(4,.d (iD (-1)))]) (H':=bH e gs μ) ?_ ?_
  ·refine A6 [0,1,2,3,4,5,6,7] ?_
   refine A5 ?_
   exact Gl
  refine bh ?_
  refine c8 (t:=4) rfl ?_
  show ∃_,_
  exact⟨_,rfl,by rw[iJ];rfl,rfl⟩
theorem Ym{p q:Prop}(hq:q)(h:p=q:=by
 conv=>lhs;simp -dsimp -implicitDefEqProofs (disch:=first|assumption|omega|(simp only[aK,aT,bx]<;>omega)|decide) only[aP,↓reduceIte,Nat.reduceEqDiff,Nat.reduceAdd,D.fix,Int.reduceToNat,Nat.reduceMul,Nat.reduceBNe,Nat.reduceBEq,bR,bH,bO,aD,bE]):p:=h.mpr hq
theorem CJ{p q:Prop}(hq:q)(h:p=q:=by
 conv=>lhs;simp -dsimp -implicitDefEqProofs (disch:=first|assumption|omega|(simp only[aK,aT,bx]<;>omega)|decide) only[aP,↓reduceIte,Nat.reduceEqDiff,Nat.reduceAdd,D.fix,Int.reduceToNat,Nat.reduceMul,Nat.reduceBNe,Nat.reduceBEq,bR,bH,bO,aD,bE,bw]):p:=h.mpr hq
theorem Gk{P:Program}{sm:List Nat}{N:Nat}{τ:Fr}{H:ak}{f:FuncId}{args:List AV}{K0 KK:AV→ak→Prop}{ks:List Nat}(S T:ak)(h:cM P ks f args S K0)(hK:∀x S',K0 x S'→S'.length=S.length∧KK x (S'++T))(hH:H=S++T:=by
 rfl) (hm:sm.all (aJ ks S.length)=true:=by
 first|rfl|(simp[AV.ah,AV.allI,bc,bg,bf,aJ,aN,aY,aZ,bH,bO];done)|(intro o ho;simp at ho;done)) (hτ:∀t,(τ t).allI (aJ ks S.length)=true:=by
 exact fun t=>fU (by first|rfl|(simp[AV.ah,AV.allI,bc,bg,bf,aJ,aN,aY,aZ,bH,bO];done)|(intro o ho;simp at ho;done)) t) (ha:AV.ah (aN S.length) args=true:=by
 first|rfl|(simp[AV.ah,AV.allI,bc,bg,bf,aJ,aN,aY,aZ,bH,bO];done)|(intro o ho;simp at ho;done)) (hS:∀o∈S,o.allI (aN S.length)=true:=by
 first|rfl|(simp[AV.ah,AV.allI,bc,bg,bf,aJ,aN,aY,aZ,bH,bO];done)|(intro o ho;simp at ho;done)) (hT:∀o∈T,o.allI (aJ ks S.length)=true:=by
 first|rfl|(simp[AV.ah,AV.allI,bc,bg,bf,aJ,aN,aY,aZ,bH,bO];done)|(intro o ho;simp at ho;done)):kC P sm N H τ (.d (.val (.func (.func f) #[] #[]))) args true (tg KK):=r7 h hH hm hτ ha hS hT hK
theorem NK{p:Prop}(h:p:=by
 first|rfl|(simp only[cD,Nat.reduceAdd,↓reduceIte,Nat.reduceEqDiff,bR,bH,bO,aD,bE];first|done|rfl)):p:=h
theorem As(e:BE)(gs:Gs)(μ:Mp)(x:Int)(h:dx e gs μ)(hx:br (aw e) gs x):cM prog [0,1,3,4,5,6,7] 142 [.op 0 0,.d (iD x)] (bH e gs μ) (zw e (dW (aw e) gs x)):=by
 refine fV (fn:=f142) (by kernel_rfl) func142 rfl (bN rfl) fun c hc hp=>?_
 refine oc ?_
 have x0:=hx.1;have x1:=hx.2;have i1:=h.i;have l1:=h.l
 unfold aw at x1
 refine aj (Ym ·) ?_
 refine aH fun K2 bG=>?_
 refine aj (CJ ·) ?_
 refine aX rfl (fun ht=>?_) (fun ht=>?_)
 ·have aA:x<2:=by simpa using ht
  refine aj (CJ ·) ?_
  refine bI hp (τ':=aG [(4,.d (iD (1 - x)))]) (H':=bH e gs μ) ?_ ?_
  ·refine A6 [0,1,2,3,4,5,6,7] ?_
   refine A5 ?_
   exact NK
  refine bh ?_
  refine c8 (t:=4) rfl ?_
  show ∃_,_
  exact⟨μ,by unfold dW;rw[if_pos aA];exact h.n,by unfold dW;rw[if_pos aA];rfl,by unfold dW;rw[if_pos aA]⟩
 ·have aA:¬x<2:=by simpa using ht
  refine bB (bG _ _ ?_)
  refine aH fun K5 fA=>?_
  refine bC hp ax hc rfl fun K6 cF=>?_
  refine CJ ?_
  refine Gk (bH e gs μ) ([]) (I3 e gs μ x h hx) ?_
  rintro _ _ ⟨_,rfl,rfl,rfl⟩
  refine⟨rfl,?_⟩
  refine CJ ?_
  refine cF _ _ ?_
  refine aj (CJ ·) ?_
  refine aX rfl (fun ht=>?_) (fun ht=>?_)
  ·have iJ:0≤iM (aw e) gs x:=by simpa using ht
   refine aj (Ym ·) ?_
   refine bI hp (τ':=aG [(4,.d (iD (iM (aw e) gs x)))]) (H':=bH e gs μ) ?_ ?_
   ·refine A6 [0,1,2,3,4,5,6,7] ?_
    refine A5 ?_
    exact NK
   refine bh ?_
   refine c8 (t:=4) rfl ?_
   show ∃_,_
   exact⟨μ,by unfold dW;rw[if_neg aA,if_pos iJ];exact h.n,by unfold dW;rw[if_neg aA,if_pos iJ];rfl,by unfold dW;rw[if_neg aA,if_pos iJ]⟩
  ·have iJ:¬0≤iM (aw e) gs x:=by simpa using ht
   refine bB (fA _ _ ?_)
   refine bC hp ax hc rfl fun K9 cJ=>?_
   refine CJ ?_
   refine Gk (bH e gs μ) ([]) (B4 e gs μ ⟨1,x,0,0,0⟩ h.n (h.Fe (by decide) (by decide) hx h.z h.z) h.i h.l) ?_
   rintro _ _ ⟨μ2,db,rfl,rfl⟩
   refine⟨rfl,?_⟩
   refine CJ ?_
   refine cJ _ _ ?_
   refine bI hp (τ':=aG [(4,.d (iD (gX (aw e) gs ⟨1,x,0,0,0⟩).2))]) (H':=bH e (gX (aw e) gs ⟨1,x,0,0,0⟩).1 μ2) ?_ ?_
   ·refine A6 [0,1,2,3,4,5,6,7] ?_
    refine A5 ?_
    exact NK
   refine bh ?_
   refine c8 (t:=4) rfl ?_
   show ∃_,_
   exact⟨μ2,by unfold dW;rw[if_neg aA,if_neg iJ];exact db,by unfold dW;rw[if_neg aA,if_neg iJ];rfl,by unfold dW;rw[if_neg aA,if_neg iJ]⟩
theorem G4{p q r:Prop}(e:r)(hq:q)(h:r→p=q:=by
 intro hY
 conv=>lhs;simp -dsimp -implicitDefEqProofs (disch:=first|assumption|omega|(simp only[aK,aT,bx]<;>omega)|decide) only[aP,↓reduceIte,Nat.reduceEqDiff,Nat.reduceAdd,D.fix,Int.reduceToNat,Nat.reduceMul,Nat.reduceBNe,Nat.reduceBEq,bR,bH,bO,aD,bw,hY]):p:=(h e).mpr hq
theorem Pu(e:BE)(gs:Gs)(μ:Mp)(x y:Int)(h:dx e gs μ)(hx:br (aw e) gs x)(hy:br (aw e) gs y):cM prog [0,1,2,3,4,5,6,7] 155 [.op 0 0,.d (iD x),.d (iD y)] (bH e gs μ) (Wv e gs μ (.dc [.d (iD (min x y)),.d (iD (max x y)),.d (oD (kZ (aw e) gs x y))])):=by
 refine fV (fn:=f155) (by kernel_rfl) func155 rfl (bN rfl) fun c hc hp=>?_
 refine vY ?_
 refine aj (La ·) ?_
 refine bC hp ax hc rfl fun K2 bG=>?_
 by_cases q:iM (aw e) gs x=y
 ·have q1:(iM (aw e) gs x==y)=true:=by simpa using q
  have ho:kZ (aw e) gs x y=true:=by unfold kZ;rw[decide_eq_true q];rfl
  refine G4 q1 ?_
  refine Gk (bH e gs μ) ([]) (I3 e gs μ x h hx) ?_
  rintro _ _ ⟨_,rfl,rfl,rfl⟩
  refine⟨rfl,?_⟩
  refine G4 q1 ?_
  refine bG _ _ ?_
  refine bI hp (τ':=aG [(6,.d (iD (min x y))),(7,.d (iD (max x y))),(8,.d (oD true))]) (H':=bH e gs μ) ?_ ?_
  ·refine A6 [0,1,2,3,4,5,6,7] ?_
   refine A5 ?_
   exact Gl
  refine bh ?_
  try dsimp only[fb,fc]
  refine F3 rfl ?_
  refine vP ?_
  refine vP ?_
  refine vP ?_
  show ∃_,_
  exact⟨_,rfl,by rw[ho];rfl,rfl⟩
 ·have q1:(iM (aw e) gs x==y)=false:=by simpa using q
  have ho:kZ (aw e) gs x y=(iM (aw e) gs y==x):=by unfold kZ;rw[decide_eq_false q,Bool.false_or];cases hd:decide (iM (aw e) gs y=x)<;>simp_all
  refine G4 q1 ?_
  refine Gk (bH e gs μ) ([]) (I3 e gs μ x h hx) ?_
  rintro _ _ ⟨_,rfl,rfl,rfl⟩
  refine⟨rfl,?_⟩
  refine G4 q1 ?_
  refine Gk (bH e gs μ) ([]) (I3 e gs μ y h hy) ?_
  rintro _ _ ⟨_,rfl,rfl,rfl⟩
  refine⟨rfl,?_⟩
  refine G4 q1 ?_
  refine bG _ _ ?_
  refine bI hp (τ':=aG [(6,.d (iD (min x y))),(7,.d (iD (max x y))),(8,.d (oD (iM (aw e) gs y==x)))]) (H':=bH e gs μ) ?_ ?_
  ·refine A6 [0,1,2,3,4,5,6,7] ?_
   refine A5 ?_
   exact Gl
  refine bh ?_
  try dsimp only[fb,fc]
  refine F3 rfl ?_
  refine vP ?_
  refine vP ?_
  refine vP ?_
  show ∃_,_
  exact⟨_,rfl,by rw[ho];rfl,rfl⟩
end
theorem Pt(m:Nat)(gs:Gs)(x y:Int):kZ m gs (min x y) (max x y)=kZ m gs x y:=by
 rcases Int.le_total x y with h|h
 ·rw[Int.min_eq_left h,Int.max_eq_right h]
 ·rw[Int.min_eq_right h,Int.max_eq_left h];unfold kZ;rw[Bool.or_comm]
theorem yf4(m:Nat)(gs:Gs)(x y:Int):du m gs x y=if min x y=0∨kZ m gs x y=true then(gs,0)else if min x y=1∨min x y=max x y then(gs,max x y)else gX m gs ⟨2,min x y,max x y,0,0⟩:=by
 unfold du CA;rw[Pt]
theorem ylk(m:Nat)(gs:Gs)(x y:Int):ko m gs x y=if min x y=1∨kZ m gs x y=true then(gs,1)else if min x y=0∨min x y=max x y then(gs,max x y)else gX m gs ⟨3,min x y,max x y,0,0⟩:=by
 unfold ko Cj;rw[Pt]
theorem yf5(m:Nat)(gs:Gs)(x y:Int):iq m gs x y=if min x y=0 then(gs,max x y)else if min x y=1 then dW m gs (max x y)else if min x y=max x y then(gs,0)else if kZ m gs x y=true then(gs,1)else gX m gs ⟨4,min x y,max x y,0,0⟩:=by
 unfold iq Cz;rw[Pt]
theorem yi{a b:Int}(h:a=b):(a==b)=true:=by simpa using h
theorem oH{a b:Int}(h:a≠b):(a==b)=false:=by simpa using h
theorem sx{p q:Prop}(hq:q)(h:p=q:=by
 conv=>lhs;simp -dsimp -implicitDefEqProofs (disch:=first|assumption|omega|(simp only[aK,aT,bx]<;>omega)|decide) only[aP,↓reduceIte,Nat.reduceEqDiff,Nat.reduceAdd,D.fix,Int.reduceToNat,Nat.reduceMul,Nat.reduceBNe,Nat.reduceBEq,bR,bH,bO,aD,bE]):p:=h.mpr hq
theorem qD{p q:Prop}(hq:q)(h:p=q:=by
 conv=>lhs;simp -dsimp -implicitDefEqProofs (disch:=first|assumption|omega|(simp only[aK,aT,bx]<;>omega)|decide) only[aP,↓reduceIte,Nat.reduceEqDiff,Nat.reduceAdd,D.fix,Int.reduceToNat,Nat.reduceMul,Nat.reduceBNe,Nat.reduceBEq,bR,bH,bO,aD,bE,bw]):p:=h.mpr hq
theorem Cp{P:Program}{sm:List Nat}{N:Nat}{τ:Fr}{H:ak}{f:FuncId}{args:List AV}{K0 KK:AV→ak→Prop}{ks:List Nat}(S T:ak)(h:cM P ks f args S K0)(hK:∀x S',K0 x S'→S'.length=S.length∧KK x (S'++T))(hH:H=S++T:=by
 rfl) (hm:sm.all (aJ ks S.length)=true:=by
 first|rfl|(simp[AV.ah,AV.allI,bc,bg,bf,aJ,aN,aY,aZ,bH,bO];done)|(intro o ho;simp at ho;done)) (hτ:∀t,(τ t).allI (aJ ks S.length)=true:=by
 exact fun t=>fU (by first|rfl|(simp[AV.ah,AV.allI,bc,bg,bf,aJ,aN,aY,aZ,bH,bO];done)|(intro o ho;simp at ho;done)) t) (ha:AV.ah (aN S.length) args=true:=by
 first|rfl|(simp[AV.ah,AV.allI,bc,bg,bf,aJ,aN,aY,aZ,bH,bO];done)|(intro o ho;simp at ho;done)) (hS:∀o∈S,o.allI (aN S.length)=true:=by
 first|rfl|(simp[AV.ah,AV.allI,bc,bg,bf,aJ,aN,aY,aZ,bH,bO];done)|(intro o ho;simp at ho;done)) (hT:∀o∈T,o.allI (aJ ks S.length)=true:=by
 first|rfl|(simp[AV.ah,AV.allI,bc,bg,bf,aJ,aN,aY,aZ,bH,bO];done)|(intro o ho;simp at ho;done)):kC P sm N H τ (.d (.val (.func (.func f) #[] #[]))) args true (tg KK):=r7 h hH hm hτ ha hS hT hK
theorem r6{p q r:Prop}(e:r)(hq:q)(h:r→p=q:=by
 intro hY
 conv=>lhs;simp -dsimp -implicitDefEqProofs (disch:=first|assumption|omega|(simp only[aK,aT,bx]<;>omega)|decide) only[aP,↓reduceIte,Nat.reduceEqDiff,Nat.reduceAdd,D.fix,Int.reduceToNat,Nat.reduceMul,Nat.reduceBNe,Nat.reduceBEq,bR,bH,bO,aD,bE,bw,hY]):p:=(h e).mpr hq
theorem sZ(k:List Nat){m:List Nat}{τ τ1:Fr}{H H1:ak}(h:Rt m (fun t=>c7 k (τ t)) (dg k H) τ1 H1)(a:∀i∈m,k[i]? =some i:=by decide)(b:k.Nodup:=by decide)(c:∀i∈k,i<H.length:=by
 simp[eS,dg]):Rt m τ H τ1 H1:=Rt.trans (Rt.gc a b c) h
theorem sY{m:List Nat}{τ τ':Fr}{H H':ak}(h2:H=H')(h:fm τ τ':=by
 repeat (first|exact bT _|refine bM ?_ (by first|rfl|(simp[aR,aT,bx];done)|simp[aR,aT,bx, *]))):Rt m τ H τ' H':=Rt.end h h2
theorem sX{p:Prop}(h:p:=by
 first|rfl|(simp only[cD,Nat.reduceAdd,↓reduceIte,Nat.reduceEqDiff,bR,bH,bO,aD,bE];first|done|rfl)):p:=h
theorem xd(e:BE)(gs:Gs)(μ:Mp)(x y:Int)(h:dx e gs μ)(hx:br (aw e) gs x)(hy:br (aw e) gs y):cM prog [0,1,3,4,5,6,7] 95 [.op 0 0,.d (iD x),.d (iD y)] (bH e gs μ) (zw e (du (aw e) gs x y)):=by
 refine fV (fn:=f95) (by kernel_rfl) func95 rfl (bN rfl) fun c hc hp=>?_
 refine vY ?_
 have hd:=yf4 (aw e) gs x y
 have hX:=y5 hx hy;have hY:=zc hx hy
 have hs:=Pu e gs μ x y h hx hy
 obtain⟨X,eX⟩:∃X,X=min x y:=⟨_,rfl⟩
 obtain⟨Y,eY⟩:∃Y,Y=max x y:=⟨_,rfl⟩
 obtain⟨O,eO⟩:∃O,O=kZ (aw e) gs x y:=⟨_,rfl⟩
 rw[←eX,←eY,←eO]at hs
 simp only[←eX,←eY,←eO]at hd
 rw[←eX]at hX
 rw[←eY]at hY
 have x0:=hX.1;have x1:=hX.2;have y0:=hY.1;have y1:=hY.2;have i1:=h.i;have l1:=h.l
 unfold aw at x1 y1
 refine aj (sx ·) ?_
 refine bC hp ax hc rfl fun K2 bG=>?_
 refine qD ?_
 refine Cp (bH e gs μ) ([]) (hs) ?_
 rintro _ _ ⟨_,rfl,rfl,rfl⟩
 refine⟨rfl,?_⟩
 refine qD ?_
 refine bG _ _ ?_
 refine aH fun K3 bS=>?_
 refine aW ?_
 refine bC hp ax hc rfl fun K4 dD=>?_
 rcases(show X=0∨(X≠0∧O=true)∨(X≠0∧O=false∧X=1)∨(X≠0∧O=false∧X≠1∧X=Y)∨(X≠0∧O=false∧X≠1∧X≠Y) by cases O<;>simp<;>omega)with q|⟨q,o⟩|⟨q,o,r⟩|⟨q,o,r,s⟩|⟨q,o,r,s⟩
 ·have q1:=yi q
  have o:=q1
  refine r6 (aL q1 o) ?_
  refine dD _ _ ?_
  refine jW ?_
  refine aj (sx ·) ?_
  refine bI hp (τ':=aG [(6,.d (iD 0))]) (H':=bH e gs μ) ?_ ?_
  ·refine sZ [0,1,2,3,4,5,6,7] ?_
   refine sY ?_
   exact sX
  refine bh ?_
  refine c8 (t:=6) rfl ?_
  show ∃_,_
  rw[hd,if_pos (.inl q)];exact⟨μ,h.n,rfl,rfl⟩
 ·have q1:=oH q
  refine r6 (aL q1 o) ?_
  refine dD _ _ ?_
  refine jW ?_
  refine aj (sx ·) ?_
  refine bI hp (τ':=aG [(6,.d (iD 0))]) (H':=bH e gs μ) ?_ ?_
  ·refine sZ [0,1,2,3,4,5,6,7] ?_
   refine sY ?_
   exact sX
  refine bh ?_
  refine c8 (t:=6) rfl ?_
  show ∃_,_
  rw[hd,if_pos (.inr o)];exact⟨μ,h.n,rfl,rfl⟩
 ·have q1:=oH q
  have q2:=yi r
  have q3:=q2
  refine r6 (aL q1 o) ?_
  refine dD _ _ ?_
  refine eC ?_
  refine aj (r6 (aL q2 q3) ·) ?_
  refine jW ?_
  refine aj (sx ·) ?_
  refine bI hp (τ':=aG [(6,.d (iD Y))]) (H':=bH e gs μ) ?_ ?_
  ·refine sZ [0,1,2,3,4,5,6,7] ?_
   refine sY ?_
   exact sX
  refine bh ?_
  refine c8 (t:=6) rfl ?_
  show ∃_,_
  rw[hd,if_neg (by rw[o];simpa using q),if_pos (.inl r)];exact⟨μ,h.n,rfl,rfl⟩
 ·have q1:=oH q
  have q2:=oH r
  have q3:=yi s
  refine r6 (aL q1 o) ?_
  refine dD _ _ ?_
  refine eC ?_
  refine aj (r6 (aL q2 q3) ·) ?_
  refine jW ?_
  refine aj (sx ·) ?_
  refine bI hp (τ':=aG [(6,.d (iD Y))]) (H':=bH e gs μ) ?_ ?_
  ·refine sZ [0,1,2,3,4,5,6,7] ?_
   refine sY ?_
   exact sX
  refine bh ?_
  refine c8 (t:=6) rfl ?_
  show ∃_,_
  rw[hd,if_neg (by rw[o];simpa using q),if_pos (.inr s)];exact⟨μ,h.n,rfl,rfl⟩
 ·have q1:=oH q
  have q2:=oH r
  have q3:=oH s
  refine r6 (aL q1 o) ?_
  refine dD _ _ ?_
  refine eC ?_
  refine aj (r6 (aL q2 q3) ·) ?_
  refine eC ?_
  refine bB (bS _ _ ?_)
  refine bC hp ax hc rfl fun nk cU=>?_
  refine qD ?_
  refine Cp (bH e gs μ) ([]) (B4 e gs μ ⟨2,X,Y,0,0⟩ h.n (h.Fe (by decide) (by decide) hX hY h.z) h.i h.l) ?_
  rintro _ _ ⟨μ2,db,rfl,rfl⟩
  refine⟨rfl,?_⟩
  refine qD ?_
  refine cU _ _ ?_
  refine bI hp (τ':=aG [(6,.d (iD (gX (aw e) gs ⟨2,X,Y,0,0⟩).2))]) (H':=bH e (gX (aw e) gs ⟨2,X,Y,0,0⟩).1 μ2) ?_ ?_
  ·refine sZ [0,1,2,3,4,5,6,7] ?_
   refine sY ?_
   exact sX
  refine bh ?_
  refine c8 (t:=6) rfl ?_
  show ∃_,_
  rw[hd,if_neg (by rw[o];simpa using q),if_neg (fun hh=>by rcases hh with hh|hh;exact r hh;exact s hh)];exact⟨μ2,db,rfl,rfl⟩
theorem G3(e:BE)(gs:Gs)(μ:Mp)(x y:Int)(h:dx e gs μ)(hx:br (aw e) gs x)(hy:br (aw e) gs y):cM prog [0,1,3,4,5,6,7] 141 [.op 0 0,.d (iD x),.d (iD y)] (bH e gs μ) (zw e (ko (aw e) gs x y)):=by
 refine fV (fn:=f141) (by kernel_rfl) func141 rfl (bN rfl) fun c hc hp=>?_
 refine vY ?_
 have hd:=ylk (aw e) gs x y
 have hX:=y5 hx hy;have hY:=zc hx hy
 have hs:=Pu e gs μ x y h hx hy
 obtain⟨X,eX⟩:∃X,X=min x y:=⟨_,rfl⟩
 obtain⟨Y,eY⟩:∃Y,Y=max x y:=⟨_,rfl⟩
 obtain⟨O,eO⟩:∃O,O=kZ (aw e) gs x y:=⟨_,rfl⟩
 rw[←eX,←eY,←eO]at hs
 simp only[←eX,←eY,←eO]at hd
 rw[←eX]at hX
 rw[←eY]at hY
 have x0:=hX.1;have x1:=hX.2;have y0:=hY.1;have y1:=hY.2;have i1:=h.i;have l1:=h.l
 unfold aw at x1 y1
 refine aj (sx ·) ?_
 refine bC hp ax hc rfl fun K2 bG=>?_
 refine qD ?_
 refine Cp (bH e gs μ) ([]) (hs) ?_
 rintro _ _ ⟨_,rfl,rfl,rfl⟩
 refine⟨rfl,?_⟩
 refine qD ?_
 refine bG _ _ ?_
 refine aH fun K3 bS=>?_
 refine aW ?_
 refine bC hp ax hc rfl fun K4 dD=>?_
 rcases(show X=1∨(X≠1∧O=true)∨(X≠1∧O=false∧X=0)∨(X≠1∧O=false∧X≠0∧X=Y)∨(X≠1∧O=false∧X≠0∧X≠Y) by cases O<;>simp<;>omega)with q|⟨q,o⟩|⟨q,o,r⟩|⟨q,o,r,s⟩|⟨q,o,r,s⟩
 ·have q1:=yi q
  have o:=q1
  refine r6 (aL q1 o) ?_
  refine dD _ _ ?_
  refine jW ?_
  refine aj (sx ·) ?_
  refine bI hp (τ':=aG [(6,.d (iD 1))]) (H':=bH e gs μ) ?_ ?_
  ·refine sZ [0,1,2,3,4,5,6,7] ?_
   refine sY ?_
   exact sX
  refine bh ?_
  refine c8 (t:=6) rfl ?_
  show ∃_,_
  rw[hd,if_pos (.inl q)];exact⟨μ,h.n,rfl,rfl⟩
 ·have q1:=oH q
  refine r6 (aL q1 o) ?_
  refine dD _ _ ?_
  refine jW ?_
  refine aj (sx ·) ?_
  refine bI hp (τ':=aG [(6,.d (iD 1))]) (H':=bH e gs μ) ?_ ?_
  ·refine sZ [0,1,2,3,4,5,6,7] ?_
   refine sY ?_
   exact sX
  refine bh ?_
  refine c8 (t:=6) rfl ?_
  show ∃_,_
  rw[hd,if_pos (.inr o)];exact⟨μ,h.n,rfl,rfl⟩
 ·have q1:=oH q
  have q2:=yi r
  have q3:=q2
  refine r6 (aL q1 o) ?_
  refine dD _ _ ?_
  refine eC ?_
  refine aj (r6 (aL q2 q3) ·) ?_
  refine jW ?_
  refine aj (sx ·) ?_
  refine bI hp (τ':=aG [(6,.d (iD Y))]) (H':=bH e gs μ) ?_ ?_
  ·refine sZ [0,1,2,3,4,5,6,7] ?_
   refine sY ?_
   exact sX
  refine bh ?_
  refine c8 (t:=6) rfl ?_
  show ∃_,_
  rw[hd,if_neg (by rw[o];simpa using q),if_pos (.inl r)];exact⟨μ,h.n,rfl,rfl⟩
 ·have q1:=oH q
  have q2:=oH r
  have q3:=yi s
  refine r6 (aL q1 o) ?_
  refine dD _ _ ?_
  refine eC ?_
  refine aj (r6 (aL q2 q3) ·) ?_
  refine jW ?_
  refine aj (sx ·) ?_
  refine bI hp (τ':=aG [(6,.d (iD Y))]) (H':=bH e gs μ) ?_ ?_
  ·refine sZ [0,1,2,3,4,5,6,7] ?_
   refine sY ?_
   exact sX
  refine bh ?_
  refine c8 (t:=6) rfl ?_
  show ∃_,_
  rw[hd,if_neg (by rw[o];simpa using q),if_pos (.inr s)];exact⟨μ,h.n,rfl,rfl⟩
 ·have q1:=oH q
  have q2:=oH r
  have q3:=oH s
  refine r6 (aL q1 o) ?_
  refine dD _ _ ?_
  refine eC ?_
  refine aj (r6 (aL q2 q3) ·) ?_
  refine eC ?_
  refine bB (bS _ _ ?_)
  refine bC hp ax hc rfl fun nk cU=>?_
  refine qD ?_
  refine Cp (bH e gs μ) ([]) (B4 e gs μ ⟨3,X,Y,0,0⟩ h.n (h.Fe (by decide) (by decide) hX hY h.z) h.i h.l) ?_
  rintro _ _ ⟨μ2,db,rfl,rfl⟩
  refine⟨rfl,?_⟩
  refine qD ?_
  refine cU _ _ ?_
  refine bI hp (τ':=aG [(6,.d (iD (gX (aw e) gs ⟨3,X,Y,0,0⟩).2))]) (H':=bH e (gX (aw e) gs ⟨3,X,Y,0,0⟩).1 μ2) ?_ ?_
  ·refine sZ [0,1,2,3,4,5,6,7] ?_
   refine sY ?_
   exact sX
  refine bh ?_
  refine c8 (t:=6) rfl ?_
  show ∃_,_
  rw[hd,if_neg (by rw[o];simpa using q),if_neg (fun hh=>by rcases hh with hh|hh;exact r hh;exact s hh)];exact⟨μ2,db,rfl,rfl⟩
theorem LG(e:BE)(gs:Gs)(μ:Mp)(x y:Int)(h:dx e gs μ)(hx:br (aw e) gs x)(hy:br (aw e) gs y):cM prog [0,1,3,4,5,6,7] 143 [.op 0 0,.d (iD x),.d (iD y)] (bH e gs μ) (zw e (iq (aw e) gs x y)):=by
 refine fV (fn:=f143) (by kernel_rfl) func143 rfl (bN rfl) fun c hc hp=>?_
 refine vY ?_
 have hd:=yf5 (aw e) gs x y
 have hX:=y5 hx hy;have hY:=zc hx hy
 have hs:=Pu e gs μ x y h hx hy
 obtain⟨X,eX⟩:∃X,X=min x y:=⟨_,rfl⟩
 obtain⟨Y,eY⟩:∃Y,Y=max x y:=⟨_,rfl⟩
 obtain⟨O,eO⟩:∃O,O=kZ (aw e) gs x y:=⟨_,rfl⟩
 rw[←eX,←eY,←eO]at hs
 simp only[←eX,←eY,←eO]at hd
 rw[←eX]at hX
 rw[←eY]at hY
 have x0:=hX.1;have x1:=hX.2;have y0:=hY.1;have y1:=hY.2;have i1:=h.i;have l1:=h.l
 unfold aw at x1 y1
 refine aj (sx ·) ?_
 refine bC hp ax hc rfl fun K2 bG=>?_
 refine qD ?_
 refine Cp (bH e gs μ) ([]) (hs) ?_
 rintro _ _ ⟨_,rfl,rfl,rfl⟩
 refine⟨rfl,?_⟩
 refine qD ?_
 refine bG _ _ ?_
 refine aH fun K3 bS=>?_
 refine aW ?_
 refine aj (qD ·) ?_
 refine aX rfl (fun ht=>?_) (fun ht=>?_)
 ·have q:X=0:=by simpa using ht
  refine aj (sx ·) ?_
  refine bI hp (τ':=aG [(6,.d (iD Y))]) (H':=bH e gs μ) ?_ ?_
  ·refine sZ [0,1,2,3,4,5,6,7] ?_
   refine sY ?_
   exact sX
  refine bh ?_
  refine c8 (t:=6) rfl ?_
  show ∃_,_
  rw[hd,if_pos q];exact⟨μ,h.n,rfl,rfl⟩
 ·have q:X≠0:=by simpa using ht
  refine aj (qD ·) ?_
  refine aX rfl (fun ht=>?_) (fun ht=>?_)
  ·have r:X=1:=by simpa using ht
   refine bC hp ax hc rfl fun K7 de=>?_
   refine qD ?_
   refine Cp (bH e gs μ) ([]) (As e gs μ Y h hY) ?_
   rintro _ _ ⟨μ1,cZ,rfl,rfl⟩
   refine⟨rfl,?_⟩
   refine qD ?_
   refine de _ _ ?_
   refine bI hp (τ':=aG [(6,.d (iD (dW (aw e) gs Y).2))]) (H':=bH e (dW (aw e) gs Y).1 μ1) ?_ ?_
   ·refine sZ [0,1,2,3,4,5,6,7] ?_
    refine sY ?_
    exact sX
   refine bh ?_
   refine c8 (t:=6) rfl ?_
   show ∃_,_
   rw[hd,if_neg q,if_pos r];exact⟨μ1,cZ,rfl,rfl⟩
  ·have r:X≠1:=by simpa using ht
   refine aj (qD ·) ?_
   refine aX rfl (fun ht=>?_) (fun ht=>?_)
   ·have s:X=Y:=by simpa using ht
    refine aj (sx ·) ?_
    refine bI hp (τ':=aG [(6,.d (iD 0))]) (H':=bH e gs μ) ?_ ?_
    ·refine sZ [0,1,2,3,4,5,6,7] ?_
     refine sY ?_
     exact sX
    refine bh ?_
    refine c8 (t:=6) rfl ?_
    show ∃_,_
    rw[hd,if_neg q,if_neg r,if_pos s];exact⟨μ,h.n,rfl,rfl⟩
   ·have s:X≠Y:=by simpa using ht
    refine aj (sx ·) ?_
    refine aX rfl (fun ht=>?_) (fun ht=>?_)
    ·have o:O=true:=by simpa using ht
     refine aj (sx ·) ?_
     refine bI hp (τ':=aG [(6,.d (iD 1))]) (H':=bH e gs μ) ?_ ?_
     ·refine sZ [0,1,2,3,4,5,6,7] ?_
      refine sY ?_
      exact sX
     refine bh ?_
     refine c8 (t:=6) rfl ?_
     show ∃_,_
     rw[hd,if_neg q,if_neg r,if_neg s,if_pos o];exact⟨μ,h.n,rfl,rfl⟩
    ·have o:¬O=true:=by simpa using ht
     refine bB (bS _ _ ?_)
     refine bC hp ax hc rfl fun nk cU=>?_
     refine qD ?_
     refine Cp (bH e gs μ) ([]) (B4 e gs μ ⟨4,X,Y,0,0⟩ h.n (h.Fe (by decide) (by decide) hX hY h.z) h.i h.l) ?_
     rintro _ _ ⟨μ2,db,rfl,rfl⟩
     refine⟨rfl,?_⟩
     refine qD ?_
     refine cU _ _ ?_
     refine bI hp (τ':=aG [(6,.d (iD (gX (aw e) gs ⟨4,X,Y,0,0⟩).2))]) (H':=bH e (gX (aw e) gs ⟨4,X,Y,0,0⟩).1 μ2) ?_ ?_
     ·refine sZ [0,1,2,3,4,5,6,7] ?_
      refine sY ?_
      exact sX
     refine bh ?_
     refine c8 (t:=6) rfl ?_
     show ∃_,_
     rw[hd,if_neg q,if_neg r,if_neg s,if_neg o];exact⟨μ2,db,rfl,rfl⟩
end Go.Proofs.YtapjobndmmkanaaGreat
