/- Expressions that bytes describe. -/
import Derived.Test.YtapjobndmmkanaaGreatQr
import Derived.Test.YtapjobndmmkanaaGreatVb
set_option linter.unusedVariables false
set_option linter.unusedSimpArgs false
set_option maxRecDepth 100000
set_option maxHeartbeats 4000000
namespace Go.Proofs.YtapjobndmmkanaaGreat
open Go.Proofs.Tryz
open Go Go.RowKit
def rQ:Nat→Nat
 |0=>0
 |1=>0
 |d+2=>3*rQ (d+1)+32
def nM:Nat→Nat
 |0=>1
 |1=>1
 |d+2=>3*nM (d+1)+1
def vi(d:Nat):Nat:=1000000*(10 - d)
theorem yj6{d:Nat}(h:d≤3):vi (d+2)+300001≤vi (d+1)∧vi (d+1)≤10000000:=by
 rcases(show d=0∨d=1∨d=2∨d=3 by omega)with rfl|rfl|rfl|rfl<;>decide
theorem jtf:∀d,1≤nM d
 |0=>bm _
 |1=>bm _
 |d+2=>by rw[nM];omega
def fF(b:List Int)(i:Nat):AV:=.agg [.d (aE b),.d (iD i)]
def kU(e:Ex)(b:List Int)(j:Nat):AV:=.agg ((bW e++bo b j).map .d)
def BI(C:Ct)(s:Sc)(b:List Int)(i w n m:Nat)(x:AV)(S':ak):Prop:=∃(e:Ex) (j:Nat),Fit C s.q w n e∧i≤j∧j≤i+m∧x=kU e b j∧∃g,S'=[dR s,.cells g]
def Fh(d:Nat):Prop:=∀(C:Ct) (s:Sc) (b:List Int) (i w:Nat),kN C→pK C s→mR b→b.length≤maxLen→1≤w→w+d≤8→i≤vi d→
 cM prog [0] 56 [fF b i,.agg (cY s),.agg [.d (iD w),.d (iD d)]] [dR s,.free] (BI C s b i w (rQ d) (nM d))
theorem qi(e:Ex):∃o k w cs n,bW e=[iD o,nS,iD k,nS,iD w,nS,.fs cs n]:=by cases e<;>exact⟨_,_,_,_,_,rfl⟩
theorem tQ{p q:Prop}(hq:q)(h:p=q:=by
 conv=>lhs;simp -dsimp -implicitDefEqProofs (disch:=first|assumption|omega|(simp only[aK,jV,gP]<;>omega)|decide) only[aP,↓reduceIte,Nat.reduceEqDiff,Nat.reduceAdd,D.fix,Int.reduceToNat,Nat.reduceMul,Nat.reduceBNe,Nat.reduceBEq,fF,bo,cY,nI,cg,gJ,gI,bw]):p:=h.mpr hq
theorem YI{p q r:Prop}(e:r)(hq:q)(h:r→p=q:=by
 intro hY
 conv=>lhs;simp -dsimp -implicitDefEqProofs (disch:=first|assumption|omega|(simp only[aK,jV,gP]<;>omega)|decide) only[aP,↓reduceIte,Nat.reduceEqDiff,Nat.reduceAdd,D.fix,Int.reduceToNat,Nat.reduceMul,Nat.reduceBNe,Nat.reduceBEq,mz,fF,bo,cY,nI,cg,gJ,gI,bw,hY]):p:=(h e).mpr hq
theorem Gu(k:List Nat){m:List Nat}{τ τ1:Fr}{H H1:ak}(h:Rt m (fun t=>c7 k (τ t)) (dg k H) τ1 H1)(a:∀i∈m,k[i]? =some i:=by decide)(b:k.Nodup:=by decide)(c:∀i∈k,i<H.length:=by
 simp[eS,dg]):Rt m τ H τ1 H1:=Rt.trans (Rt.gc a b c) h
theorem A2{m:List Nat}{τ τ':Fr}{H H':ak}(h2:H=H')(h:fm τ τ':=by
 repeat (first|exact bT _|refine bM ?_ (by first|rfl|(simp[aR,jV,gP];done)|simp[aR,jV,gP, *]))):Rt m τ H τ' H':=Rt.end h h2
theorem Hi{p q:Prop}(hq:q)(h:p=q:=by
 conv=>lhs;simp -dsimp -implicitDefEqProofs (disch:=first|assumption|omega|(simp only[aK,jV,gP]<;>omega)|decide) only[aP,↓reduceIte,Nat.reduceEqDiff,Nat.reduceAdd,D.fix,Int.reduceToNat,Nat.reduceMul,Nat.reduceBNe,Nat.reduceBEq,fF,bo,cY,nI,cg,gJ,gI,FW,PN]):p:=h.mpr hq
theorem Ee{p q:Prop}(hq:q)(h:p=q:=by
 conv=>lhs;simp only[cD,Nat.reduceAdd,↓reduceIte,Nat.reduceEqDiff,fF,bo,cY,nI,cg,gJ,gI]):p:=h.mpr hq
theorem jvw(C:Ct)(s:Sc)(b:List Int)(i w:Nat)(hC:kN C)(hs:pK C s)(hb:mR b)(hl:b.length≤maxLen)(hw:1≤w)(rp:w+1≤8)(hi:i≤vi 1):cM prog [0] 56 [fF b i,.agg (cY s),.agg [.d (iD w),.d (iD 1)]] ([dR s,.free]) (BI C s b i w (rQ 1) (nM 1)):=by
 refine fV (fn:=f56) (by kernel_rfl) func56 rfl (bN rfl) fun c hc hp=>?_
 refine vY ?_
 have hcp:vi 1=9000000:=by decide
 obtain⟨y,hy⟩:∃y:Nat,kr b i=y:=⟨(kr b i).toNat,by have:=(mg hb i).1;omega⟩
 have CM:=(mg hb i).2
 have mW:(y:Int) / 14=((y / 14:Nat):Int):=by omega
 have mV:=vQ b i hb hl
 rw[hy]at mV
 refine aj (tQ ·) ?_
 refine eN ax hc mixed rfl (q:=0) (by kernel_rfl) (by kernel_rfl) fun K2 bG=>?_
 refine tQ ?_
 refine bG _ _ ?_
 refine bC hp ax hc rfl fun K3 bS=>?_
 refine tQ ?_
 refine cQ (mV) rfl ?_
 refine tQ ?_
 refine bS _ _ ?_
 refine bC hp ax hc rfl fun K4 dD=>?_
 refine tQ ?_
 refine cQ (vj b i 1 (by omega) (by omega)) rfl ?_
 refine tQ ?_
 refine dD _ _ ?_
 refine aj (tQ ·) ?_
 refine aH fun K6 cF=>?_
 refine bC hp ax hc rfl fun K7 de=>?_
 simp -dsimp -implicitDefEqProofs (disch:=first|assumption|omega|(simp only[aK,jV,gP]<;>omega)|decide) only[aP,↓reduceIte,Nat.reduceEqDiff,Nat.reduceAdd,D.fix,Int.reduceToNat,Nat.reduceMul,Nat.reduceBNe,Nat.reduceBEq,fF,bo,cY,nI,cg,gJ,gI,Int.reduceLE,decide_true,Bool.not_true,bw]
 refine de _ _ ?_
 refine aX rfl (fun ht=>?_) (fun ht=>?_)
 ·refine jN ax hp hc mixed rfl [(0,[]),(1,[]),(2,[]),(3,[]),(5,[]),(4,[5]),(6,[]),(7,[])] [[],[],[],[2],[0,1,2,3],[],[0,1,2,3,4,5],[0,1,2,3,4,5,6]] 0 (by kernel_rfl) fun K8 dC=>?_
  refine YI mW ?_
  refine uL (S:=[dR s,.free]) (T:=[.cells (au (bo b (i+1))),.cells (cY s),.cells [.d (iD w),.d (iD 1)],.cells [.d (iD 0),.d nS,.d (iD 0),.d nS,.d (iD 0),.d nS,.d (.val (.slice none 0 0)),.d (.val (.slice none 0 0)),.d (iD 0)]]) (jte C s w (y / 14) hs hw (by omega) (by omega)) rfl (bN rfl) (by first|rfl|(simp[AV.ah,AV.allI,bc,bg,bf,aJ,aN,aY,aZ,fj,cY,bo];done)|(intro o ho;simp at ho;done)) (fun t=>fU (by first|rfl|(simp[AV.ah,AV.allI,bc,bg,bf,aJ,aN,aY,aZ,fj,cY,bo];done)|(intro o ho;simp at ho;done)) t) (fun t=>fU (by first|rfl|(simp[AV.ah,AV.allI,bc,bg,bf,aJ,aN,aY,aZ,fj,cY,bo];done)|(intro o ho;simp at ho;done)) t) (by first|rfl|(simp[AV.ah,AV.allI,bc,bg,bf,aJ,aN,aY,aZ,fj,cY,bo];done)|(intro o ho;simp at ho;done)) (by first|rfl|(simp[AV.ah,AV.allI,bc,bg,bf,aJ,aN,aY,aZ,fj,cY,bo];done)|(intro o ho;simp at ho;done)) (by first|rfl|(simp[AV.ah,AV.allI,bc,bg,bf,aJ,aN,aY,aZ,fj,cY,bo];done)|(intro o ho;simp at ho;done)) ?_
  rintro _ _ ⟨e,he,rfl,g,rfl⟩
  refine⟨rfl,?_⟩
  obtain⟨xo,xk,xw,xc,xn,hex⟩:=qi e;unfold II;rw[hex]
  refine YI mW ?_
  refine dC _ _ ?_
  refine bI hp (τ':=aG [(6,.op 1 0)]) (H':=[dR s,.cells [.d (iD xo),.d nS,.d (iD xk),.d nS,.d (iD xw),.d nS,.d (.fs xc xn),.d (aE b),.d (iD (i+1:Nat))]]) ?_ ?_
  ·refine Gu [0,5] ?_
   refine A2 ?_
   refine Ee ?_;simp[aE,iD]
  refine bh ?_
  try dsimp only[fb,fc]
  refine iH rfl ?_
  refine Hi ?_
  show ∃_,_
  exact⟨e,i+1,he,by omega,by show i+1≤i+1;omega,by unfold kU;rw[hex];simp[bo,iD,aE],_,rfl⟩
 ·simp at ht
theorem Xa:Fh 1:=fun C s b i w hC hs hb hl h1 h2 hi=>jvw C s b i w hC hs hb hl h1 h2 hi
theorem yct{C:Ct}{s:Sc}(hs:pK C s){k:Nat}(h:k<s.mems.length):k<C.mems.length∧(nth C.mems k).2=(nth s.mems k).w:=by
 have hm:=hs.m
 have hl:=congrArg List.length hm
 simp only[List.length_map]at hl
 refine⟨by omega,?_⟩
 have:nth (C.mems.map (·.2)) k=nth (s.mems.map (·.w)) k:=by rw[hm]
 rw[vZ (by omega),vZ h]at this
 exact this
theorem YH{p q r:Prop}(e:r)(hq:q)(h:r→p=q:=by
 intro hY
 conv=>lhs;simp -dsimp -implicitDefEqProofs (disch:=first|assumption|omega|(simp only[aK,jV,gP]<;>omega)|decide) only[aP,↓reduceIte,Nat.reduceEqDiff,Nat.reduceAdd,D.fix,Int.reduceToNat,Nat.reduceMul,Nat.reduceBNe,Nat.reduceBEq,fF,bo,cY,nI,cg,gJ,gI,ypj,dR,bw,hY]):p:=(h e).mpr hq
theorem vO{p q r:Prop}(e:r)(hq:q)(h:r→p=q:=by
 intro hY
 conv=>lhs;simp -dsimp -implicitDefEqProofs (disch:=first|assumption|omega|(simp only[aK,jV,gP]<;>omega)|decide) only[aP,↓reduceIte,Nat.reduceEqDiff,Nat.reduceAdd,D.fix,Int.reduceToNat,Nat.reduceMul,Nat.reduceBNe,Nat.reduceBEq,fF,bo,cY,nI,cg,gJ,gI,bw,hY]):p:=(h e).mpr hq
theorem Kj{P:Program}{sm:List Nat}{N:Nat}{τ:Fr}{H:ak}{f:FuncId}{args:List AV}{K0 KK:AV→ak→Prop}{ks:List Nat}(S T:ak)(h:cM P ks f args S K0)(hK:∀x S',K0 x S'→S'.length=S.length∧KK x (S'++T))(hH:H=S++T:=by
 rfl) (hm:sm.all (aJ ks S.length)=true:=by
 first|rfl|(simp[AV.ah,AV.allI,bc,bg,bf,aJ,aN,aY,aZ,fj,cY,bo];done)|(intro o ho;simp at ho;done)) (hτ:∀t,(τ t).allI (aJ ks S.length)=true:=by
 exact fun t=>fU (by first|rfl|(simp[AV.ah,AV.allI,bc,bg,bf,aJ,aN,aY,aZ,fj,cY,bo];done)|(intro o ho;simp at ho;done)) t) (ha:AV.ah (aN S.length) args=true:=by
 first|rfl|(simp[AV.ah,AV.allI,bc,bg,bf,aJ,aN,aY,aZ,fj,cY,bo];done)|(intro o ho;simp at ho;done)) (hS:∀o∈S,o.allI (aN S.length)=true:=by
 first|rfl|(simp[AV.ah,AV.allI,bc,bg,bf,aJ,aN,aY,aZ,fj,cY,bo];done)|(intro o ho;simp at ho;done)) (hT:∀o∈T,o.allI (aJ ks S.length)=true:=by
 first|rfl|(simp[AV.ah,AV.allI,bc,bg,bf,aJ,aN,aY,aZ,fj,cY,bo];done)|(intro o ho;simp at ho;done)):kC P sm N H τ (.d (.val (.func (.func f) #[] #[]))) args true (tg KK):=r7 h hH hm hτ ha hS hT hK
theorem W9{p:Prop}(h:p:=by
 first|rfl|(simp only[cD,Nat.reduceAdd,↓reduceIte,Nat.reduceEqDiff,fF,bo,cY,nI,cg,gJ,gI];first|done|rfl)):p:=h
theorem R7(d:Nat)(hT:Fh (d+1))(C:Ct)(s:Sc)(b:List Int)(i w y:Nat)(hC:kN C)(hs:pK C s)(hb:mR b)(hl:b.length≤maxLen)(hw:1≤w)(rp:w+(d+2)≤8)(hd:d≤3)(hi:i≤vi (d+1))(hy:y<1000):cM prog [0] 113 [fF b i,.agg (cY s),.agg [.d (iD w),.d (iD (d+2:Nat)),.d (iD y)]] ([dR s,.free]) (BI C s b i w (rQ (d+2)) (nM (d+2) - 1)):=by
 refine fV (fn:=f113) (by kernel_rfl) func113 rfl (bN rfl) fun c hc hp=>?_
 refine vY ?_
 have mC:=hs.ml
 have Bc:(y:Int) / 3=((y / 3:Nat):Int):=by omega
 have Hw:((y / 3:Nat):Int) % 3=((y / 3 % 3:Nat):Int):=by omega
 have vp:((y / 3:Nat):Int) % 2=((y / 3 % 2:Nat):Int):=by omega
 have o6:((d+2:Nat):Int) - 1=((d+1:Nat):Int):=by omega
 have Hz:(1:Int)+((y / 3 % 3:Nat):Int)=((1+y / 3 % 3:Nat):Int):=by omega
 have zE:(w:Int)+((y / 3 % 2:Nat):Int)=((w+y / 3 % 2:Nat):Int):=by omega
 have nb:rQ (d+2)=3*rQ (d+1)+32:=rfl
 have ef:nM (d+2)=3*nM (d+1)+1:=rfl
 have hbp:=jtf (d+1)
 refine aj (tQ ·) ?_
 refine eN ax hc mixed rfl (q:=0) (by kernel_rfl) (by kernel_rfl) fun K2 bG=>?_
 refine tQ ?_
 refine bG _ _ ?_
 refine aH fun K3 bS=>?_
 refine bC hp ax hc rfl fun K4 dD=>?_
 simp -dsimp -implicitDefEqProofs (disch:=first|assumption|omega|(simp only[aK,jV,gP]<;>omega)|decide) only[aP,↓reduceIte,Nat.reduceEqDiff,Nat.reduceAdd,D.fix,Int.reduceToNat,Nat.reduceMul,Nat.reduceBNe,Nat.reduceBEq,fF,bo,cY,nI,cg,gJ,gI]
 refine dD _ _ ?_
 refine aW ?_
 refine c9 hp (fun τ' H' mm=>∃(k:Nat),(k≤s.mems.length)∧mm=s.mems.length - k∧H'=dR s:: .free::[.cells (au (bo b i)),.cells (cY s),.cells [.d (iD w),.d (iD (d+2:Nat)),.d (iD y)],.cells [.d (iD 0),.d nS,.d (iD 0),.d nS,.d (iD 0),.d nS,.d (.val (.slice none 0 0)),.d (.val (.slice none 0 0)),.d (iD 0)]]∧τ'=aG [(3,.op 2 0),(4,.op 3 0),(6,.op 5 0),(7,.d (iD w)),(8,.d (iD (d+2:Nat))),(9,.d (iD y)),(10,.d (iD k))]) (s.mems.length) ?_ ⟨0,cy _,rfl,rfl,rfl⟩ ?_
 ·refine A2 ?_
  refine Ee ?_;simp[nS,iD,oD]
 rintro τ' H' mm ⟨k,hk,rfl,rfl,rfl⟩
 refine aH fun K5 fA=>?_
 refine aj (tQ ·) ?_
 refine aX rfl (fun ht=>?_) (fun ht=>?_)
 ·have aA:k<s.mems.length:=by simp at ht;omega
  obtain⟨zR,mZ⟩:=yct hs aA
  refine bB (fA _ _ ?_)
  refine aH fun K7 de=>?_
  refine aW ?_
  refine bC hp ax hc rfl fun K8 dC=>?_
  rcases tf (((nth s.mems k).w:Int)==(w:Int))with e1|e1
  ·refine YH e1 ?_
   refine dC _ _ ?_
   refine aX rfl (fun ht=>?_) (fun ht=>?_)
   ·have hU:(nth s.mems k).w=w:=by simp at e1;omega
    have h33:y / 3 % 3<3:=Nat.mod_lt _ (by decide)
    refine bC hp ax hc rfl fun K9 cJ=>?_
    refine vO (aL Bc (aL Hw (aL Hz o6))) ?_
    refine Kj ([dR s,.free]) ([.cells (au (bo b i)),.cells (cY s),.cells [.d (iD w),.d (iD (d+2:Nat)),.d (iD y)],.cells [.d (iD 0),.d nS,.d (iD 0),.d nS,.d (iD 0),.d nS,.d (.val (.slice none 0 0)),.d (.val (.slice none 0 0)),.d (iD 0)]]) (hT C s b i (1+y / 3 % 3) hC hs hb hl (by omega) (by omega) hi) ?_
    rintro _ _ ⟨e,j,he,sg,xR,rfl,g,rfl⟩
    refine⟨rfl,?_⟩
    obtain⟨xo,xk,xw,xc,xn,hex⟩:=qi e;unfold kU;rw[hex];dsimp only[List.map_cons,List.map_nil,List.cons_append,List.nil_append,bo]
    refine vO (aL Bc (aL Hw (aL Hz o6))) ?_
    refine cJ _ _ ?_
    refine aj (tQ ·) ?_
    refine bI hp (τ':=aG [(6,.op 1 0)]) (H':=[dR s,.cells [.d (iD 17),.d nS,.d (iD k),.d nS,.d (iD 0),.d nS,.d (.fs [iD xo,nS,iD xk,nS,iD xw,nS,.fs xc xn] 1),.d (aE b),.d (iD j)]]) ?_ ?_
    ·refine Rt.trans (Rt.fz (id:=7) (l:=[iD xo,nS,iD xk,nS,iD xw,nS,.fs xc xn]) rfl) ?_
     refine Gu [0,5] ?_
     refine A2 ?_
     refine Ee ?_;simp[aE,iD,nS,dJ,c7]
    refine bh ?_
    try dsimp only[fb,fc]
    refine iH rfl ?_
    refine Hi ?_
    show ∃_,_
    have wN:=hC.m k zR
    exact⟨.rd k e,j,⟨⟨he.t,zR⟩,mZ.trans hU,by have:=he.n;simp only[bQ];omega⟩,sg,by omega,by simp[kU,bW,hex,cg,bo,nS,iD,aE],_,rfl⟩
   ·refine bB (de _ _ ?_)
    refine bA hp ax hc rfl fun lz cm=>?_
    refine tQ ?_
    refine cm _ _ ⟨_,_,_,?_,⟨k+1,by omega,rfl,rfl,rfl⟩,?_⟩
    ·first|omega|(simp only[List.length_cons];omega)|(dsimp only;omega)
    ·refine A2 ?_
     exact W9
  ·refine YH e1 ?_
   refine dC _ _ ?_
   refine eC ?_
   refine bB (de _ _ ?_)
   refine bA hp ax hc rfl fun nk cU=>?_
   refine tQ ?_
   refine cU _ _ ⟨_,_,_,?_,⟨k+1,by omega,rfl,rfl,rfl⟩,?_⟩
   ·first|omega|(simp only[List.length_cons];omega)|(dsimp only;omega)
   ·refine A2 ?_
    exact W9
 ·refine cL (bS _ _ ?_)
  refine aH fun rN dQ=>?_
  refine bC hp ax hc rfl fun rM dI=>?_
  rcases tf ((y:Int) % 3==1)with e1|e1
  ·refine vO e1 ?_
   refine dI _ _ ?_
   refine aX rfl (fun ht=>?_) (fun ht=>?_)
   ·have th:1<w:=by simp at ht;omega
    have CN:(w:Int) - 1=((w - 1:Nat):Int):=by omega
    refine bC hp ax hc rfl fun tG ea=>?_
    refine vO (aL CN o6) ?_
    refine Kj ([dR s,.free]) ([.cells (au (bo b i)),.cells (cY s),.cells [.d (iD w),.d (iD (d+2:Nat)),.d (iD y)],.cells [.d (iD 0),.d nS,.d (iD 0),.d nS,.d (iD 0),.d nS,.d (.val (.slice none 0 0)),.d (.val (.slice none 0 0)),.d (iD 0)]]) (hT C s b i (w - 1) hC hs hb hl (by omega) (by omega) hi) ?_
    rintro _ _ ⟨e,j,he,sg,xR,rfl,g,rfl⟩
    refine⟨rfl,?_⟩
    obtain⟨xo,xk,xw,xc,xn,hex⟩:=qi e;unfold kU;rw[hex];dsimp only[List.map_cons,List.map_nil,List.cons_append,List.nil_append,bo]
    refine vO (aL CN o6) ?_
    refine ea _ _ ?_
    refine aj (tQ ·) ?_
    refine bI hp (τ':=aG [(6,.op 1 0)]) (H':=[dR s,.cells [.d (iD 13),.d nS,.d (iD 0),.d nS,.d (iD w),.d nS,.d (.fs [iD xo,nS,iD xk,nS,iD xw,nS,.fs xc xn] 1),.d (aE b),.d (iD j)]]) ?_ ?_
    ·refine Rt.trans (Rt.fz (id:=7) (l:=[iD xo,nS,iD xk,nS,iD xw,nS,.fs xc xn]) rfl) ?_
     refine Gu [0,5] ?_
     refine A2 ?_
     refine Ee ?_;simp[aE,iD,nS,dJ,c7]
    refine bh ?_
    try dsimp only[fb,fc]
    refine iH rfl ?_
    refine Hi ?_
    show ∃_,_
    exact⟨.ext w e,j,⟨⟨he.t,by rw[he.w];omega,by omega⟩,rfl,by have:=he.n;simp only[bQ];omega⟩,sg,by omega,by simp[kU,bW,hex,cg,bo,nS,iD,aE],_,rfl⟩
   ·refine bB (dQ _ _ ?_)
    have h22:y / 3 % 2<2:=Nat.mod_lt _ (by decide)
    refine bC hp ax hc rfl fun tF eh=>?_
    refine vO (aL Bc (aL vp (aL zE o6))) ?_
    refine Kj ([dR s,.free]) ([.cells (au (bo b i)),.cells (cY s),.cells [.d (iD w),.d (iD (d+2:Nat)),.d (iD y)],.cells [.d (iD 0),.d nS,.d (iD 0),.d nS,.d (iD 0),.d nS,.d (.val (.slice none 0 0)),.d (.val (.slice none 0 0)),.d (iD 0)]]) (hT C s b i (w+y / 3 % 2) hC hs hb hl (by omega) (by omega) hi) ?_
    rintro _ _ ⟨e,j,he,sg,xR,rfl,g,rfl⟩
    refine⟨rfl,?_⟩
    obtain⟨xo,xk,xw,xc,xn,hex⟩:=qi e;unfold kU;rw[hex];dsimp only[List.map_cons,List.map_nil,List.cons_append,List.nil_append,bo]
    refine vO (aL Bc (aL vp (aL zE o6))) ?_
    refine eh _ _ ?_
    refine aj (vO (aL Bc vp) ·) ?_
    refine bI hp (τ':=aG [(6,.op 1 0)]) (H':=[dR s,.cells [.d (iD 12),.d nS,.d (iD (y / 3 % 2:Nat)),.d nS,.d (iD w),.d nS,.d (.fs [iD xo,nS,iD xk,nS,iD xw,nS,.fs xc xn] 1),.d (aE b),.d (iD j)]]) ?_ ?_
    ·refine Rt.trans (Rt.fz (id:=7) (l:=[iD xo,nS,iD xk,nS,iD xw,nS,.fs xc xn]) rfl) ?_
     refine Gu [0,5] ?_
     refine A2 ?_
     refine Ee ?_;simp[aE,iD,nS,dJ,c7]
    refine bh ?_
    try dsimp only[fb,fc]
    refine iH rfl ?_
    refine Hi ?_
    show ∃_,_
    exact⟨.mT (y / 3 % 2) w e,j,⟨⟨he.t,hw,by rw[he.w];omega⟩,rfl,by have:=he.n;simp only[bQ];omega⟩,sg,by omega,by simp[kU,bW,hex,cg,bo,nS,iD,aE],_,rfl⟩
  ·refine vO e1 ?_
   refine dI _ _ ?_
   refine eC ?_
   refine bB (dQ _ _ ?_)
   have h22:y / 3 % 2<2:=Nat.mod_lt _ (by decide)
   refine bC hp ax hc rfl fun wT fC=>?_
   refine vO (aL Bc (aL vp (aL zE o6))) ?_
   refine Kj ([dR s,.free]) ([.cells (au (bo b i)),.cells (cY s),.cells [.d (iD w),.d (iD (d+2:Nat)),.d (iD y)],.cells [.d (iD 0),.d nS,.d (iD 0),.d nS,.d (iD 0),.d nS,.d (.val (.slice none 0 0)),.d (.val (.slice none 0 0)),.d (iD 0)]]) (hT C s b i (w+y / 3 % 2) hC hs hb hl (by omega) (by omega) hi) ?_
   rintro _ _ ⟨e,j,he,sg,xR,rfl,g,rfl⟩
   refine⟨rfl,?_⟩
   obtain⟨xo,xk,xw,xc,xn,hex⟩:=qi e;unfold kU;rw[hex];dsimp only[List.map_cons,List.map_nil,List.cons_append,List.nil_append,bo]
   refine vO (aL Bc (aL vp (aL zE o6))) ?_
   refine fC _ _ ?_
   refine aj (vO (aL Bc vp) ·) ?_
   refine bI hp (τ':=aG [(6,.op 1 0)]) (H':=[dR s,.cells [.d (iD 12),.d nS,.d (iD (y / 3 % 2:Nat)),.d nS,.d (iD w),.d nS,.d (.fs [iD xo,nS,iD xk,nS,iD xw,nS,.fs xc xn] 1),.d (aE b),.d (iD j)]]) ?_ ?_
   ·refine Rt.trans (Rt.fz (id:=7) (l:=[iD xo,nS,iD xk,nS,iD xw,nS,.fs xc xn]) rfl) ?_
    refine Gu [0,5] ?_
    refine A2 ?_
    refine Ee ?_;simp[aE,iD,nS,dJ,c7]
   refine bh ?_
   try dsimp only[fb,fc]
   refine iH rfl ?_
   refine Hi ?_
   show ∃_,_
   exact⟨.mT (y / 3 % 2) w e,j,⟨⟨he.t,hw,by rw[he.w];omega⟩,rfl,by have:=he.n;simp only[bQ];omega⟩,sg,by omega,by simp[kU,bW,hex,cg,bo,nS,iD,aE],_,rfl⟩
end Go.Proofs.YtapjobndmmkanaaGreat
