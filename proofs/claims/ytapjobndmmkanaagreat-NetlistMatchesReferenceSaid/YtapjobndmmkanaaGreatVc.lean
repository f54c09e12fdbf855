/- Expressions that bytes describe. -/
import Derived.Test.YtapjobndmmkanaaGreatQr
import Derived.Test.YtapjobndmmkanaaGreatVb
set_option linter.unusedVariables false
set_option linter.unusedSimpArgs false
set_option maxRecDepth 100000
set_option maxHeartbeats 4000000
namespace Go.Proofs.YtapjobndmmkanaaGreat
open Go.Proofs.Tryz
open Go Go.RowKit
def rz:Nat→Nat
 |0=>0
 |1=>0
 |d+2=>3*rz (d+1)+32
def nU:Nat→Nat
 |0=>1
 |1=>1
 |d+2=>3*nU (d+1)+1
def uq(d:Nat):Nat:=1000000*(10 - d)
theorem yey{d:Nat}(h:d≤3):uq (d+2)+300001≤uq (d+1)∧uq (d+1)≤10000000:=by
 rcases(show d=0∨d=1∨d=2∨d=3 by omega)with rfl|rfl|rfl|rfl<;>decide
theorem Z7:∀d,1≤nU d
 |0=>bJ _
 |1=>bJ _
 |d+2=>by rw[nU];omega
def fJ(b:List Int)(i:Nat):AV:=.agg [.d (aI b),.d (iD i)]
def kZ(e:Ex)(b:List Int)(j:Nat):AV:=.agg ((bR e++bG b j).map .d)
def Bf(C:Ct)(s:Sc)(b:List Int)(i w n m:Nat)(x:AV)(S':av):Prop:=∃(e:Ex) (j:Nat),Fit C s.q w n e∧i≤j∧j≤i+m∧x=kZ e b j∧∃g,S'=[dZ s,.cells g]
def EE(d:Nat):Prop:=∀(C:Ct) (s:Sc) (b:List Int) (i w:Nat),nE C→pC C s→rJ b→b.length≤maxLen→1≤w→w+d≤8→i≤uq d→
 cY prog [0] 56 [fJ b i,.agg (dk s),.agg [.d (iD w),.d (iD d)]] [dZ s,.free] (Bf C s b i w (rz d) (nU d))
theorem pZ(e:Ex):∃o k w cs n,bR e=[iD o,nS,iD k,nS,iD w,nS,.fs cs n]:=by cases e<;>exact⟨_,_,_,_,_,rfl⟩
theorem ti{p q:Prop}(hq:q)(h:p=q:=by
 conv=>lhs;simp -dsimp -implicitDefEqProofs (disch:=first|assumption|omega|(simp only[aH,j7,gJ]<;>omega)|decide) only[aN,↓reduceIte,Nat.reduceEqDiff,Nat.reduceAdd,D.fix,Int.reduceToNat,Nat.reduceMul,Nat.reduceBNe,Nat.reduceBEq,fJ,bG,dk,nI,cv,gP,gO,bw]):p:=h.mpr hq
theorem Ya{p q r:Prop}(e:r)(hq:q)(h:r→p=q:=by
 intro hY
 conv=>lhs;simp -dsimp -implicitDefEqProofs (disch:=first|assumption|omega|(simp only[aH,j7,gJ]<;>omega)|decide) only[aN,↓reduceIte,Nat.reduceEqDiff,Nat.reduceAdd,D.fix,Int.reduceToNat,Nat.reduceMul,Nat.reduceBNe,Nat.reduceBEq,mC,fJ,bG,dk,nI,cv,gP,gO,bw,hY]):p:=(h e).mpr hq
theorem Gb(k:List Nat){m:List Nat}{τ τ1:Fr}{H H1:av}(h:Rt m (fun t=>du k (τ t)) (dg k H) τ1 H1)(a:∀i∈m,k[i]? =some i:=by decide)(b:k.Nodup:=by decide)(c:∀i∈k,i<H.length:=by
 simp[eJ,dg]):Rt m τ H τ1 H1:=Rt.trans (Rt.gc a b c) h
theorem AO{m:List Nat}{τ τ':Fr}{H H':av}(h2:H=H')(h:fw τ τ':=by
 repeat (first|exact cw _|refine cg ?_ (by first|rfl|(simp[aX,j7,gJ];done)|simp[aX,j7,gJ, *]))):Rt m τ H τ' H':=Rt.end h h2
theorem Gz{p q:Prop}(hq:q)(h:p=q:=by
 conv=>lhs;simp -dsimp -implicitDefEqProofs (disch:=first|assumption|omega|(simp only[aH,j7,gJ]<;>omega)|decide) only[aN,↓reduceIte,Nat.reduceEqDiff,Nat.reduceAdd,D.fix,Int.reduceToNat,Nat.reduceMul,Nat.reduceBNe,Nat.reduceBEq,fJ,bG,dk,nI,cv,gP,gO,Fl,OR]):p:=h.mpr hq
theorem DW{p q:Prop}(hq:q)(h:p=q:=by
 conv=>lhs;simp only[cP,Nat.reduceAdd,↓reduceIte,Nat.reduceEqDiff,fJ,bG,dk,nI,cv,gP,gO]):p:=h.mpr hq
theorem jr6(C:Ct)(s:Sc)(b:List Int)(i w:Nat)(hC:nE C)(hs:pC C s)(hb:rJ b)(hl:b.length≤maxLen)(hw:1≤w)(nM:w+1≤8)(hi:i≤uq 1):cY prog [0] 56 [fJ b i,.agg (dk s),.agg [.d (iD w),.d (iD 1)]] ([dZ s,.free]) (Bf C s b i w (rz 1) (nU 1)):=by
 refine fX (fn:=f56) (by kernel_rfl) func56 rfl (cn rfl) fun c hc hp=>?_
 refine tr ?_
 have hcp:uq 1=9000000:=by decide
 obtain⟨y,hy⟩:∃y:Nat,nT b i=y:=⟨(nT b i).toNat,by have:=(rG hb i).1;omega⟩
 have Pf:=(rG hb i).2
 have nh:(y:Int) / 14=((y / 14:Nat):Int):=by omega
 have wq:=zX b i hb hl
 rw[hy]at wq
 refine ah (ti ·) ?_
 refine dO ax hc mixed rfl (q:=0) (by kernel_rfl) (by kernel_rfl) fun K2 bS=>?_
 refine ti ?_
 refine bS _ _ ?_
 refine aZ hp ax hc rfl fun K3 cm=>?_
 refine ti ?_
 refine bx (wq) rfl ?_
 refine ti ?_
 refine cm _ _ ?_
 refine aZ hp ax hc rfl fun K4 dE=>?_
 refine ti ?_
 refine bx (yU b i 1 (by omega) (by omega)) rfl ?_
 refine ti ?_
 refine dE _ _ ?_
 refine ah (ti ·) ?_
 refine aD fun K6 cK=>?_
 refine aZ hp ax hc rfl fun K7 cL=>?_
 simp -dsimp -implicitDefEqProofs (disch:=first|assumption|omega|(simp only[aH,j7,gJ]<;>omega)|decide) only[aN,↓reduceIte,Nat.reduceEqDiff,Nat.reduceAdd,D.fix,Int.reduceToNat,Nat.reduceMul,Nat.reduceBNe,Nat.reduceBEq,fJ,bG,dk,nI,cv,gP,gO,Int.reduceLE,decide_true,Bool.not_true,bw]
 refine cL _ _ ?_
 refine bf rfl (fun ht=>?_) (fun ht=>?_)
 ·refine jP ax hp hc mixed rfl [(0,[]),(1,[]),(2,[]),(3,[]),(5,[]),(4,[5]),(6,[]),(7,[])] [[],[],[],[2],[0,1,2,3],[],[0,1,2,3,4,5],[0,1,2,3,4,5,6]] 0 (by kernel_rfl) fun K8 dP=>?_
  refine Ya nh ?_
  refine tm (S:=[dZ s,.free]) (T:=[.cells (ak (bG b (i+1))),.cells (dk s),.cells [.d (iD w),.d (iD 1)],.cells [.d (iD 0),.d nS,.d (iD 0),.d nS,.d (iD 0),.d nS,.d (.val (.slice none 0 0)),.d (.val (.slice none 0 0)),.d (iD 0)]]) (Z8 C s w (y / 14) hs hw (by omega) (by omega)) rfl (cn rfl) (by first|rfl|(simp[AV.aj,AV.allI,bo,bq,bp,aL,aO,bn,br,ff,dk,bG];done)|(intro o ho;simp at ho;done)) (fun t=>fL (by first|rfl|(simp[AV.aj,AV.allI,bo,bq,bp,aL,aO,bn,br,ff,dk,bG];done)|(intro o ho;simp at ho;done)) t) (fun t=>fL (by first|rfl|(simp[AV.aj,AV.allI,bo,bq,bp,aL,aO,bn,br,ff,dk,bG];done)|(intro o ho;simp at ho;done)) t) (by first|rfl|(simp[AV.aj,AV.allI,bo,bq,bp,aL,aO,bn,br,ff,dk,bG];done)|(intro o ho;simp at ho;done)) (by first|rfl|(simp[AV.aj,AV.allI,bo,bq,bp,aL,aO,bn,br,ff,dk,bG];done)|(intro o ho;simp at ho;done)) (by first|rfl|(simp[AV.aj,AV.allI,bo,bq,bp,aL,aO,bn,br,ff,dk,bG];done)|(intro o ho;simp at ho;done)) ?_
  rintro _ _ ⟨e,he,rfl,g,rfl⟩
  refine⟨rfl,?_⟩
  obtain⟨xo,xk,xw,xc,xn,hex⟩:=pZ e;unfold Ig;rw[hex]
  refine Ya nh ?_
  refine dP _ _ ?_
  refine bC hp (τ':=aF [(6,.op 1 0)]) (H':=[dZ s,.cells [.d (iD xo),.d nS,.d (iD xk),.d nS,.d (iD xw),.d nS,.d (.fs xc xn),.d (aI b),.d (iD (i+1:Nat))]]) ?_ ?_
  ·refine Gb [0,5] ?_
   refine AO ?_
   refine DW ?_;simp[aI,iD]
  refine aM ?_
  try dsimp only[cC,cI]
  refine cS rfl ?_
  refine Gz ?_
  show ∃_,_
  exact⟨e,i+1,he,by omega,by show i+1≤i+1;omega,by unfold kZ;rw[hex];simp[bG,iD,aI],_,rfl⟩
 ·simp at ht
theorem Wp:EE 1:=fun C s b i w hC hs hb hl h1 h2 hi=>jr6 C s b i w hC hs hb hl h1 h2 hi
theorem jym{C:Ct}{s:Sc}(hs:pC C s){k:Nat}(h:k<s.au.length):k<C.au.length∧(nth C.au k).2=(nth s.au k).w:=by
 have hm:=hs.m
 have hl:=congrArg List.length hm
 simp only[List.length_map]at hl
 refine⟨by omega,?_⟩
 have:nth (C.au.map (·.2)) k=nth (s.au.map (·.w)) k:=by rw[hm]
 rw[BL (by omega),BL h]at this
 exact this
theorem X9{p q r:Prop}(e:r)(hq:q)(h:r→p=q:=by
 intro hY
 conv=>lhs;simp -dsimp -implicitDefEqProofs (disch:=first|assumption|omega|(simp only[aH,j7,gJ]<;>omega)|decide) only[aN,↓reduceIte,Nat.reduceEqDiff,Nat.reduceAdd,D.fix,Int.reduceToNat,Nat.reduceMul,Nat.reduceBNe,Nat.reduceBEq,fJ,bG,dk,nI,cv,gP,gO,yjy,dZ,bw,hY]):p:=(h e).mpr hq
theorem uZ{p q r:Prop}(e:r)(hq:q)(h:r→p=q:=by
 intro hY
 conv=>lhs;simp -dsimp -implicitDefEqProofs (disch:=first|assumption|omega|(simp only[aH,j7,gJ]<;>omega)|decide) only[aN,↓reduceIte,Nat.reduceEqDiff,Nat.reduceAdd,D.fix,Int.reduceToNat,Nat.reduceMul,Nat.reduceBNe,Nat.reduceBEq,fJ,bG,dk,nI,cv,gP,gO,bw,hY]):p:=(h e).mpr hq
theorem JV{P:Program}{sm:List Nat}{N:Nat}{τ:Fr}{H:av}{f:FuncId}{args:List AV}{K0 KK:AV→av→Prop}{ks:List Nat}(S T:av)(h:cY P ks f args S K0)(hK:∀x S',K0 x S'→S'.length=S.length∧KK x (S'++T))(hH:H=S++T:=by
 rfl) (hm:sm.all (aL ks S.length)=true:=by
 first|rfl|(simp[AV.aj,AV.allI,bo,bq,bp,aL,aO,bn,br,ff,dk,bG];done)|(intro o ho;simp at ho;done)) (hτ:∀t,(τ t).allI (aL ks S.length)=true:=by
 exact fun t=>fL (by first|rfl|(simp[AV.aj,AV.allI,bo,bq,bp,aL,aO,bn,br,ff,dk,bG];done)|(intro o ho;simp at ho;done)) t) (ha:AV.aj (aO S.length) args=true:=by
 first|rfl|(simp[AV.aj,AV.allI,bo,bq,bp,aL,aO,bn,br,ff,dk,bG];done)|(intro o ho;simp at ho;done)) (hS:∀o∈S,o.allI (aO S.length)=true:=by
 first|rfl|(simp[AV.aj,AV.allI,bo,bq,bp,aL,aO,bn,br,ff,dk,bG];done)|(intro o ho;simp at ho;done)) (hT:∀o∈T,o.allI (aL ks S.length)=true:=by
 first|rfl|(simp[AV.aj,AV.allI,bo,bq,bp,aL,aO,bn,br,ff,dk,bG];done)|(intro o ho;simp at ho;done)):kC P sm N H τ (.d (.val (.func (.func f) #[] #[]))) args true (tg KK):=rH h hH hm hτ ha hS hT hK
theorem Wo{p:Prop}(h:p:=by
 first|rfl|(simp only[cP,Nat.reduceAdd,↓reduceIte,Nat.reduceEqDiff,fJ,bG,dk,nI,cv,gP,gO];first|done|rfl)):p:=h
theorem Rp(d:Nat)(hT:EE (d+1))(C:Ct)(s:Sc)(b:List Int)(i w y:Nat)(hC:nE C)(hs:pC C s)(hb:rJ b)(hl:b.length≤maxLen)(hw:1≤w)(nM:w+(d+2)≤8)(hd:d≤3)(hi:i≤uq (d+1))(hy:y<1000):cY prog [0] 113 [fJ b i,.agg (dk s),.agg [.d (iD w),.d (iD (d+2:Nat)),.d (iD y)]] ([dZ s,.free]) (Bf C s b i w (rz (d+2)) (nU (d+2) - 1)):=by
 refine fX (fn:=f113) (by kernel_rfl) func113 rfl (cn rfl) fun c hc hp=>?_
 refine tr ?_
 have p9:=hs.ml
 have AQ:(y:Int) / 3=((y / 3:Nat):Int):=by omega
 have GN:((y / 3:Nat):Int) % 3=((y / 3 % 3:Nat):Int):=by omega
 have uv:((y / 3:Nat):Int) % 2=((y / 3 % 2:Nat):Int):=by omega
 have qT:((d+2:Nat):Int) - 1=((d+1:Nat):Int):=by omega
 have GQ:(1:Int)+((y / 3 % 3:Nat):Int)=((1+y / 3 % 3:Nat):Int):=by omega
 have y5:(w:Int)+((y / 3 % 2:Nat):Int)=((w+y / 3 % 2:Nat):Int):=by omega
 have mM:rz (d+2)=3*rz (d+1)+32:=rfl
 have eI:nU (d+2)=3*nU (d+1)+1:=rfl
 have hbp:=Z7 (d+1)
 refine ah (ti ·) ?_
 refine dO ax hc mixed rfl (q:=0) (by kernel_rfl) (by kernel_rfl) fun K2 bS=>?_
 refine ti ?_
 refine bS _ _ ?_
 refine aD fun K3 cm=>?_
 refine aZ hp ax hc rfl fun K4 dE=>?_
 simp -dsimp -implicitDefEqProofs (disch:=first|assumption|omega|(simp only[aH,j7,gJ]<;>omega)|decide) only[aN,↓reduceIte,Nat.reduceEqDiff,Nat.reduceAdd,D.fix,Int.reduceToNat,Nat.reduceMul,Nat.reduceBNe,Nat.reduceBEq,fJ,bG,dk,nI,cv,gP,gO]
 refine dE _ _ ?_
 refine aW ?_
 refine cU hp (fun τ' H' mm=>∃(k:Nat),(k≤s.au.length)∧mm=s.au.length - k∧H'=dZ s:: .free::[.cells (ak (bG b i)),.cells (dk s),.cells [.d (iD w),.d (iD (d+2:Nat)),.d (iD y)],.cells [.d (iD 0),.d nS,.d (iD 0),.d nS,.d (iD 0),.d nS,.d (.val (.slice none 0 0)),.d (.val (.slice none 0 0)),.d (iD 0)]]∧τ'=aF [(3,.op 2 0),(4,.op 3 0),(6,.op 5 0),(7,.d (iD w)),(8,.d (iD (d+2:Nat))),(9,.d (iD y)),(10,.d (iD k))]) (s.au.length) ?_ ⟨0,cF _,rfl,rfl,rfl⟩ ?_
 ·refine AO ?_
  refine DW ?_;simp[nS,iD,oD]
 rintro τ' H' mm ⟨k,hk,rfl,rfl,rfl⟩
 refine aD fun K5 dx=>?_
 refine ah (ti ·) ?_
 refine bf rfl (fun ht=>?_) (fun ht=>?_)
 ·have aA:k<s.au.length:=by simp at ht;omega
  obtain⟨qQ,qP⟩:=jym hs aA
  refine bg (dx _ _ ?_)
  refine aD fun K7 cL=>?_
  refine aW ?_
  refine aZ hp ax hc rfl fun K8 dP=>?_
  rcases tf (((nth s.au k).w:Int)==(w:Int))with e1|e1
  ·refine X9 e1 ?_
   refine dP _ _ ?_
   refine bf rfl (fun ht=>?_) (fun ht=>?_)
   ·have AS:(nth s.au k).w=w:=by simp at e1;omega
    have h33:y / 3 % 3<3:=Nat.mod_lt _ (by decide)
    refine aZ hp ax hc rfl fun K9 cX=>?_
    refine uZ (aw AQ (aw GN (aw GQ qT))) ?_
    refine JV ([dZ s,.free]) ([.cells (ak (bG b i)),.cells (dk s),.cells [.d (iD w),.d (iD (d+2:Nat)),.d (iD y)],.cells [.d (iD 0),.d nS,.d (iD 0),.d nS,.d (iD 0),.d nS,.d (.val (.slice none 0 0)),.d (.val (.slice none 0 0)),.d (iD 0)]]) (hT C s b i (1+y / 3 % 3) hC hs hb hl (by omega) (by omega) hi) ?_
    rintro _ _ ⟨e,j,he,rU,wL,rfl,g,rfl⟩
    refine⟨rfl,?_⟩
    obtain⟨xo,xk,xw,xc,xn,hex⟩:=pZ e;unfold kZ;rw[hex];dsimp only[List.map_cons,List.map_nil,List.cons_append,List.nil_append,bG]
    refine uZ (aw AQ (aw GN (aw GQ qT))) ?_
    refine cX _ _ ?_
    refine ah (ti ·) ?_
    refine bC hp (τ':=aF [(6,.op 1 0)]) (H':=[dZ s,.cells [.d (iD 17),.d nS,.d (iD k),.d nS,.d (iD 0),.d nS,.d (.fs [iD xo,nS,iD xk,nS,iD xw,nS,.fs xc xn] 1),.d (aI b),.d (iD j)]]) ?_ ?_
    ·refine Rt.trans (Rt.fz (id:=7) (l:=[iD xo,nS,iD xk,nS,iD xw,nS,.fs xc xn]) rfl) ?_
     refine Gb [0,5] ?_
     refine AO ?_
     refine DW ?_;simp[aI,iD,nS,ec,du]
    refine aM ?_
    try dsimp only[cC,cI]
    refine cS rfl ?_
    refine Gz ?_
    show ∃_,_
    have uK:=hC.m k qQ
    exact⟨.rd k e,j,⟨⟨he.t,qQ⟩,qP.trans AS,by have:=he.n;simp only[cf];omega⟩,rU,by omega,by simp[kZ,bR,hex,cv,bG,nS,iD,aI],_,rfl⟩
   ·refine bg (cL _ _ ?_)
    refine bT hp ax hc rfl fun mh cQ=>?_
    refine ti ?_
    refine cQ _ _ ⟨_,_,_,?_,⟨k+1,by omega,rfl,rfl,rfl⟩,?_⟩
    ·first|omega|(simp only[List.length_cons];omega)|(dsimp only;omega)
    ·refine AO ?_
     exact Wo
  ·refine X9 e1 ?_
   refine dP _ _ ?_
   refine bA ?_
   refine bg (cL _ _ ?_)
   refine bT hp ax hc rfl fun lK bN=>?_
   refine ti ?_
   refine bN _ _ ⟨_,_,_,?_,⟨k+1,by omega,rfl,rfl,rfl⟩,?_⟩
   ·first|omega|(simp only[List.length_cons];omega)|(dsimp only;omega)
   ·refine AO ?_
    exact Wo
 ·refine cJ (cm _ _ ?_)
  refine aD fun nV df=>?_
  refine aZ hp ax hc rfl fun re dT=>?_
  rcases tf ((y:Int) % 3==1)with e1|e1
  ·refine uZ e1 ?_
   refine dT _ _ ?_
   refine bf rfl (fun ht=>?_) (fun ht=>?_)
   ·have rQ:1<w:=by simp at ht;omega
    have Ci:(w:Int) - 1=((w - 1:Nat):Int):=by omega
    refine aZ hp ax hc rfl fun sY eG=>?_
    refine uZ (aw Ci qT) ?_
    refine JV ([dZ s,.free]) ([.cells (ak (bG b i)),.cells (dk s),.cells [.d (iD w),.d (iD (d+2:Nat)),.d (iD y)],.cells [.d (iD 0),.d nS,.d (iD 0),.d nS,.d (iD 0),.d nS,.d (.val (.slice none 0 0)),.d (.val (.slice none 0 0)),.d (iD 0)]]) (hT C s b i (w - 1) hC hs hb hl (by omega) (by omega) hi) ?_
    rintro _ _ ⟨e,j,he,rU,wL,rfl,g,rfl⟩
    refine⟨rfl,?_⟩
    obtain⟨xo,xk,xw,xc,xn,hex⟩:=pZ e;unfold kZ;rw[hex];dsimp only[List.map_cons,List.map_nil,List.cons_append,List.nil_append,bG]
    refine uZ (aw Ci qT) ?_
    refine eG _ _ ?_
    refine ah (ti ·) ?_
    refine bC hp (τ':=aF [(6,.op 1 0)]) (H':=[dZ s,.cells [.d (iD 13),.d nS,.d (iD 0),.d nS,.d (iD w),.d nS,.d (.fs [iD xo,nS,iD xk,nS,iD xw,nS,.fs xc xn] 1),.d (aI b),.d (iD j)]]) ?_ ?_
    ·refine Rt.trans (Rt.fz (id:=7) (l:=[iD xo,nS,iD xk,nS,iD xw,nS,.fs xc xn]) rfl) ?_
     refine Gb [0,5] ?_
     refine AO ?_
     refine DW ?_;simp[aI,iD,nS,ec,du]
    refine aM ?_
    try dsimp only[cC,cI]
    refine cS rfl ?_
    refine Gz ?_
    show ∃_,_
    exact⟨.ext w e,j,⟨⟨he.t,by rw[he.w];omega,by omega⟩,rfl,by have:=he.n;simp only[cf];omega⟩,rU,by omega,by simp[kZ,bR,hex,cv,bG,nS,iD,aI],_,rfl⟩
   ·refine bg (df _ _ ?_)
    have h22:y / 3 % 2<2:=Nat.mod_lt _ (by decide)
    refine aZ hp ax hc rfl fun rZ ey=>?_
    refine uZ (aw AQ (aw uv (aw y5 qT))) ?_
    refine JV ([dZ s,.free]) ([.cells (ak (bG b i)),.cells (dk s),.cells [.d (iD w),.d (iD (d+2:Nat)),.d (iD y)],.cells [.d (iD 0),.d nS,.d (iD 0),.d nS,.d (iD 0),.d nS,.d (.val (.slice none 0 0)),.d (.val (.slice none 0 0)),.d (iD 0)]]) (hT C s b i (w+y / 3 % 2) hC hs hb hl (by omega) (by omega) hi) ?_
    rintro _ _ ⟨e,j,he,rU,wL,rfl,g,rfl⟩
    refine⟨rfl,?_⟩
    obtain⟨xo,xk,xw,xc,xn,hex⟩:=pZ e;unfold kZ;rw[hex];dsimp only[List.map_cons,List.map_nil,List.cons_append,List.nil_append,bG]
    refine uZ (aw AQ (aw uv (aw y5 qT))) ?_
    refine ey _ _ ?_
    refine ah (uZ (aw AQ uv) ·) ?_
    refine bC hp (τ':=aF [(6,.op 1 0)]) (H':=[dZ s,.cells [.d (iD 12),.d nS,.d (iD (y / 3 % 2:Nat)),.d nS,.d (iD w),.d nS,.d (.fs [iD xo,nS,iD xk,nS,iD xw,nS,.fs xc xn] 1),.d (aI b),.d (iD j)]]) ?_ ?_
    ·refine Rt.trans (Rt.fz (id:=7) (l:=[iD xo,nS,iD xk,nS,iD xw,nS,.fs xc xn]) rfl) ?_
     refine Gb [0,5] ?_
     refine AO ?_
     refine DW ?_;simp[aI,iD,nS,ec,du]
    refine aM ?_
    try dsimp only[cC,cI]
    refine cS rfl ?_
    refine Gz ?_
    show ∃_,_
    exact⟨.oJ (y / 3 % 2) w e,j,⟨⟨he.t,hw,by rw[he.w];omega⟩,rfl,by have:=he.n;simp only[cf];omega⟩,rU,by omega,by simp[kZ,bR,hex,cv,bG,nS,iD,aI],_,rfl⟩
  ·refine uZ e1 ?_
   refine dT _ _ ?_
   refine bA ?_
   refine bg (df _ _ ?_)
   have h22:y / 3 % 2<2:=Nat.mod_lt _ (by decide)
   refine aZ hp ax hc rfl fun rY eN=>?_
   refine uZ (aw AQ (aw uv (aw y5 qT))) ?_
   refine JV ([dZ s,.free]) ([.cells (ak (bG b i)),.cells (dk s),.cells [.d (iD w),.d (iD (d+2:Nat)),.d (iD y)],.cells [.d (iD 0),.d nS,.d (iD 0),.d nS,.d (iD 0),.d nS,.d (.val (.slice none 0 0)),.d (.val (.slice none 0 0)),.d (iD 0)]]) (hT C s b i (w+y / 3 % 2) hC hs hb hl (by omega) (by omega) hi) ?_
   rintro _ _ ⟨e,j,he,rU,wL,rfl,g,rfl⟩
   refine⟨rfl,?_⟩
   obtain⟨xo,xk,xw,xc,xn,hex⟩:=pZ e;unfold kZ;rw[hex];dsimp only[List.map_cons,List.map_nil,List.cons_append,List.nil_append,bG]
   refine uZ (aw AQ (aw uv (aw y5 qT))) ?_
   refine eN _ _ ?_
   refine ah (uZ (aw AQ uv) ·) ?_
   refine bC hp (τ':=aF [(6,.op 1 0)]) (H':=[dZ s,.cells [.d (iD 12),.d nS,.d (iD (y / 3 % 2:Nat)),.d nS,.d (iD w),.d nS,.d (.fs [iD xo,nS,iD xk,nS,iD xw,nS,.fs xc xn] 1),.d (aI b),.d (iD j)]]) ?_ ?_
   ·refine Rt.trans (Rt.fz (id:=7) (l:=[iD xo,nS,iD xk,nS,iD xw,nS,.fs xc xn]) rfl) ?_
    refine Gb [0,5] ?_
    refine AO ?_
    refine DW ?_;simp[aI,iD,nS,ec,du]
   refine aM ?_
   try dsimp only[cC,cI]
   refine cS rfl ?_
   refine Gz ?_
   show ∃_,_
   exact⟨.oJ (y / 3 % 2) w e,j,⟨⟨he.t,hw,by rw[he.w];omega⟩,rfl,by have:=he.n;simp only[cf];omega⟩,rU,by omega,by simp[kZ,bR,hex,cv,bG,nS,iD,aI],_,rfl⟩
end Go.Proofs.YtapjobndmmkanaaGreat
