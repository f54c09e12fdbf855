/- Values of the nodes that a builder makes. -/
import Derived.Test.YtapjobndmmkanaaGreatOk
import Derived.Test.YtapjobndmmkanaaGreatQr
import Derived.Test.YtapjobndmmkanaaGreatVa
set_option linter.unusedVariables false
set_option linter.unusedSimpArgs false
namespace Go.Proofs.YtapjobndmmkanaaGreat
open Go.Proofs.Tryz
open Go Go.RowKit
section
section
variable {au:List (List Int)} {v0:List Bool} {m:Nat} {gs fH:Gs} {x y z:Int}
def mj(a b c:Bool):Bool:=a&&b||a&&c||b&&c
end
section
variable {au:List (List Int)} {v0:List Bool} {m:Nat} {gs:Gs}
end
end
section
section
variable {au:List (List Int)} {v0:List Bool} {m:Nat}
end
set_option maxRecDepth 100000
set_option maxHeartbeats 4000000
end
def nI(l:List Nat):D:=.fs (l.map fun n:Nat=>iD n) l.length
structure SM where
 pre:D
 w:Nat
 post:List D
 deriving Inhabited
def Aq(m:SM):List D:=m.pre::iD m.w::(m.post++List.replicate 25 nS).take 25
theorem Wq(m:SM):(Aq m).length=27:=by simp[Aq]
theorem yjy{l:List SM}{k:Nat}(h:k<l.length):(l.flatMap Aq)[k*27+1]? =some (iD (nth l k).w):=(uc (j:=1) Wq h (by omega)).trans rfl
theorem j7{l:List SM}:(l.flatMap Aq).length=l.length*27:=o9 Wq l
structure Sc where
 aC:List Nat
 ag:List Nat
 au:List SM
 q:Bool
def dk(s:Sc):List AV:=[.d (nI s.aC),.d (nI s.ag),.os 27 0 0 s.au.length,.d (oD s.q)]
def dZ(s:Sc):bB:=.cells (ak (s.au.flatMap Aq))
structure pC (C:Ct) (s:Sc):Prop where
 r:C.aC=s.aC
 t:s.q=true→C.ag=s.ag
 m:C.au.map (·.2)=s.au.map (·.w)
 rl:s.aC.length≤100
 tl:s.ag.length≤100
 ml:s.au.length≤8
def sW:Ex→List D
 | .gQ i=>[iD 16,nS,iD i,nS,iD 0,nS,.val (.slice none 0 0)]
 | .fo i=>[iD 18,nS,iD i,nS,iD 0,nS,.val (.slice none 0 0)]
 |e=>bR e
theorem Ow(e:Ex):(sW e).length=7:=by cases e<;>rfl
theorem vc{l:List Ex}:(l.flatMap sW).length=l.length*7:=o9 Ow l
structure Fit (C:Ct) (q:Bool) (w n:Nat) (e:Ex):Prop where
 t:WT C q e
 w:bV C e=w
 n:cf C e≤n
theorem jcw{C:Ct}{q:Bool}{w n:Nat}{l:List Ex}{e:Ex}(h:∀x∈l,Fit C q w n x)(he:Fit C q w n e):∀x∈l++[e],Fit C q w n x:=fun x hx=>by
 rcases p6.1 hx with hx|hx
 ·exact h x hx
 ·rw[rN.1 hx];exact he
def LvK(C:Ct)(s:Sc)(w:Nat)(x:AV)(S':av):Prop:=∃l:List Ex,l.length≤200∧(∀e∈l,Fit C s.q w 0 e)∧x= .d (.fs (l.flatMap sW) l.length)∧S'=[dZ s]
theorem ff{p:Nat→Bool}{s:Sc}:(dZ s).allI p=true:=bn
theorem gP{keep:List Nat}{s:Sc}:zy keep (dZ s)=dZ s:=by unfold dZ;rw[Ol,Ma]
theorem gO{id:Nat}{l:List D}{s:Sc}:zz id l (dZ s)=dZ s:=by unfold dZ;rw[Oj,L9]
theorem yv{p q:Prop}(hq:q)(h:p=q:=by
 conv=>lhs;simp -dsimp -implicitDefEqProofs (disch:=first|assumption|omega|(simp only[aH,j7,vc]<;>omega)|decide) only[aN,↓reduceIte,Nat.reduceEqDiff,Nat.reduceAdd,D.fix,Int.reduceToNat,Nat.reduceMul,Nat.reduceBNe,Nat.reduceBEq,dk,nI,gP,gO,bw]):p:=h.mpr hq
theorem Kk{p q:Prop}(hq:q)(h:p=q:=by
 conv=>lhs;simp -dsimp -implicitDefEqProofs (disch:=first|assumption|omega|(simp only[aH,j7,vc]<;>omega)|decide) only[aN,↓reduceIte,Nat.reduceEqDiff,Nat.reduceAdd,D.fix,Int.reduceToNat,Nat.reduceMul,Nat.reduceBNe,Nat.reduceBEq,dk,nI,gP,gO]):p:=h.mpr hq
theorem yT(k:List Nat){m:List Nat}{τ τ1:Fr}{H H1:av}(h:Rt m (fun t=>du k (τ t)) (dg k H) τ1 H1)(a:∀i∈m,k[i]? =some i:=by decide)(b:k.Nodup:=by decide)(c:∀i∈k,i<H.length:=by
 simp[eJ,dg]):Rt m τ H τ1 H1:=Rt.trans (Rt.gc a b c) h
theorem vo{m:List Nat}{τ τ':Fr}{H H':av}(h2:H=H')(h:fw τ τ':=by
 repeat (first|exact cw _|refine cg ?_ (by first|rfl|(simp[aX,j7,vc];done)|simp[aX,j7,vc, *]))):Rt m τ H τ' H':=Rt.end h h2
theorem Yd{p q:Prop}(hq:q)(h:p=q:=by
 conv=>lhs;simp -dsimp -implicitDefEqProofs (disch:=first|assumption|omega|(simp only[aH,j7,vc]<;>omega)|decide) only[aN,↓reduceIte,Nat.reduceEqDiff,Nat.reduceAdd,D.fix,Int.reduceToNat,Nat.reduceMul,Nat.reduceBNe,Nat.reduceBEq,dk,nI,gP,gO,db,bw]):p:=h.mpr hq
theorem Yc{p q r:Prop}(e:r)(hq:q)(h:r→p=q:=by
 intro hY
 conv=>lhs;simp -dsimp -implicitDefEqProofs (disch:=first|assumption|omega|(simp only[aH,j7,vc]<;>omega)|decide) only[aN,↓reduceIte,Nat.reduceEqDiff,Nat.reduceAdd,D.fix,Int.reduceToNat,Nat.reduceMul,Nat.reduceBNe,Nat.reduceBEq,dk,nI,gP,gO,bw,hY]):p:=(h e).mpr hq
theorem DF{p:Prop}(h:p:=by
 first|rfl|(simp only[cP,Nat.reduceAdd,↓reduceIte,Nat.reduceEqDiff,dk,nI,gP,gO];first|done|rfl)):p:=h
theorem jlu(C:Ct)(s:Sc)(w:Nat)(hs:pC C s)(hw:w≤100):cY prog [0] 168 [.agg (dk s),.d (iD w)] ([dZ s]) (LvK C s w):=by
 refine fX (fn:=f168) (by kernel_rfl) func168 rfl (cn rfl) fun c hc hp=>?_
 refine pX ?_
 have p7:=hs.rl
 have vt:=hs.tl
 refine ah (yv ·) ?_
 refine ah (yv ·) ?_
 refine aD fun K3 cm=>?_
 refine ah (Kk ·) ?_
 refine aW ?_
 refine cU hp (fun τ' H' mm=>∃(i:Nat) (l:List Ex),(i≤s.aC.length∧l.length≤i∧∀e∈l,Fit C s.q w 0 e)∧mm=s.aC.length - i∧H'=[dZ s,.cells (dk s),.cells (ak (l.flatMap sW))]∧τ'=aF [(1,.d (iD w)),(2,.op 1 0),(5,.os 7 2 0 l.length),(6,.d (iD i))]) (s.aC.length) ?_ ⟨0,[],⟨cF _,cF _,fun e he=>by cases he⟩,rfl,rfl,rfl⟩ ?_
 ·refine yT [0,1,2] ?_
  refine vo ?_
  exact DF
 rintro τ' H' mm ⟨i,l,⟨hi,ke,hl⟩,rfl,rfl,rfl⟩
 refine aD fun K5 dx=>?_
 refine ah (yv ·) ?_
 refine bf rfl (fun ht=>?_) (fun ht=>?_)
 ·have aA:i<s.aC.length:=by simp at ht;omega
  refine bg (dx _ _ ?_)
  refine aD fun K7 cL=>?_
  refine aW ?_
  refine ah (Yd ·) ?_
  refine bf rfl (fun ht=>?_) (fun ht=>?_)
  ·have Pk:nth s.aC i=w:=by simp at ht;omega
   refine fj (yv ·) (cL _ _ ?_)
   refine bT hp ax hc rfl fun j4 bW=>?_
   refine yv ?_
   refine bW _ _ ⟨_,_,_,?_,⟨i+1,l++[.gQ i],⟨by omega,by simp;omega,jcw hl ⟨by show i<C.aC.length;rw[hs.r];exact aA,by show nth C.aC i=w;rw[hs.r,Pk],bJ _⟩⟩,rfl,rfl,rfl⟩,?_⟩
   ·first|omega|(simp only[List.length_cons];omega)|(dsimp only;omega)
   ·refine yT [0,1,4] ?_
    refine vo ?_
    simp only[cP,Nat.reduceAdd,↓reduceIte,Nat.reduceEqDiff,dk,nI,gP,gO];simp[sW,iD,nS,oD]
  ·refine bg (cL _ _ ?_)
   refine bT hp ax hc rfl fun mh cQ=>?_
   refine yv ?_
   refine cQ _ _ ⟨_,_,_,?_,⟨i+1,l,⟨by omega,by omega,hl⟩,rfl,rfl,rfl⟩,?_⟩
   ·first|omega|(simp only[List.length_cons];omega)|(dsimp only;omega)
   ·refine vo ?_
    exact DF
 ·have kF:i=s.aC.length:=by simp at ht;omega
  subst kF
  refine cJ (cm _ _ ?_)
  refine aD fun lK bN=>?_
  refine ah (Kk ·) ?_
  refine aW ?_
  refine cU hp (fun τ' H' mm=>∃(i:Nat) (l:List Ex),(i≤s.ag.length∧l.length≤100+i∧∀e∈l,Fit C s.q w 0 e)∧mm=s.ag.length - i∧H'=[dZ s,.cells (dk s),.cells (ak (l.flatMap sW))]∧τ'=aF [(1,.d (iD w)),(2,.op 1 0),(5,.os 7 2 0 l.length),(7,.d (iD i))]) (s.ag.length) ?_ ⟨0,l,⟨cF _,by omega,hl⟩,rfl,rfl,rfl⟩ ?_
  ·refine vo ?_
   exact DF
  rintro τ' H' mm ⟨i,l,⟨hi,hll2,x8⟩,rfl,rfl,rfl⟩
  refine aD fun re dT=>?_
  refine aZ hp ax hc rfl fun sY eG=>?_
  by_cases q:i<s.ag.length
  ·have q1:decide ((i:Int)<s.ag.length)=true:=decide_eq_true (by omega)
   refine Yc q1 ?_
   refine eG _ _ ?_
   refine bf rfl (fun ht=>?_) (fun ht=>?_)
   ·have hq:s.q=true:=ht
    refine bg (dT _ _ ?_)
    refine aD fun pE dB=>?_
    refine aW ?_
    refine ah (Yd ·) ?_
    refine bf rfl (fun ht=>?_) (fun ht=>?_)
    ·have Pk:nth s.ag i=w:=by simp at ht;omega
     refine fj (yv ·) (dB _ _ ?_)
     refine bT hp ax hc rfl fun rY eN=>?_
     refine yv ?_
     refine eN _ _ ⟨_,_,_,?_,⟨i+1,l++[.fo i],⟨by omega,by simp;omega,jcw x8 ⟨(show WT C s.q (.fo i) from⟨hq,by rw[hs.t hq];exact q⟩),by show nth C.ag i=w;rw[hs.t hq,Pk],bJ _⟩⟩,rfl,rfl,rfl⟩,?_⟩
     ·first|omega|(simp only[List.length_cons];omega)|(dsimp only;omega)
     ·refine yT [0,1,4] ?_
      refine vo ?_
      simp only[cP,Nat.reduceAdd,↓reduceIte,Nat.reduceEqDiff,dk,nI,gP,gO];simp[sW,iD,nS,oD]
    ·refine bg (dB _ _ ?_)
     refine bT hp ax hc rfl fun sX fa=>?_
     refine yv ?_
     refine fa _ _ ⟨_,_,_,?_,⟨i+1,l,⟨by omega,by omega,x8⟩,rfl,rfl,rfl⟩,?_⟩
     ·first|omega|(simp only[List.length_cons];omega)|(dsimp only;omega)
     ·refine vo ?_
      exact DF
   ·refine cJ (bN _ _ ?_)
    refine ah (Kk ·) ?_
    refine bC hp (τ':=aF [(4,.d (.fs (l.flatMap sW) l.length))]) (H':=[dZ s]) ?_ ?_
    ·refine Rt.trans (Rt.fz (id:=2) (l:=(l.flatMap sW)) rfl) ?_
     refine Rt.trans (Rt.slot 4 (mU (fE (by rw[vc])))) ?_
     refine yT [0] ?_
     refine vo ?_
     exact DF
    refine aM ?_
    refine dJ (t:=4) rfl ?_
    show ∃_,_
    exact⟨l,by omega,x8,rfl,rfl⟩
  ·have q1:decide ((i:Int)<s.ag.length)=false:=decide_eq_false (by omega)
   refine Yc q1 ?_
   refine eG _ _ ?_
   refine bA ?_
   refine cJ (bN _ _ ?_)
   refine ah (Kk ·) ?_
   refine bC hp (τ':=aF [(4,.d (.fs (l.flatMap sW) l.length))]) (H':=[dZ s]) ?_ ?_
   ·refine Rt.trans (Rt.fz (id:=2) (l:=(l.flatMap sW)) rfl) ?_
    refine Rt.trans (Rt.slot 4 (mU (fE (by rw[vc])))) ?_
    refine yT [0] ?_
    refine vo ?_
    exact DF
   refine aM ?_
   refine dJ (t:=4) rfl ?_
   show ∃_,_
   exact⟨l,by omega,x8,rfl,rfl⟩
theorem jhx(e:Ex):(∃o k w,sW e=[iD o,nS,iD k,nS,iD w,nS,.val (.slice none 0 0)]∧bR e=[iD o,nS,iD k,nS,iD w,nS,.fs [] 0])∨∃o k w cs n,sW e=[iD o,nS,iD k,nS,iD w,nS,.fs cs n]∧bR e=[iD o,nS,iD k,nS,iD w,nS,.fs cs n]:=by
 cases e<;>first|exact .inl ⟨_,_,_,rfl,rfl⟩|exact .inr ⟨_,_,_,_,_,rfl,rfl⟩
theorem jr4{l:List Ex}{k:Nat}(h:k<l.length):ec (l.flatMap sW) (k*7) 7=some (sW (nth l k)):=Ai Ow h
def Ig(e:Ex):List AV:=(bR e).map .d
def LfK(C:Ct)(s:Sc)(w:Nat)(x:AV)(S':av):Prop:=∃e:Ex,Fit C s.q w 0 e∧x= .agg (Ig e)∧∃j,S'=[dZ s,.cells j]
theorem Ov{p q:Prop}(hq:q)(h:p=q:=by
 conv=>lhs;simp -dsimp -implicitDefEqProofs (disch:=first|assumption|omega|(simp only[aH,j7,vc]<;>omega)|decide) only[aN,↓reduceIte,Nat.reduceEqDiff,Nat.reduceAdd,D.fix,Int.reduceToNat,Nat.reduceMul,Nat.reduceBNe,Nat.reduceBEq,dk,nI,cv,gP,gO,bw]):p:=h.mpr hq
theorem Ee{p q r:Prop}(e:r)(hq:q)(h:r→p=q:=by
 intro hY
 conv=>lhs;simp -dsimp -implicitDefEqProofs (disch:=first|assumption|omega|(simp only[aH,j7,vc]<;>omega)|decide) only[aN,↓reduceIte,Nat.reduceEqDiff,Nat.reduceAdd,D.fix,Int.reduceToNat,Nat.reduceMul,Nat.reduceBNe,Nat.reduceBEq,dk,nI,cv,gP,gO,bw,hY]):p:=(h e).mpr hq
theorem Kj{p q:Prop}(hq:q)(h:p=q:=by
 conv=>lhs;simp -dsimp -implicitDefEqProofs (disch:=first|assumption|omega|(simp only[aH,j7,vc]<;>omega)|decide) only[aN,↓reduceIte,Nat.reduceEqDiff,Nat.reduceAdd,D.fix,Int.reduceToNat,Nat.reduceMul,Nat.reduceBNe,Nat.reduceBEq,dk,nI,cv,gP,gO,I9,I8]):p:=h.mpr hq
theorem Yb{p q r:Prop}(e:r)(hq:q)(h:r→p=q:=by
 intro hY
 conv=>lhs;simp -dsimp -implicitDefEqProofs (disch:=first|assumption|omega|(simp only[aH,j7,vc]<;>omega)|decide) only[aN,↓reduceIte,Nat.reduceEqDiff,Nat.reduceAdd,D.fix,Int.reduceToNat,Nat.reduceMul,Nat.reduceBNe,Nat.reduceBEq,dk,nI,cv,gP,gO,jr4,Ow,bw,hY]):p:=(h e).mpr hq
theorem JW{p:Prop}(h:p:=by
 first|rfl|(simp only[cP,Nat.reduceAdd,↓reduceIte,Nat.reduceEqDiff,dk,nI,cv,gP,gO];first|done|rfl)):p:=h
theorem Z8(C:Ct)(s:Sc)(w b:Nat)(hs:pC C s)(rQ:1≤w)(hw:w≤8)(hb:b<1000):cY prog [0] 112 [.agg (dk s),.d (iD w),.d (iD b)] ([dZ s,.free]) (LfK C s w):=by
 refine fX (fn:=f112) (by kernel_rfl) func112 rfl (cn rfl) fun c hc hp=>?_
 refine tr ?_
 have Ez:(b:Int) / 4=((b / 4:Nat):Int):=by omega
 have Ey:=Ye (b / 4) w (by omega) hw
 unfold bR at Ey
 refine ah (Ov ·) ?_
 refine aZ hp ax hc rfl fun K2 bS=>?_
 refine Ov ?_
 refine rH (S:=[dZ s]) (T:=[.free,.cells (dk s),.cells [.d (iD 0),.d nS,.d (iD 0),.d nS,.d (iD 0),.d nS,.d (.val (.slice none 0 0))]]) (jlu C s w hs (by omega)) rfl (by first|rfl|(simp[AV.aj,AV.allI,bo,bq,bp,aL,aO,bn,br,ff,dk];done)|(intro o ho;simp at ho;done)) (fun t=>fL (by first|rfl|(simp[AV.aj,AV.allI,bo,bq,bp,aL,aO,bn,br,ff,dk];done)|(intro o ho;simp at ho;done)) t) (by first|rfl|(simp[AV.aj,AV.allI,bo,bq,bp,aL,aO,bn,br,ff,dk];done)|(intro o ho;simp at ho;done)) (by first|rfl|(simp[AV.aj,AV.allI,bo,bq,bp,aL,aO,bn,br,ff,dk];done)|(intro o ho;simp at ho;done)) (by first|rfl|(simp[AV.aj,AV.allI,bo,bq,bp,aL,aO,bn,br,ff,dk];done)|(intro o ho;simp at ho;done)) ?_
 rintro _ _ ⟨l,ke,hl,rfl,rfl⟩
 refine⟨rfl,?_⟩
 refine Ov ?_
 refine bS _ _ ?_
 refine aD fun K3 cm=>?_
 refine aZ hp ax hc rfl fun K4 dE=>?_
 rcases Nat.eq_zero_or_pos l.length with q|q
 ·have q1:((l.length:Int)==0)=true:=by simp[q]
  refine Ee q1 ?_
  refine dE _ _ ?_
  refine dh ?_
  refine aZ hp ax hc rfl fun K5 dx=>?_
  refine Ee Ez ?_
  refine bx (Ey) rfl ?_
  refine Ee Ez ?_
  refine dx _ _ ?_
  refine bC hp (τ':=aF [(6,.op 1 0)]) (H':=[dZ s,.cells ((cv 1 ((b / 4 % 2^w:Nat):Int) w [] 0).map .d)]) ?_ ?_
  ·refine yT [0,3] ?_
   refine vo ?_
   exact JW
  refine aM ?_
  try dsimp only[cC,cI]
  refine cS rfl ?_
  refine Kj ?_
  show ∃_,_
  exact⟨.ny (b / 4 % 2^w) w,⟨⟨rQ,hw,Yf⟩,rfl,bJ _⟩,rfl,_,rfl⟩
 ·have q1:((l.length:Int)==0)=false:=by rw[beq_eq_false_iff_ne];omega
  refine Ee q1 ?_
  refine dE _ _ ?_
  refine bf rfl (fun ht=>?_) (fun ht=>?_)
  ·refine aZ hp ax hc rfl fun K6 cK=>?_
   refine Ee Ez ?_
   refine bx (Ey) rfl ?_
   refine Ee Ez ?_
   refine cK _ _ ?_
   refine bC hp (τ':=aF [(6,.op 1 0)]) (H':=[dZ s,.cells ((cv 1 ((b / 4 % 2^w:Nat):Int) w [] 0).map .d)]) ?_ ?_
   ·refine yT [0,3] ?_
    refine vo ?_
    exact JW
   refine aM ?_
   try dsimp only[cC,cI]
   refine cS rfl ?_
   refine Kj ?_
   show ∃_,_
   exact⟨.ny (b / 4 % 2^w) w,⟨⟨rQ,hw,Yf⟩,rfl,bJ _⟩,rfl,_,rfl⟩
  ·refine bg (cm _ _ ?_)
   obtain⟨j,hj⟩:∃j:Nat,j=b / 4 % l.length:=⟨_,rfl⟩
   have oQ:j<l.length:=by rw[hj];exact Nat.mod_lt _ q
   have mK:((b / 4:Nat):Int) % (l.length:Int)=(j:Int):=by rw[hj];exact(Int.natCast_emod _ _).symm
   refine aZ hp ax hc rfl fun K7 cL=>?_
   rcases jhx (nth l j)with⟨xo,xk,xw,hex,Cv⟩|⟨xo,xk,xw,xc,xn,hex,Cv⟩
   ·refine Yb (aw Ez (aw mK hex)) ?_
    refine cL _ _ ?_
    refine bC hp (τ':=aF [(6,.op 1 0)]) (H':=[dZ s,.cells [.d (iD xo),.d nS,.d (iD xk),.d nS,.d (iD xw),.d nS,.d (.fs [] 0)]]) ?_ ?_
    ·refine Rt.trans (Rt.px 3 6 rfl rfl) ?_
     refine yT [0,3] ?_
     refine vo ?_
     exact JW
    refine aM ?_
    try dsimp only[cC,cI]
    refine cS rfl ?_
    refine Kj ?_
    show ∃_,_
    exact⟨nth l j,hl _ (ll oQ),by unfold Ig;rw[Cv];rfl,_,rfl⟩
   ·refine Yb (aw Ez (aw mK hex)) ?_
    refine cL _ _ ?_
    refine bC hp (τ':=aF [(6,.op 1 0)]) (H':=[dZ s,.cells [.d (iD xo),.d nS,.d (iD xk),.d nS,.d (iD xw),.d nS,.d (.fs xc xn)]]) ?_ ?_
    ·refine yT [0,3] ?_
     refine vo ?_
     exact JW
    refine aM ?_
    try dsimp only[cC,cI]
    refine cS rfl ?_
    refine Kj ?_
    show ∃_,_
    exact⟨nth l j,hl _ (ll oQ),by unfold Ig;rw[Cv];rfl,_,rfl⟩
end Go.Proofs.YtapjobndmmkanaaGreat
