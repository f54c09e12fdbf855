/- The reference's simulation of nets: bits, sets, words. -/
import Derived.Test.YtapjobndmmkanaaGreatPm
import Derived.Test.YtapjobndmmkanaaGreatQr
import Derived.Test.YtapjobndmmkanaaGreatOk
set_option linter.unusedVariables false
set_option linter.unusedSimpArgs false
namespace Go.Proofs.YtapjobndmmkanaaGreat
open Go.Proofs.Tryz
open Go Go.RowKit
set_option maxRecDepth 100000
set_option maxHeartbeats 4000000
theorem jl6(a b c:Bool):cC prog 80 [oD a,oD b,oD c] (.d (iD (yL a b c))):=by
 cases a<;>cases b<;>cases c<;>exact ub (n:=60) mixed ax (by kernel_rfl)
theorem O2{p q:Prop}(hq:q)(h:p=q:=by
 conv=>lhs;simp -dsimp -implicitDefEqProofs (disch:=first|assumption|omega|(simp only[aK]<;>omega)|decide) only[aP,↓reduceIte,Nat.reduceEqDiff,Nat.reduceAdd,D.fix,Int.reduceToNat,Nat.reduceMul,Nat.reduceBNe,Nat.reduceBEq,ai]):p:=h.mpr hq
theorem Lb{p q r:Prop}(e:r)(hq:q)(h:r→p=q:=by
 intro hY
 conv=>lhs;simp -dsimp -implicitDefEqProofs (disch:=first|assumption|omega|(simp only[aK]<;>omega)|decide) only[aP,↓reduceIte,Nat.reduceEqDiff,Nat.reduceAdd,D.fix,Int.reduceToNat,Nat.reduceMul,Nat.reduceBNe,Nat.reduceBEq,ai,dm,bw,hY]):p:=(h e).mpr hq
theorem NL{p q:Prop}(hq:q)(h:p=q:=by
 conv=>lhs;simp (disch:=first|assumption|omega|(simp only[aK]<;>omega)|decide) only[gF,Nat.reduceAdd,D.fix,↓reduceIte,Nat.reduceEqDiff,ai]):p:=h.mpr hq
theorem jw5(mems:List (List Int))(n x:Int)(hn:0≤n)(db:n<1000000)(hx:0≤x):cC prog 79 [ai mems,iD n,iD x] (.d (oD (yZ mems n x))):=by
 have hu:IntKind.u64.wrap (n % 8)=n % 8:=An (by omega) (by omega)
 refine ez (fn:=f79) (by kernel_rfl) func79 rfl (bN rfl) fun c hc hp=>?_
 refine dG (τ':=aG [(0,.d (ai mems)),(1,.d (iD n)),(2,.d (iD x))]) (by repeat (first|exact bT _|refine bM ?_ (by first|rfl|(simp[aR];done)|simp[aR, *]))) ?_
 refine aj (O2 ·) ?_
 refine aH fun K2 bG=>?_
 refine bC hp ax hc rfl fun K3 bS=>?_
 by_cases h1:n / 8<mems.length
 by_cases h2:x<(nth mems (n / 8).toNat).length
 ·have q1:decide ((mems.length:Int)≤n / 8)=false:=by simp;omega
  have q2:decide (((nth mems (n / 8).toNat).length:Int)≤x)=false:=by simp;omega
  refine Lb (aL q1 q2) ?_
  refine bS _ _ ?_
  refine eC ?_
  refine bB (bG _ _ ?_)
  refine aj (Lb hu ·) ?_
  refine bh ?_
  show aC _ _=_
  refine NL ?_
  simp[yZ,h1,h2,A7]
 ·have q1:decide ((mems.length:Int)≤n / 8)=false:=by simp;omega
  have q2:decide (((nth mems (n / 8).toNat).length:Int)≤x)=true:=by simp;omega
  refine Lb (aL q1 q2) ?_
  refine bS _ _ ?_
  refine jW ?_
  refine aj (O2 ·) ?_
  refine bh ?_
  show aC _ _=_
  refine NL ?_
  simp[yZ,h1,h2]
 ·have q1:decide ((mems.length:Int)≤n / 8)=true:=by simp;omega
  have h2:=h1
  have q2:=q1
  refine Lb (aL q1 q2) ?_
  refine bS _ _ ?_
  refine jW ?_
  refine aj (O2 ·) ?_
  refine bh ?_
  show aC _ _=_
  refine NL ?_
  simp[yZ,h1]
theorem mM{p q:Prop}(hq:q)(h:p=q:=by
 conv=>lhs;simp -dsimp -implicitDefEqProofs (disch:=first|assumption|omega|(simp only[aK,bx,aT,sL]<;>omega)|decide) only[aP,↓reduceIte,Nat.reduceEqDiff,Nat.reduceAdd,D.fix,Int.reduceToNat,Nat.reduceMul,Nat.reduceBNe,Nat.reduceBEq,eF,eZ,cH,jf,AG,vR,qK,bE,bw]):p:=h.mpr hq
theorem sy{p q:Prop}(hq:q)(h:p=q:=by
 conv=>lhs;simp -dsimp -implicitDefEqProofs (disch:=first|assumption|omega|(simp only[aK,bx,aT,sL]<;>omega)|decide) only[aP,↓reduceIte,Nat.reduceEqDiff,Nat.reduceAdd,D.fix,Int.reduceToNat,Nat.reduceMul,Nat.reduceBNe,Nat.reduceBEq,eF,eZ,cH,jf,AG,vR,qK,bE]):p:=h.mpr hq
theorem nW(k:List Nat){m:List Nat}{τ τ1:Fr}{H H1:ak}(h:Rt m (fun t=>c7 k (τ t)) (dg k H) τ1 H1)(a:∀i∈m,k[i]? =some i:=by decide)(b:k.Nodup:=by decide)(c:∀i∈k,i<H.length:=by
 simp[eS,dg]):Rt m τ H τ1 H1:=Rt.trans (Rt.gc a b c) h
theorem nV{m:List Nat}{τ τ':Fr}{H H':ak}(h2:H=H')(h:fm τ τ':=by
 repeat (first|exact bT _|refine bM ?_ (by first|rfl|(simp[aR,bx,aT,sL];done)|simp[aR,bx,aT,sL, *]))):Rt m τ H τ' H':=Rt.end h h2
theorem WA{p q:Prop}(hq:q)(h:p=q:=by
 conv=>lhs;simp only[cD,Nat.reduceAdd,↓reduceIte,Nat.reduceEqDiff,eF,eZ,cH,jf,AG,vR,qK,bE]):p:=h.mpr hq
theorem o8{p:Prop}(h:p:=by
 first|rfl|(simp only[cD,Nat.reduceAdd,↓reduceIte,Nat.reduceEqDiff,eF,eZ,cH,jf,AG,vR,qK,bE];first|done|rfl)):p:=h
theorem jl7(n:Net)(bL:List Bool)(mems:List (List Int))(hg:FL (2+bL.length) n.aO)(h1:bL.length≤1000000)(h2:n.aO.length≤1000000):cC prog 23 [eF n,bn bL,ai mems] (.d (bn (BT n.aO bL mems))):=by
 refine ez (fn:=f23) (by kernel_rfl) func23 rfl (bN rfl) fun c hc hp=>?_
 refine dG (τ':=aG [(0,.d (eF n)),(1,.d (bn bL)),(2,.d (ai mems))]) (by repeat (first|exact bT _|refine bM ?_ (by first|rfl|(simp[aR,bx,aT,sL];done)|simp[aR,bx,aT,sL, *]))) ?_
 refine aj (mM ·) ?_
 refine aj (mM ·) ?_
 refine aH fun K3 bS=>?_
 refine aj (sy ·) ?_
 refine aW ?_
 refine c9 hp (fun τ' H' mm=>∃(k:Nat),(k≤n.aO.length)∧mm=n.aO.length - k∧H'=[.cells (au (eZ n)),.cells (au ((jo mems (false::true::bL) (n.aO.take k)).map oD))]∧τ'=aG [(2,.d (ai mems)),(3,.op 0 0),(7,.os 1 1 0 (2+bL.length+k)),(8,.d (iD k))]) (n.aO.length) ?_ ⟨0,cy _,rfl,rfl,rfl⟩ ?_
 ·refine nW [0,2] ?_
  refine nV ?_
  refine WA ?_;simp[jo,oD];rfl
 rintro τ' H' mm ⟨k,hk,rfl,rfl,rfl⟩
 refine aH fun K5 fA=>?_
 refine aj (mM ·) ?_
 refine aX rfl (fun ht=>?_) (fun ht=>?_)
 ·have aA:k<n.aO.length:=by simp at ht;omega
  have ok:=hg k aA
  obtain⟨o1,o2,a0,a1,b0,b1,c0,c1,n0,n1⟩:=ok
  have hl:(jo mems (false::true::bL) (n.aO.take k)).length=2+bL.length+k:=by rw[sL];simp;omega
  refine bB (fA _ _ ?_)
  refine aH fun K7 de=>?_
  refine aW ?_
  refine aj (mM ·) ?_
  refine eN ax hc mixed rfl (q:=0) (by kernel_rfl) (by kernel_rfl) fun K9 cJ=>?_
  simp -dsimp -implicitDefEqProofs (disch:=first|assumption|omega|(simp only[aK,bx,aT,sL]<;>omega)|decide) only[aP,↓reduceIte,Nat.reduceEqDiff,Nat.reduceAdd,D.fix,Int.reduceToNat,Nat.reduceMul,Nat.reduceBNe,Nat.reduceBEq,eF,eZ,cH,jf,AG,vR,qK,bE,dm,bw]
  obtain⟨x,hx⟩:∃x,x=nth (jo mems (false::true::bL) (n.aO.take k)) (nth n.aO k).a.toNat:=⟨_,rfl⟩
  obtain⟨y,hy⟩:∃y,y=nth (jo mems (false::true::bL) (n.aO.take k)) (nth n.aO k).b.toNat:=⟨_,rfl⟩
  obtain⟨z,hz⟩:∃z,z=nth (jo mems (false::true::bL) (n.aO.take k)) (nth n.aO k).c.toNat:=⟨_,rfl⟩
  have iC:rm mems (jo mems (false::true::bL) (n.aO.take k)) (nth n.aO k)=if(nth n.aO k).op=7 then yZ mems (nth n.aO k).n (yL x y z)else if(nth n.aO k).op=1 then !x else if(nth n.aO k).op=2 then x&&y else if(nth n.aO k).op=3 then x||y else if(nth n.aO k).op=4 then x !=y else if(nth n.aO k).op=5 then(if x then y else z)else x&&(y||z)||y&&z:=by rw[hx,hy,hz];rfl
  rw[←hx,←hy,←hz]
  obtain⟨w0,LV⟩:∃w0,w0=rm mems (jo mems (false::true::bL) (n.aO.take k)) (nth n.aO k):=⟨_,rfl⟩
  rw[←LV]at iC
  replace LV:=LV.symm
  clear hx hy hz
  refine cJ _ _ ?_
  refine aj (sy ·) ?_
  refine aH fun lz cm=>?_
  have fQ:∀τ' H',(∃τ1 H1,H1=[.cells (au (eZ n)),.cells (au ((jo mems (false::true::bL) (n.aO.take k)).map oD)),.cells (au (bE (nth n.aO k)))]∧τ1=aG [(2,.d (ai mems)),(3,.op 0 0),(7,.os 1 1 0 (2+bL.length+k)),(8,.d (iD k)),(13,.d (oD w0))]∧Rt [] τ' H' τ1 H1)→lz τ' H':=by
   rintro τ' H' ⟨_,_,rfl,rfl,rq⟩
   refine cm _ _ (bI hp rq ?_)
   clear rq
   refine jX (mM ·) (de _ _ ?_)
   refine bA hp ax hc rfl fun rN dQ=>?_
   refine mM ?_
   refine dQ _ _ ⟨_,_,_,?_,⟨k+1,by omega,rfl,rfl,rfl⟩,?_⟩
   ·first|omega|(simp only[List.length_cons];omega)|(dsimp only;omega)
   ·refine nW [0,4] ?_
    refine nV ?_
    refine WA ?_;simp[To _ _ aA,LV,oD]
  refine aj (mM ·) ?_
  refine aW ?_
  refine aj (mM ·) ?_
  refine aX rfl (fun ht=>?_) (fun ht=>?_)
  ·rw[show(nth n.aO k).op=1 by simpa using ht]at iC
   replace iC:w0= !x:=iC
   refine bA hp ax hc rfl fun pM df=>?_
   refine mM ?_
   refine df _ _ (fQ _ _ ⟨_,_,rfl,rfl,?_⟩)
   refine nW [0,1,2] ?_
   refine nV ?_
   exact o8
  ·have m1:(nth n.aO k).op≠1:=by simpa using ht
   refine aj (mM ·) ?_
   refine aX rfl (fun ht=>?_) (fun ht=>?_)
   ·rw[show(nth n.aO k).op=2 by simpa using ht]at iC
    replace iC:w0=(x&&y):=iC
    refine bA hp ax hc rfl fun ye fP=>?_
    cases x
    ·refine sy ?_
     refine fP _ _ (fQ _ _ ⟨_,_,rfl,rfl,?_⟩)
     refine nW [0,1,2] ?_
     refine nV ?_
     exact o8
    ·refine sy ?_
     refine fP _ _ (fQ _ _ ⟨_,_,rfl,rfl,?_⟩)
     refine nW [0,1,2] ?_
     refine nV ?_
     exact o8
   ·have m2:(nth n.aO k).op≠2:=by simpa using ht
    refine aj (mM ·) ?_
    refine aX rfl (fun ht=>?_) (fun ht=>?_)
    ·rw[show(nth n.aO k).op=3 by simpa using ht]at iC
     replace iC:w0=(x||y):=iC
     refine bA hp ax hc rfl fun uK eG=>?_
     cases x
     ·refine sy ?_
      refine eG _ _ (fQ _ _ ⟨_,_,rfl,rfl,?_⟩)
      refine nW [0,1,2] ?_
      refine nV ?_
      exact o8
     ·refine sy ?_
      refine eG _ _ (fQ _ _ ⟨_,_,rfl,rfl,?_⟩)
      refine nW [0,1,2] ?_
      refine nV ?_
      exact o8
    ·have m3:(nth n.aO k).op≠3:=by simpa using ht
     refine aj (mM ·) ?_
     refine aX rfl (fun ht=>?_) (fun ht=>?_)
     ·rw[show(nth n.aO k).op=4 by simpa using ht]at iC
      replace iC:w0=(x !=y):=iC
      refine bA hp ax hc rfl fun wS fB=>?_
      refine mM ?_
      refine fB _ _ (fQ _ _ ⟨_,_,rfl,rfl,?_⟩)
      refine nW [0,1,2] ?_
      refine nV ?_
      exact o8
     ·have m4:(nth n.aO k).op≠4:=by simpa using ht
      refine aj (mM ·) ?_
      refine aX rfl (fun ht=>?_) (fun ht=>?_)
      ·rw[show(nth n.aO k).op=5 by simpa using ht]at iC
       replace iC:w0=(if x then y else z):=iC
       refine bA hp ax hc rfl fun BL iF=>?_
       cases x<;>cases y
       ·refine mM ?_
        refine iF _ _ (fQ _ _ ⟨_,_,rfl,rfl,?_⟩)
        refine nW [0,1,2] ?_
        refine nV ?_
        exact o8
       ·refine mM ?_
        refine iF _ _ (fQ _ _ ⟨_,_,rfl,rfl,?_⟩)
        refine nW [0,1,2] ?_
        refine nV ?_
        exact o8
       ·refine mM ?_
        refine iF _ _ (fQ _ _ ⟨_,_,rfl,rfl,?_⟩)
        refine nW [0,1,2] ?_
        refine nV ?_
        exact o8
       ·refine mM ?_
        refine iF _ _ (fQ _ _ ⟨_,_,rfl,rfl,?_⟩)
        refine nW [0,1,2] ?_
        refine nV ?_
        exact o8
      ·have m5:(nth n.aO k).op≠5:=by simpa using ht
       refine aj (mM ·) ?_
       refine aX rfl (fun ht=>?_) (fun ht=>?_)
       ·rw[show(nth n.aO k).op=6 by simpa using ht]at iC
        replace iC:w0=(x&&(y||z)||y&&z):=iC
        refine bA hp ax hc rfl fun I0 iV=>?_
        cases x<;>cases y<;>cases z
        ·refine sy ?_
         refine iV _ _ (fQ _ _ ⟨_,_,rfl,rfl,?_⟩)
         refine nW [0,1,2] ?_
         refine nV ?_
         exact o8
        ·refine sy ?_
         refine iV _ _ (fQ _ _ ⟨_,_,rfl,rfl,?_⟩)
         refine nW [0,1,2] ?_
         refine nV ?_
         exact o8
        ·refine sy ?_
         refine iV _ _ (fQ _ _ ⟨_,_,rfl,rfl,?_⟩)
         refine nW [0,1,2] ?_
         refine nV ?_
         exact o8
        ·refine sy ?_
         refine iV _ _ (fQ _ _ ⟨_,_,rfl,rfl,?_⟩)
         refine nW [0,1,2] ?_
         refine nV ?_
         exact o8
        ·refine sy ?_
         refine iV _ _ (fQ _ _ ⟨_,_,rfl,rfl,?_⟩)
         refine nW [0,1,2] ?_
         refine nV ?_
         exact o8
        ·refine sy ?_
         refine iV _ _ (fQ _ _ ⟨_,_,rfl,rfl,?_⟩)
         refine nW [0,1,2] ?_
         refine nV ?_
         exact o8
        ·refine sy ?_
         refine iV _ _ (fQ _ _ ⟨_,_,rfl,rfl,?_⟩)
         refine nW [0,1,2] ?_
         refine nV ?_
         exact o8
        ·refine sy ?_
         refine iV _ _ (fQ _ _ ⟨_,_,rfl,rfl,?_⟩)
         refine nW [0,1,2] ?_
         refine nV ?_
         exact o8
       ·have m6:(nth n.aO k).op≠6:=by simpa using ht
        refine aj (mM ·) ?_
        refine aX rfl (fun ht=>?_) (fun ht=>?_)
        ·rw[show(nth n.aO k).op=7 by simpa using ht]at iC
         replace iC:w0=yZ mems (nth n.aO k).n (yL x y z):=iC
         refine uR ax hc mixed rfl (q:=0) (by kernel_rfl) (by kernel_rfl) fun Aa iU=>?_
         refine mM ?_
         refine cQ (jl6 x y z) rfl ?_
         refine mM ?_
         refine cQ (jw5 mems (nth n.aO k).n (yL x y z) n0 n1 (yby x y z).1) rfl ?_
         refine mM ?_
         refine iU _ _ (fQ _ _ ⟨_,_,rfl,rfl,?_⟩)
         refine nW [0,1,2] ?_
         refine nV ?_
         exact o8
        ·have m7:(nth n.aO k).op≠7:=by simpa using ht
         exfalso
         omega
 ·have xS:k=n.aO.length:=by simp at ht;omega
  refine cL (bS _ _ ?_)
  refine aj (sy ·) ?_
  refine bh ?_
  show aC _ _=_
  simp (disch:=first|assumption|omega|(simp only[aK,bx,aT,sL]<;>omega)|decide) only[gF,Nat.reduceAdd,D.fix,↓reduceIte,Nat.reduceEqDiff,eF,eZ,cH,jf,AG,vR,qK,bE]
  rw[xS,List.take_length];simp[BT,sL];omega
theorem Hd{p q:Prop}(hq:q)(h:p=q:=by
 conv=>lhs;simp -dsimp -implicitDefEqProofs (disch:=first|assumption|omega|(simp only[aK]<;>omega)|decide) only[aP,↓reduceIte,Nat.reduceEqDiff,Nat.reduceAdd,D.fix,Int.reduceToNat,Nat.reduceMul,Nat.reduceBNe,Nat.reduceBEq,fG,ai,dm,bw]):p:=h.mpr hq
theorem Yc{p q:Prop}(hq:q)(h:p=q:=by
 conv=>lhs;simp -dsimp -implicitDefEqProofs (disch:=first|assumption|omega|(simp only[aK]<;>omega)|decide) only[aP,↓reduceIte,Nat.reduceEqDiff,Nat.reduceAdd,D.fix,Int.reduceToNat,Nat.reduceMul,Nat.reduceBNe,Nat.reduceBEq,fG,ai,dm,bne_self_eq_false,bw]):p:=h.mpr hq
theorem Yb{p q:Prop}(hq:q)(h:p=q:=by
 conv=>lhs;simp -dsimp -implicitDefEqProofs (disch:=first|assumption|omega|(simp only[aK]<;>omega)|decide) only[aP,↓reduceIte,Nat.reduceEqDiff,Nat.reduceAdd,D.fix,Int.reduceToNat,Nat.reduceMul,Nat.reduceBNe,Nat.reduceBEq,fG,ai,dm]):p:=h.mpr hq
theorem Wz{m:List Nat}{τ τ':Fr}{H H':ak}(h2:H=H')(h:fm τ τ':=by
 repeat (first|exact bT _|refine bM ?_ (by first|rfl|(simp[aR];done)|simp[aR, *]))):Rt m τ H τ' H':=Rt.end h h2
theorem Wy{p:Prop}(h:p:=by
 first|rfl|(simp only[cD,Nat.reduceAdd,↓reduceIte,Nat.reduceEqDiff,fG,ai,dm];first|done|rfl)):p:=h
theorem yfv(s:im)(h1:s.ag.length≤1000000)(h2:s.mems.length≤1000000)(h3:∀l∈s.mems,l.length≤1000000):cC prog 84 [.agg (fG s),.agg (fG s)] (.d (oD true)):=by
 have m6:(1000000:Nat)≤maxLen:=by unfold maxLen;decide
 have hi1:=PK s.ag s.ag (by omega)
 rw[show decide (s.ag=s.ag)=true by simp]at hi1
 refine ez (fn:=f84) (by kernel_rfl) func84 rfl (bN rfl) fun c hc hp=>?_
 refine dG (τ':=aG [(0,.d (.agg (fG s))),(1,.d (.agg (fG s)))]) (by repeat (first|exact bT _|refine bM ?_ (by first|rfl|(simp[aR];done)|simp[aR, *]))) ?_
 refine aj (Hd ·) ?_
 refine aH fun K2 bG=>?_
 refine bC hp ax hc rfl fun K3 bS=>?_
 refine Yc ?_
 refine cQ (hi1) rfl ?_
 refine Yc ?_
 refine bS _ _ ?_
 refine eC ?_
 refine bB (bG _ _ ?_)
 refine aH fun K4 dD=>?_
 refine aj (Yb ·) ?_
 refine aW ?_
 refine c9 hp (fun τ' H' mm=>∃(k:Nat),(k≤s.mems.length)∧mm=s.mems.length - k∧H'=[.cells (au (fG s)),.cells (au (fG s))]∧τ'=aG [(2,.op 0 0),(3,.op 1 0),(5,.d (iD k))]) (s.mems.length) ?_ ⟨0,cy _,rfl,rfl,rfl⟩ ?_
 ·refine Wz ?_
  exact Wy
 rintro τ' H' mm ⟨k,hk,rfl,rfl,rfl⟩
 refine aH fun K6 cF=>?_
 refine aj (Hd ·) ?_
 refine aX rfl (fun ht=>?_) (fun ht=>?_)
 ·have aA:k<s.mems.length:=by simp at ht;omega
  have Ii:=PK (nth s.mems k) (nth s.mems k) (by have:=h3 _ (my aA);omega)
  rw[show decide (nth s.mems k=nth s.mems k)=true by simp]at Ii
  refine bB (cF _ _ ?_)
  refine aH fun K8 dC=>?_
  refine aW ?_
  refine eN ax hc mixed rfl (q:=0) (by kernel_rfl) (by kernel_rfl) fun K9 cJ=>?_
  refine Hd ?_
  refine cQ (Ii) rfl ?_
  refine Hd ?_
  refine cJ _ _ ?_
  refine eC ?_
  refine bB (dC _ _ ?_)
  refine bA hp ax hc rfl fun kL bU=>?_
  refine Hd ?_
  refine bU _ _ ⟨_,_,_,?_,⟨k+1,by omega,rfl,rfl,rfl⟩,?_⟩
  ·first|omega|(simp only[List.length_cons];omega)|(dsimp only;omega)
  ·refine Wz ?_
   exact Wy
 ·refine cL (dD _ _ ?_)
  refine aj (Yb ·) ?_
  refine bh ?_
  show aC _ _=_
  simp (disch:=first|assumption|omega|(simp only[aK]<;>omega)|decide) only[gF,Nat.reduceAdd,D.fix,↓reduceIte,Nat.reduceEqDiff,fG,ai,dm]
theorem G5{p q:Prop}(hq:q)(h:p=q:=by
 conv=>lhs;simp -dsimp -implicitDefEqProofs (disch:=first|assumption|omega|(simp only[aK,ft]<;>omega)|decide) only[aP,↓reduceIte,Nat.reduceEqDiff,Nat.reduceAdd,D.fix,Int.reduceToNat,Nat.reduceMul,Nat.reduceBNe,Nat.reduceBEq,jm,bn,eT,dm,iG,ri,bw]):p:=h.mpr hq
theorem O1{p q:Prop}(hq:q)(h:p=q:=by
 conv=>lhs;simp -dsimp -implicitDefEqProofs (disch:=first|assumption|omega|(simp only[aK,ft]<;>omega)|decide) only[aP,↓reduceIte,Nat.reduceEqDiff,Nat.reduceAdd,D.fix,Int.reduceToNat,Nat.reduceMul,Nat.reduceBNe,Nat.reduceBEq,jm,bn,eT,dm,iG,ri,bne_self_eq_false,bw]):p:=h.mpr hq
theorem OZ{p q:Prop}(hq:q)(h:p=q:=by
 conv=>lhs;simp -dsimp -implicitDefEqProofs (disch:=first|assumption|omega|(simp only[aK,ft]<;>omega)|decide) only[aP,↓reduceIte,Nat.reduceEqDiff,Nat.reduceAdd,D.fix,Int.reduceToNat,Nat.reduceMul,Nat.reduceBNe,Nat.reduceBEq,jm,bn,eT,dm,iG,ri]):p:=h.mpr hq
theorem J8{m:List Nat}{τ τ':Fr}{H H':ak}(h2:H=H')(h:fm τ τ':=by
 repeat (first|exact bT _|refine bM ?_ (by first|rfl|(simp[aR,ft];done)|simp[aR,ft, *]))):Rt m τ H τ' H':=Rt.end h h2
theorem J7{p:Prop}(h:p:=by
 first|rfl|(simp only[cD,Nat.reduceAdd,↓reduceIte,Nat.reduceEqDiff,jm,bn,eT,dm,iG,ri];first|done|rfl)):p:=h
theorem jw8(f:Fl)(h1:f.st.ag.length≤1000000)(h2:f.st.mems.length≤1000000)(h3:∀l∈f.st.mems,l.length≤1000000)(h4:f.ot.length≤1000000)(h5:f.ao.length≤1000000):cC prog 28 [.agg (jm f),.agg (jm f)] (.d (oD true)):=by
 have hs:=yfv f.st h1 h2 h3
 refine ez (fn:=f28) (by kernel_rfl) func28 rfl (bN rfl) fun c hc hp=>?_
 refine dG (τ':=aG [(0,.d (.agg (jm f))),(1,.d (.agg (jm f)))]) (by repeat (first|exact bT _|refine bM ?_ (by first|rfl|(simp[aR,ft];done)|simp[aR,ft, *]))) ?_
 refine aj (G5 ·) ?_
 refine aH fun K2 bG=>?_
 refine bC hp ax hc rfl fun K3 bS=>?_
 refine O1 ?_
 refine cQ (hs) rfl ?_
 refine O1 ?_
 refine bS _ _ ?_
 refine eC ?_
 refine bB (bG _ _ ?_)
 refine aH fun K4 dD=>?_
 refine aj (OZ ·) ?_
 refine aW ?_
 refine c9 hp (fun τ' H' mm=>∃(k:Nat),(k≤f.ot.length)∧mm=f.ot.length - k∧H'=[.cells (au (jm f)),.cells (au (jm f))]∧τ'=aG [(2,.op 0 0),(3,.op 1 0),(5,.d (iD k))]) (f.ot.length) ?_ ⟨0,cy _,rfl,rfl,rfl⟩ ?_
 ·refine J8 ?_
  exact J7
 rintro τ' H' mm ⟨k,hk,rfl,rfl,rfl⟩
 refine aH fun K6 cF=>?_
 refine aj (G5 ·) ?_
 refine aX rfl (fun ht=>?_) (fun ht=>?_)
 ·have aA:k<f.ot.length:=by simp at ht;omega
  refine bB (cF _ _ ?_)
  refine aH fun K8 dC=>?_
  refine aW ?_
  refine eN ax hc mixed rfl (q:=0) (by kernel_rfl) (by kernel_rfl) fun K9 cJ=>?_
  refine O1 ?_
  refine cJ _ _ ?_
  refine eC ?_
  refine bB (dC _ _ ?_)
  refine bA hp ax hc rfl fun kL bU=>?_
  refine G5 ?_
  refine bU _ _ ⟨_,_,_,?_,⟨k+1,by omega,rfl,rfl,rfl⟩,?_⟩
  ·first|omega|(simp only[List.length_cons];omega)|(dsimp only;omega)
  ·refine J8 ?_
   exact J7
 ·refine cL (dD _ _ ?_)
  refine aH fun lz cm=>?_
  refine aj (OZ ·) ?_
  refine aW ?_
  refine c9 hp (fun τ' H' mm=>∃(k:Nat),(k≤f.ao.length)∧mm=f.ao.length - k∧H'=[.cells (au (jm f)),.cells (au (jm f))]∧τ'=aG [(2,.op 0 0),(3,.op 1 0),(6,.d (iD k))]) (f.ao.length) ?_ ⟨0,cy _,rfl,rfl,rfl⟩ ?_
  ·refine J8 ?_
   exact J7
  rintro τ' H' mm ⟨k,mZ,rfl,rfl,rfl⟩
  refine aH fun rN dQ=>?_
  refine aj (G5 ·) ?_
  refine aX rfl (fun ht=>?_) (fun ht=>?_)
  ·have aA:k<f.ao.length:=by simp at ht;omega
   refine bB (dQ _ _ ?_)
   refine aH fun tG ea=>?_
   refine aW ?_
   refine eN ax hc mixed rfl (q:=0) (by kernel_rfl) (by kernel_rfl) fun pM df=>?_
   simp -dsimp -implicitDefEqProofs (disch:=first|assumption|omega|(simp only[aK,ft]<;>omega)|decide) only[aP,↓reduceIte,Nat.reduceEqDiff,Nat.reduceAdd,D.fix,Int.reduceToNat,Nat.reduceMul,Nat.reduceBNe,Nat.reduceBEq,jm,bn,eT,dm,iG,ri,jop,Fv,bne_self_eq_false,bw,Dw jsl,Dw jsl]
   refine df _ _ ?_
   refine aX rfl (fun ht=>?_) (fun ht=>?_)
   ·simp at ht
   ·refine bB (ea _ _ ?_)
    refine bA hp ax hc rfl fun tF eh=>?_
    refine G5 ?_
    refine eh _ _ ⟨_,_,_,?_,⟨k+1,by omega,rfl,rfl,rfl⟩,?_⟩
    ·first|omega|(simp only[List.length_cons];omega)|(dsimp only;omega)
    ·refine J8 ?_
     exact J7
  ·refine cL (cm _ _ ?_)
   refine aj (OZ ·) ?_
   refine bh ?_
   show aC _ _=_
   simp (disch:=first|assumption|omega|(simp only[aK,ft]<;>omega)|decide) only[gF,Nat.reduceAdd,D.fix,↓reduceIte,Nat.reduceEqDiff,jm,bn,eT,dm,iG,ri]
section
section
variable {P:Program} {fn:Func} {Q:AV→ak→Prop} {τ:Fr} {H:ak}
theorem JA(h:fn.results.toList=[])(hq:Q (.dc []) H):mQ P fn Q .normal τ H:=by
 show oG P τ H fn.results.toList _
 rw[h];exact hq
theorem jw9{c:Cx}{code:Code}{QQ:Exit→Fr→ak→Prop}{x y z u v w:AV}(h:dj P c code QQ (aG [(0,x),(1,y),(2,z),(3,u),(4,v),(5,w)]) H):dj P c code QQ (qM [x,y,z,u,v,w]) H:=dG (bM (bM (bM (bM (bM (bM (bT _) rfl) rfl) rfl) rfl) rfl) rfl) h
theorem Jt{c:Cx}{m:List Nat}{x:Code}{Q:Exit→Fr→ak→Prop}(hp:Kp c m)(h:dj P c x (fun e τ' H'=>∃τ1 H1,Rt m τ' H' τ1 H1∧Q e τ1 H1) τ H):dj P c x Q τ H:=fun a w hR=>
 wpIn_mono (h a w hR) fun _ _ _ ⟨τ',H',h1,τ1,H1,h2,h3⟩=>⟨τ1,H1,h2 _ _ _ hp h1,h3⟩
end
abbrev GH:TypeId:=188
abbrev AL:TypeId:=189
theorem Wx:AS prog KT GH=some (.int .i64 0):=by kernel_rfl
theorem J6:AS prog KT AL=some (.int .i64 0):=by kernel_rfl
theorem jt4{g:Gate}:mI (gV g)=true:=rfl
theorem jt5{g:aB}:mI (wV g)=true:=rfl
structure ic (m:Nat) (gs:Gs) (μ:Mp):Prop where
 ok:rL prog GH μ
 gt:∀g,pV (gV g) μ=if g∈gs then some (.int .i64 ((m+sv g gs:Nat):Int))else none
theorem ic.nil(m:Nat):ic m [] ([],0):=⟨rL.nil _ _,fun g=>by simp;rfl⟩
theorem ic.add{m:Nat}{gs:Gs}{μ:Mp}(h:ic m gs μ){g:Gate}(hk:pU prog GH (gV g))(hn:¬g∈gs):ic m (gs++[g]) (uq (gV g) (.int .i64 ((m+gs.length:Nat):Int)) μ):=by
 classical
 refine⟨h.ok.put hk,fun x=>?_⟩
 rw[FN jt4 jt4,h.gt x]
 by_cases e:x=g
 ·subst e;rw[if_pos rfl,if_pos (by simp),jeq hn]
 ·rw[if_neg fun e'=>e (yb3 e')]
  by_cases hx:x∈gs
  ·rw[if_pos hx,if_pos (by simp[hx]),jep hx]
  ·rw[if_neg hx,if_neg (by simp[hx,e])]
structure o7 (ins:List aB) (μ:Mp):Prop where
 ok:rL prog AL μ
 gt:∀w,pV (wV w) μ=if w∈ins then some (.int .i64 ((2+mc w ins:Nat):Int))else none
theorem o7.nil:o7 [] ([],0):=⟨rL.nil _ _,fun g=>by simp;rfl⟩
theorem je9{g:aB}:∀{l:List aB},¬g∈l→mc g (l++[g])=l.length
 |[],_=>by simp[mc]
 |x::l,h=>by
  rw[List.cons_append,mc,if_neg (fun e=>h (by simp[e])),je9 (fun h'=>h (wq _ h'))];rfl
theorem o7.add{ins:List aB}{μ:Mp}(h:o7 ins μ){w:aB}(hk:pU prog AL (wV w))(hn:¬w∈ins):o7 (ins++[w]) (uq (wV w) (.int .i64 ((2+ins.length:Nat):Int)) μ):=by
 classical
 refine⟨h.ok.put hk,fun x=>?_⟩
 rw[FN jt5 jt5,h.gt x]
 by_cases e:x=w
 ·subst e;rw[if_pos rfl,if_pos (by simp),je9 hn]
 ·rw[if_neg fun e'=>e (yb2 e')]
  by_cases hx:x∈ins
  ·rw[if_pos hx,if_pos (by simp[hx]),jes hx]
  ·rw[if_neg hx,if_neg (by simp[hx,e])]
structure R3 (g:Gate):Prop where
 o:nN g.op
 a:nN g.a
 b:nN g.b
 c:nN g.c
 n:nN g.n
theorem Ya{g:Gate}(h:R3 g):pU prog GH (gV g):=yb4 h.o h.a h.b h.c h.n
structure BE where
 p:Pr
 ins:List aB
 mi:Mp
 out:List aB
 dr:List Int
 dZ:List (List Int)
def bO(e:BE)(k:Nat):bq:=.cells [.os 3 1 0 e.ins.length,.os 5 2 0 k,.os 3 3 0 e.out.length,.os 1 4 0 e.dr.length,
 .d (sD e.p.name),.d (sD e.p.clock),.d (.fs (e.p.ag.flatMap lH) e.p.ag.length),.d (.fs (e.p.mems.flatMap oX) e.p.mems.length),.d (.fs (e.p.ae.flatMap oW) e.p.ae.length),.d (.fs (e.p.ao.flatMap sb) e.p.ao.length),.om 5,.om 6,.os 1 7 0 e.dZ.length]
def bH(e:BE)(gs:Gs)(μ:Mp):ak:=[bO e gs.length,.cells (au (e.ins.flatMap cn)),.cells (au (gs.flatMap bE)),.cells (au (e.out.flatMap cn)),.cells (au (e.dr.map iD)),mO μ,mO e.mi,.cells (au (e.dZ.map av))]
def aw(e:BE):Nat:=2+e.ins.length
def zw(e:BE)(r:Re)(x:AV)(S':ak):Prop:=∃μ,ic (aw e) r.1 μ∧x= .d (iD r.2)∧S'=bH e r.1 μ
def Gh(e:BE)(r:Gs × List Int)(x:AV)(S':ak):Prop:=∃μ,ic (aw e) r.1 μ∧x= .d (av r.2)∧S'=bH e r.1 μ
structure dx (e:BE) (gs:Gs) (μ:Mp):Prop where
 n:ic (aw e) gs μ
 g:GI (aw e) gs
 i:e.ins.length≤1000
 l:gs.length≤100000
end
theorem jmb{a b c d e:Int}:Value.agg #[.int .i64 a,.int .i64 b,.int .i64 c,.int .i64 d,.int .i64 e]=gV ⟨a,b,c,d,e⟩:=rfl
theorem X9{p q:Prop}(hq:q)(h:p=q:=by
 conv=>lhs;simp -dsimp -implicitDefEqProofs (disch:=first|assumption|omega|(simp only[aK,aT,bx]<;>omega)|decide) only[aP,↓reduceIte,Nat.reduceEqDiff,Nat.reduceAdd,D.fix,Int.reduceToNat,Nat.reduceMul,Nat.reduceBNe,Nat.reduceBEq,bR,bO,aD,bE,bw]):p:=h.mpr hq
theorem X8{p q r:Prop}(e:r)(hq:q)(h:r→p=q:=by
 intro hY
 conv=>lhs;simp -dsimp -implicitDefEqProofs (disch:=first|assumption|omega|(simp only[aK,aT,bx]<;>omega)|decide) only[aP,↓reduceIte,Nat.reduceEqDiff,Nat.reduceAdd,D.fix,Int.reduceToNat,Nat.reduceMul,Nat.reduceBNe,Nat.reduceBEq,bR,bO,aD,bE,jmb,yq,ZC Wx lZ hn.ok,Option.getD_some,Option.getD_none,Option.isSome_some,Option.isSome_none,bw,hY]):p:=(h e).mpr hq
theorem jps{p q:Prop}(hq:q)(h:p=q:=by
 conv=>lhs;simp -dsimp -implicitDefEqProofs (disch:=first|assumption|omega|(simp only[aK,aT,bx]<;>omega)|decide) only[aP,↓reduceIte,Nat.reduceEqDiff,Nat.reduceAdd,D.fix,Int.reduceToNat,Nat.reduceMul,Nat.reduceBNe,Nat.reduceBEq,bR,bO,aD,bE]):p:=h.mpr hq
theorem Ww{m:List Nat}{τ τ':Fr}{H H':ak}(h2:H=H')(h:fm τ τ':=by
 repeat (first|exact bT _|refine bM ?_ (by first|rfl|(simp[aR,aT,bx];done)|simp[aR,aT,bx, *]))):Rt m τ H τ' H':=Rt.end h h2
theorem B4(e:BE)(gs:Gs)(μ:Mp)(g:Gate)(hn:ic (aw e) gs μ)(hk:R3 g)(hi:e.ins.length≤1000)(hl:gs.length≤100000):cM prog [0,1,3,4,5,6,7] 154 [.op 0 0,.agg ((bE g).map .d)] (bH e gs μ) (zw e (gX (aw e) gs g)):=by
 refine fV (fn:=f154) (by kernel_rfl) func154 rfl (bN rfl) fun c hc hp=>?_
 refine oc ?_
 unfold bH
 have lZ:pU prog GH (gV ⟨g.op,g.a,g.b,g.c,g.n⟩):=Ya hk
 refine aj (X9 ·) ?_
 refine aH fun K2 bG=>?_
 refine eN ax hc mixed rfl (q:=0) (by kernel_rfl) (by kernel_rfl) fun K3 bS=>?_
 by_cases hg:(g∈gs)
 ·have js:pV (gV ⟨g.op,g.a,g.b,g.c,g.n⟩) μ=some (.int .i64 ((aw e+sv g gs:Nat):Int)):=by have:=hn.gt g;rw[if_pos hg]at this;exact this
  refine X8 js ?_
  refine bS _ _ ?_
  refine aj (jps ·) ?_
  refine jW ?_
  refine aj (jps ·) ?_
  refine bI hp (τ':=aG [(4,.d (iD ((aw e+sv g gs:Nat):Int)))]) (H':=bH e gs μ) ?_ ?_
  ·refine Rt.trans (Rt.gc (keep:=[0,1,2,3,4,5,6,7]) (by decide) (by decide) (by simp[eS,dg])) ?_
   refine Ww ?_
   first|rfl|(simp only[cD,Nat.reduceAdd,↓reduceIte,Nat.reduceEqDiff,bR,bO,aD,bE];first|done|rfl)
  refine bh ?_
  refine c8 (t:=4) rfl ?_
  show ∃_,_
  refine⟨μ,?_,?_,?_⟩
  ·unfold gX;rw[if_pos hg];exact hn
  ·unfold gX;rw[if_pos hg];rfl
  ·unfold gX;rw[if_pos hg]
 ·have js:pV (gV ⟨g.op,g.a,g.b,g.c,g.n⟩) μ=none:=by have:=hn.gt g;rw[if_neg hg]at this;exact this
  refine X8 js ?_
  refine bS _ _ ?_
  refine aj (jps ·) ?_
  refine eC ?_
  refine bB (bG _ _ ?_)
  refine eN ax hc mixed rfl (q:=0) (by kernel_rfl) (by kernel_rfl) fun K7 de=>?_
  refine X9 ?_
  refine de _ _ ?_
  refine jN ax hp hc mixed rfl [(0,[]),(1,[]),(2,[]),(3,[]),(4,[]),(5,[]),(6,[]),(7,[]),(8,[]),(9,[]),(10,[]),(11,[]),(12,[])] [[],[],[1],[1,2],[1,2,3],[1,2,3,4],[],[6],[1,2,3,4,5,6,7],[0,1,2,3,4,5,6,7,8],[0,1,2,3,4,5,6,7,8,9],[0,1,2,3,4,5,6,7,8,9,10],[0,1,2,3,4,5,6,7,8,9,10,11]] 1 (by kernel_rfl) fun K8 dC=>?_
  simp -dsimp -implicitDefEqProofs (disch:=first|assumption|omega|(simp only[aK,aT,bx]<;>omega)|decide) only[aP,↓reduceIte,Nat.reduceEqDiff,Nat.reduceAdd,D.fix,Int.reduceToNat,Nat.reduceMul,Nat.reduceBNe,Nat.reduceBEq,mz,bR,bO,aD,bE,bw]
  refine dC _ _ ?_
  refine jN ax hp hc mixed rfl [(0,[]),(1,[]),(2,[]),(3,[]),(4,[]),(5,[]),(6,[])] [[],[0],[0,1],[0,1,2],[],[],[0,1,2,3,4,5]] 0 (by kernel_rfl) fun K9 cJ=>?_
  simp -dsimp -implicitDefEqProofs (disch:=first|assumption|omega|(simp only[aK,aT,bx]<;>omega)|decide) only[aP,↓reduceIte,Nat.reduceEqDiff,Nat.reduceAdd,D.fix,Int.reduceToNat,Nat.reduceMul,Nat.reduceBNe,Nat.reduceBEq,mz,bR,bO,aD,bE,jmb,Hj Wx lZ hn.ok,bw]
  refine cJ _ _ ?_
  refine aj (jps ·) ?_
  refine bI hp (τ':=aG [(4,.d (iD (2+(e.ins.length:Int)+gs.length)))]) (H':=bH e (gs++[g]) (uq (gV ⟨g.op,g.a,g.b,g.c,g.n⟩) (.int .i64 (2+(e.ins.length:Int)+gs.length)) μ)) ?_ ?_
  ·refine Rt.trans (Rt.gc (keep:=[0,1,10,3,4,5,6,7]) (by decide) (by decide) (by simp[eS,dg])) ?_
   refine Ww ?_
   simp only[cD,Nat.reduceAdd,↓reduceIte,Nat.reduceEqDiff,bR,bO,aD,bE];simp[bH,bO,aD,bE,iD,au]
  refine bh ?_
  refine c8 (t:=4) rfl ?_
  show ∃_,_
  have h2:(2+(e.ins.length:Int)+gs.length)=((aw e+gs.length:Nat):Int):=by unfold aw;omega
  refine⟨uq (gV g) (.int .i64 ((aw e+gs.length:Nat):Int)) μ,?_,?_,?_⟩
  ·unfold gX;rw[if_neg hg];exact hn.add (Ya hk) hg
  ·unfold gX;rw[if_neg hg,h2];first|done|rfl
  ·unfold gX;rw[if_neg hg,h2];first|done|rfl
end Go.Proofs.YtapjobndmmkanaaGreat
