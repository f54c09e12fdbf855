/- States, heads and rooms that bytes describe; valid states. -/
import Derived.Test.YtapjobndmmkanaaGreatQr
import Derived.Test.YtapjobndmmkanaaGreatPm
import Derived.Test.YtapjobndmmkanaaGreatPh
set_option linter.unusedVariables false
set_option linter.unusedSimpArgs false
set_option maxRecDepth 100000
set_option maxHeartbeats 4000000
namespace Go.Proofs.YtapjobndmmkanaaGreat
open Go.Proofs.Tryz
open Go Go.RowKit
theorem yp2{l:List ly}{k:Nat}(h:k<l.length):(l.flatMap lH)[k*13+1]? =some (iD (nth l k).w):=(nC (j:=1) lA h (by omega)).trans rfl
abbrev LL:=List (List Int)
def ga:AV:=.d (.val (.slice none 0 0))
theorem Qj{x w:Nat}:(0:Int)≤((x % 2^w:Nat):Int)∧((x % 2^w:Nat):Int)<2^w:=Ql (Nat.mod_lt _ (Nat.two_pow_pos w))
theorem jly{l:List Int}{P:Nat→Int→Prop}{k:Nat}{x:Int}(hl:l.length=k)(h:∀j,j<k→P j (nth l j))(hx:P k x):∀j,j<k+1→P j (nth (l++[x]) j):=fun j hj=>by
 subst hl
 by_cases e:j<l.length
 ·rw[Nw e];exact h j e
 ·rw[show j=l.length by omega,JP];exact hx
theorem jwm{l:List Head}{P:Nat→Int→Prop}{k:Nat}{x:Head}(hl:l.length=k)(h:∀j,j<k→P j (nth l j).v)(hx:P k x.v):∀j,j<k+1→P j (nth (l++[x]) j).v:=fun j hj=>by
 subst hl
 by_cases e:j<l.length
 ·rw[Nw e];exact h j e
 ·rw[show j=l.length by omega,JP];exact hx
theorem sB{p q:Prop}(hq:q)(h:p=q:=by
 conv=>lhs;simp -dsimp -implicitDefEqProofs (disch:=first|assumption|omega|(simp only[aK,dK,fM]<;>omega)|decide) only[aP,↓reduceIte,Nat.reduceEqDiff,Nat.reduceAdd,D.fix,Int.reduceToNat,Nat.reduceMul,Nat.reduceBNe,Nat.reduceBEq,cv,aD,bo,ga,fG,sD,nS,bw]):p:=h.mpr hq
theorem OQ{p q:Prop}(hq:q)(h:p=q:=by
 conv=>lhs;simp -dsimp -implicitDefEqProofs (disch:=first|assumption|omega|(simp only[aK,dK,fM]<;>omega)|decide) only[aP,↓reduceIte,Nat.reduceEqDiff,Nat.reduceAdd,D.fix,Int.reduceToNat,Nat.reduceMul,Nat.reduceBNe,Nat.reduceBEq,cv,aD,bo,ga,fG,sD,nS]):p:=h.mpr hq
theorem Cu{m:List Nat}{τ τ':Fr}{H H':ak}(h2:H=H')(h:fm τ τ':=by
 repeat (first|exact bT _|refine bM ?_ (by first|rfl|(simp[aR,dK,fM];done)|simp[aR,dK,fM, *]))):Rt m τ H τ' H':=Rt.end h h2
theorem G7{p q r:Prop}(e:r)(hq:q)(h:r→p=q:=by
 intro hY
 conv=>lhs;simp -dsimp -implicitDefEqProofs (disch:=first|assumption|omega|(simp only[aK,dK,fM]<;>omega)|decide) only[aP,↓reduceIte,Nat.reduceEqDiff,Nat.reduceAdd,D.fix,Int.reduceToNat,Nat.reduceMul,Nat.reduceBNe,Nat.reduceBEq,cv,aD,bo,ga,fG,sD,nS,bw,hY]):p:=(h e).mpr hq
theorem Gm(k:List Nat){m:List Nat}{τ τ1:Fr}{H H1:ak}(h:Rt m (fun t=>c7 k (τ t)) (dg k H) τ1 H1)(a:∀i∈m,k[i]? =some i:=by decide)(b:k.Nodup:=by decide)(c:∀i∈k,i<H.length:=by
 simp[eS,dg]):Rt m τ H τ1 H1:=Rt.trans (Rt.gc a b c) h
theorem Kc{p:Prop}(h:p:=by
 first|rfl|(simp only[cD,Nat.reduceAdd,↓reduceIte,Nat.reduceEqDiff,cv,aD,bo,ga,fG,sD,nS];first|done|rfl)):p:=h
theorem N3{p q:Prop}(hq:q)(h:p=q:=by
 conv=>lhs;simp only[cD,Nat.reduceAdd,↓reduceIte,Nat.reduceEqDiff,cv,aD,bo,ga,fG,sD,nS]):p:=h.mpr hq
theorem jwp(p:Pr)(hP:fD p)(b:List Int)(hb:mR b)(hl:b.length≤maxLen):tV prog 18 [cv p,aE b] (fun r=>∃s,IS p s∧r= .d (.agg (fG s))):=by
 have hr3:=hP.r3
 have Bt:=hP.m1
 refine JK (fn:=f18) (by kernel_rfl) func18 rfl (bN rfl) fun c hc hp=>?_
 refine dG (τ':=aG [(0,.d (cv p)),(1,.d (aE b))]) (by repeat (first|exact bT _|refine bM ?_ (by first|rfl|(simp[aR,dK,fM];done)|simp[aR,dK,fM, *]))) ?_
 refine aj (sB ·) ?_
 refine aj (sB ·) ?_
 refine aj (sB ·) ?_
 refine aH fun K4 dD=>?_
 refine aj (OQ ·) ?_
 refine aW ?_
 refine c9 hp (fun τ' H' mm=>∃(i:Nat) (rg:List Int),(i≤p.ag.length∧rg.length=i∧∀j,j<i→0≤nth rg j∧nth rg j<2^(nth p.ag j).w)∧mm=p.ag.length - i∧H'=[.cells (au (aD p)),.cells [ga,ga],.cells (au (bo b i)),.cells [.os 1 4 0 i,ga],.cells (au (rg.map iD))]∧τ'=aG [(2,.op 0 0),(4,.op 1 0),(5,.op 2 0),(6,.op 3 0),(7,.d (iD i))]) (p.ag.length) ?_ ⟨0,[],⟨cy _,rfl,fun j hj=>absurd hj (Nat.not_lt_zero _)⟩,rfl,rfl,rfl⟩ ?_
 ·refine Rt.trans (Rt.gq 3 0 1 rfl rfl) ?_
  refine Cu ?_
  exact Kc
 rintro τ' H' mm ⟨i,rg,⟨hi,jR,wH⟩,rfl,rfl,rfl⟩
 refine aH fun K6 cF=>?_
 refine aj (sB ·) ?_
 refine aX rfl (fun ht=>?_) (fun ht=>?_)
 ·have aA:i<p.ag.length:=by simp at ht;omega
  have hw:=hP.rw i aA
  have m1:=yp2 aA
  obtain⟨w,vr⟩:∃w,w=(nth p.ag i).w:=⟨_,rfl⟩
  rw[←vr]at hw m1
  obtain⟨y,hy⟩:∃y:Nat,kr b i=y:=⟨(kr b i).toNat,by have:=(mg hb i).1;omega⟩
  have CM:=(mg hb i).2
  have mV:=vQ b i hb hl
  rw[hy]at mV
  have hu:IntKind.u64.wrap (w:Int)=w:=An (by omega) (by omega)
  have hs:=BS (w:=w) (by omega)
  have hm:=FT (v:=y) (w:=w) (by omega) (by omega)
  have fg:=Nat.two_pow_pos w
  have tq:2^w≤256:=Nat.le_trans (rj (by decide) (show w≤8 by omega)) (show 2^8≤256 by decide)
  have lY:(0:Int)≤((y % 2^w:Nat):Int)∧((y % 2^w:Nat):Int)<2^(nth p.ag i).w:=by rw[←vr];exact Qj
  obtain⟨M,hM⟩:∃M:Nat,2^w=M:=⟨_,rfl⟩
  rw[hM]at hs hm fg tq lY
  refine bB (cF _ _ ?_)
  refine aH fun K8 dC=>?_
  refine aW ?_
  refine eN ax hc mixed rfl (q:=2) (by kernel_rfl) (by kernel_rfl) fun K9 cJ=>?_
  refine G7 (aL m1 (aL hu (aL hs hm))) ?_
  refine cQ (mV) rfl ?_
  refine G7 (aL m1 (aL hu (aL hs hm))) ?_
  refine cJ _ _ ?_
  refine bA hp ax hc rfl fun kL bU=>?_
  refine sB ?_
  refine cQ (vj b i 1 (by omega) (by omega)) rfl ?_
  refine sB ?_
  refine bU _ _ (dC _ _ ?_)
  refine bA hp ax hc rfl fun lz cm=>?_
  refine sB ?_
  refine cm _ _ ⟨_,_,_,?_,⟨i+1,rg++[((y % M:Nat):Int)],⟨by omega,by simp[jR],jly (P:=fun j x=>0≤x∧x<2^(nth p.ag j).w) jR wH lY⟩,rfl,rfl,rfl⟩,?_⟩
  ·first|omega|(simp only[List.length_cons];omega)|(dsimp only;omega)
  ·refine Gm [0,1,2,3,6] ?_
   refine Cu ?_
   refine N3 ?_;rw[List.map_append];rfl
 ·have jI:i=p.ag.length:=by simp at ht;omega
  subst jI
  refine cL (dD _ _ ?_)
  refine aH fun nk cU=>?_
  refine aj (OQ ·) ?_
  refine aW ?_
  refine c9 hp (fun τ' H' mm=>∃(i:Nat) (n:Nat) (ms:LL),(i≤p.mems.length∧n≤3+4*i∧ms.length=i∧∀j,j<i→(nth ms j).length=(nth p.mems j).words∧∀k,k<(nth p.mems j).words→0≤nth (nth ms j) k∧nth (nth ms j) k<2^(nth p.mems j).w)∧mm=p.mems.length - i∧H'=[.cells (au (aD p)),.cells [ga,ga],.cells (au (bo b n)),.cells [.os 1 4 0 p.ag.length,.os 1 5 0 i],.cells (au (rg.map iD)),.cells (au (ms.map av))]∧τ'=aG [(2,.op 0 0),(4,.op 1 0),(5,.op 2 0),(6,.op 3 0),(8,.d (iD i))]) (p.mems.length) ?_ ⟨0,p.ag.length,[],⟨cy _,by omega,rfl,fun j hj=>absurd hj (Nat.not_lt_zero _)⟩,rfl,rfl,rfl⟩ ?_
  ·refine Rt.trans (Rt.gq 3 1 1 rfl rfl) ?_
   refine Cu ?_
   exact Kc
  rintro τ' H' mm ⟨i,n,ms,⟨hi,hn,mC,QV⟩,rfl,rfl,rfl⟩
  refine aH fun rM dI=>?_
  refine aj (sB ·) ?_
  refine aX rfl (fun ht=>?_) (fun ht=>?_)
  ·have aA:i<p.mems.length:=by simp at ht;omega
   have hw:=hP.mw i aA
   have m1:=NV aA
   have m2:=WV aA
   obtain⟨w,vr⟩:∃w,w=(nth p.mems i).w:=⟨_,rfl⟩
   obtain⟨wo,Bf⟩:∃w,w=(nth p.mems i).words:=⟨_,rfl⟩
   rw[←vr,←Bf]at hw
   rw[←vr]at m1
   rw[←Bf]at m2
   have hu:IntKind.u64.wrap (w:Int)=w:=An (by omega) (by omega)
   have hs:=BS (w:=w) (by omega)
   have fg:=Nat.two_pow_pos w
   have tq:2^w≤256:=Nat.le_trans (rj (by decide) (show w≤8 by omega)) (show 2^8≤256 by decide)
   have HX:∀y:Nat,y<256→pc .and .i64 y (((2^w:Nat):Int) - 1)=((y % 2^w:Nat):Int):=fun y hy=>FT (v:=y) (w:=w) (by omega) (by omega)
   have Bo:∀y:Nat,(0:Int)≤((y % 2^w:Nat):Int)∧((y % 2^w:Nat):Int)<2^(nth p.mems i).w:=fun y=>by rw[←vr];exact Qj
   obtain⟨M,hM⟩:∃M:Nat,2^w=M:=⟨_,rfl⟩
   rw[hM]at hs HX fg tq Bo
   refine bB (dI _ _ ?_)
   refine aH fun pM df=>?_
   refine aW ?_
   refine aj (sB ·) ?_
   refine aH fun ye fP=>?_
   refine aj (OQ ·) ?_
   refine aW ?_
   refine c9 hp (fun τ' H' mm=>∃(k:Nat) (ws:List Int),(k≤wo∧ws.length=k∧∀j,j<k→0≤nth ws j∧nth ws j<2^(nth p.mems i).w)∧mm=wo - k∧H'=[.cells (au (aD p)),.cells [ga,ga],.cells (au (bo b (n+k))),.cells [.os 1 4 0 p.ag.length,.os 1 5 0 i],.cells (au (rg.map iD)),.cells (au (ms.map av)),.cells (au (ws.map iD))]∧τ'=aG [(2,.op 0 0),(4,.op 1 0),(5,.op 2 0),(6,.op 3 0),(8,.d (iD i)),(9,.os 1 6 0 k),(10,.d (iD k))]) (wo) ?_ ⟨0,[],⟨cy _,rfl,fun j hj=>absurd hj (Nat.not_lt_zero _)⟩,rfl,rfl,rfl⟩ ?_
   ·refine Cu ?_
    exact Kc
   rintro τ' H' mm ⟨k,ws,⟨hk,ov,ou⟩,rfl,rfl,rfl⟩
   refine aH fun uK eG=>?_
   refine aj (G7 m2 ·) ?_
   refine aX rfl (fun ht=>?_) (fun ht=>?_)
   ·have ll:k<wo:=by simp at ht;omega
    obtain⟨y,hy⟩:∃y:Nat,kr b (n+k)=y:=⟨(kr b (n+k)).toNat,by have:=(mg hb (n+k)).1;omega⟩
    have CM:=(mg hb (n+k)).2
    have mV:=vQ b (n+k) hb hl
    rw[hy]at mV
    have hm:=HX y (by omega)
    refine bB (eG _ _ ?_)
    refine aH fun wS fB=>?_
    refine aW ?_
    refine eN ax hc mixed rfl (q:=2) (by kernel_rfl) (by kernel_rfl) fun yd gw=>?_
    refine G7 (aL m1 (aL hu (aL hs hm))) ?_
    refine cQ (mV) rfl ?_
    refine G7 (aL m1 (aL hu (aL hs hm))) ?_
    refine gw _ _ ?_
    refine bA hp ax hc rfl fun BL iF=>?_
    refine sB ?_
    refine cQ (vj b (n+k) 1 (by omega) (by omega)) rfl ?_
    refine sB ?_
    refine iF _ _ (fB _ _ ?_)
    refine bA hp ax hc rfl fun BK jn=>?_
    refine sB ?_
    refine jn _ _ ⟨_,_,_,?_,⟨k+1,ws++[((y % M:Nat):Int)],⟨by omega,by simp[ov],jly (P:=fun _ x=>0≤x∧x<2^(nth p.mems i).w) ov ou (Bo y)⟩,rfl,rfl,rfl⟩,?_⟩
    ·first|omega|(simp only[List.length_cons];omega)|(dsimp only;omega)
    ·refine Gm [0,1,2,3,4,5,8] ?_
     refine Cu ?_
     refine N3 ?_;rw[List.map_append];rfl
   ·have cf:k=wo:=by simp at ht;omega
    subst cf
    have hW:(nth p.mems i).words=k:=Bf.symm
    clear Bf
    have kX:dJ (ws.map iD) 0 k=some (ws.map iD):=iN (by simp[ov])
    have QP:∀j,j<i+1→(nth (ms++[ws]) j).length=(nth p.mems j).words∧∀k,k<(nth p.mems j).words→0≤nth (nth (ms++[ws]) j) k∧nth (nth (ms++[ws]) j) k<2^(nth p.mems j).w:=fun j hj=>by
     by_cases e:j<i
     ·rw[Nw (by omega)];exact QV j e
     ·rw[show j=ms.length by omega,JP,mC]
      exact⟨by omega,fun q hq=>ou q (by omega)⟩
    refine cL (fP _ _ ?_)
    refine bI hp (τ':=aG [(2,.op 0 0),(4,.op 1 0),(5,.op 2 0),(6,.op 3 0),(8,.d (iD i)),(9,.d (.fs (ws.map iD) k))]) (H':=[.cells (au (aD p)),.cells [ga,ga],.cells (au (bo b (n+k))),.cells [.os 1 4 0 p.ag.length,.os 1 5 0 i],.cells (au (rg.map iD)),.cells (au (ms.map av)),.dead]) ?_ ?_
    ·refine Rt.trans (Rt.fz (id:=6) (l:=(ws.map iD)) rfl) ?_
     refine Cu ?_
     exact Kc
    refine jX (sB ·) (df _ _ ?_)
    refine bA hp ax hc rfl fun IZ l7=>?_
    refine sB ?_
    refine l7 _ _ ⟨_,_,_,?_,⟨i+1,n+k,ms++[ws],⟨by omega,by omega,by simp[mC],QP⟩,rfl,rfl,rfl⟩,?_⟩
    ·first|omega|(simp only[List.length_cons];omega)|(dsimp only;omega)
    ·refine Gm [0,1,2,3,4,8] ?_
     refine Cu ?_
     refine N3 ?_;simp[av,ov,iD]
  ·have Ie:i=p.mems.length:=by simp at ht;omega
   refine cL (cU _ _ ?_)
   refine aj (sB ·) ?_
   refine bh ?_
   try dsimp only[fb,fc]
   refine iH rfl ?_
   simp -dsimp -implicitDefEqProofs (disch:=first|assumption|omega|(simp only[aK,dK,fM]<;>omega)|decide) only[aP,↓reduceIte,Nat.reduceEqDiff,Nat.reduceAdd,D.fix,Int.reduceToNat,Nat.reduceMul,Nat.reduceBNe,Nat.reduceBEq,cv,aD,bo,ga,fG,sD,nS,Jy,Jx]
   show ∃r,aC _ _=some r∧_
   simp (disch:=first|assumption|omega|(simp only[aK,dK,fM]<;>omega)|decide) only[gF,Nat.reduceAdd,D.fix,↓reduceIte,Nat.reduceEqDiff,cv,aD,bo,ga,fG,sD,nS]
   subst Ie
   exact⟨_,rfl,⟨rg,ms⟩,⟨jR,wH,mC,fun j hj=>(QV j hj).1,fun j hj=>(QV j hj).2⟩,by simp[fG,av,ai,jR,mC]⟩
theorem tJ{p q:Prop}(hq:q)(h:p=q:=by
 conv=>lhs;simp -dsimp -implicitDefEqProofs (disch:=first|assumption|omega|(simp only[aK,dT,dS,ft]<;>omega)|decide) only[aP,↓reduceIte,Nat.reduceEqDiff,Nat.reduceAdd,D.fix,Int.reduceToNat,Nat.reduceMul,Nat.reduceBNe,Nat.reduceBEq,cv,aD,bo,ga,eT,sD,nS,bw]):p:=h.mpr hq
theorem Yn{p q:Prop}(hq:q)(h:p=q:=by
 conv=>lhs;simp -dsimp -implicitDefEqProofs (disch:=first|assumption|omega|(simp only[aK,dT,dS,ft]<;>omega)|decide) only[aP,↓reduceIte,Nat.reduceEqDiff,Nat.reduceAdd,D.fix,Int.reduceToNat,Nat.reduceMul,Nat.reduceBNe,Nat.reduceBEq,cv,aD,bo,ga,eT,sD,nS]):p:=h.mpr hq
theorem Kb{m:List Nat}{τ τ':Fr}{H H':ak}(h2:H=H')(h:fm τ τ':=by
 repeat (first|exact bT _|refine bM ?_ (by first|rfl|(simp[aR,dT,dS,ft];done)|simp[aR,dT,dS,ft, *]))):Rt m τ H τ' H':=Rt.end h h2
theorem OP{p q r:Prop}(e:r)(hq:q)(h:r→p=q:=by
 intro hY
 conv=>lhs;simp -dsimp -implicitDefEqProofs (disch:=first|assumption|omega|(simp only[aK,dT,dS,ft]<;>omega)|decide) only[aP,↓reduceIte,Nat.reduceEqDiff,Nat.reduceAdd,D.fix,Int.reduceToNat,Nat.reduceMul,Nat.reduceBNe,Nat.reduceBEq,cv,aD,bo,ga,eT,sD,nS,bw,hY]):p:=(h e).mpr hq
theorem Xe{p:Prop}(h:p:=by
 first|rfl|(simp only[cD,Nat.reduceAdd,↓reduceIte,Nat.reduceEqDiff,cv,aD,bo,ga,eT,sD,nS];first|done|rfl)):p:=h
theorem Xd{p q:Prop}(hq:q)(h:p=q:=by
 conv=>lhs;simp only[cD,Nat.reduceAdd,↓reduceIte,Nat.reduceEqDiff,cv,aD,bo,ga,eT,sD,nS]):p:=h.mpr hq
theorem yk3(p:Pr)(hP:fD p)(b:List Int)(hb:mR b)(hl:b.length≤maxLen):tV prog 19 [cv p,aE b] (fun r=>∃heads rooms,InS p heads rooms∧r= .d (.agg [eT heads,bn rooms])):=by
 have ht2:=hP.t2
 have hq2:=hP.q2
 refine JK (fn:=f19) (by kernel_rfl) func19 rfl (bN rfl) fun c hc hp=>?_
 refine dG (τ':=aG [(0,.d (cv p)),(1,.d (aE b))]) (by repeat (first|exact bT _|refine bM ?_ (by first|rfl|(simp[aR,dT,dS,ft];done)|simp[aR,dT,dS,ft, *]))) ?_
 refine aj (tJ ·) ?_
 refine aj (tJ ·) ?_
 refine aj (tJ ·) ?_
 refine aH fun K4 dD=>?_
 refine aj (Yn ·) ?_
 refine aW ?_
 refine c9 hp (fun τ' H' mm=>∃(i:Nat) (hs:List Head),(i≤p.ae.length∧hs.length=i∧∀j,j<i→0≤(nth hs j).v∧(nth hs j).v<2^(nth p.ae j).w)∧mm=p.ae.length - i∧H'=[.cells (au (aD p)),.cells [ga,ga],.cells (au (bo b i)),.cells [.os 2 4 0 i,ga],.cells (au (hs.flatMap iG))]∧τ'=aG [(2,.op 0 0),(4,.op 1 0),(5,.op 2 0),(6,.op 3 0),(7,.d (iD i))]) (p.ae.length) ?_ ⟨0,[],⟨cy _,rfl,fun j hj=>absurd hj (Nat.not_lt_zero _)⟩,rfl,rfl,rfl⟩ ?_
 ·refine Rt.trans (Rt.gq 3 0 2 rfl rfl) ?_
  refine Kb ?_
  exact Xe
 rintro τ' H' mm ⟨i,hs,⟨hi,jR,wH⟩,rfl,rfl,rfl⟩
 refine aH fun K6 cF=>?_
 refine aj (tJ ·) ?_
 refine aX rfl (fun ht=>?_) (fun ht=>?_)
 ·have aA:i<p.ae.length:=by simp at ht;omega
  have hw:=hP.tw i aA
  have m1:=Xg aA
  obtain⟨w,vr⟩:∃w,w=(nth p.ae i).w:=⟨_,rfl⟩
  rw[←vr]at hw m1
  obtain⟨y,hy⟩:∃y:Nat,kr b i=y:=⟨(kr b i).toNat,by have:=(mg hb i).1;omega⟩
  have CM:=(mg hb i).2
  have mV:=vQ b i hb hl
  rw[hy]at mV
  have Bb:(y:Int) % 4=((y % 4:Nat):Int):=by omega
  have Qv:(y:Int) / 4=((y / 4:Nat):Int):=by omega
  have hu:IntKind.u64.wrap (w:Int)=w:=An (by omega) (by omega)
  have uy:=BS (w:=w) (by omega)
  have hm:=FT (v:=y / 4) (w:=w) (by omega) (by omega)
  have fg:=Nat.two_pow_pos w
  have tq:2^w≤256:=Nat.le_trans (rj (by decide) (show w≤8 by omega)) (show 2^8≤256 by decide)
  have lY:(0:Int)≤((y / 4 % 2^w:Nat):Int)∧((y / 4 % 2^w:Nat):Int)<2^(nth p.ae i).w:=by rw[←vr];exact Qj
  obtain⟨M,hM⟩:∃M:Nat,2^w=M:=⟨_,rfl⟩
  rw[hM]at uy hm fg tq lY
  obtain⟨hd,E7⟩:∃hd:Head,hd=⟨((y % 4:Nat):Int) !=3,((y / 4 % M:Nat):Int)⟩:=⟨_,rfl⟩
  have HP:0≤hd.v∧hd.v<2^(nth p.ae i).w:=by rw[E7];exact lY
  refine bB (cF _ _ ?_)
  refine aH fun K8 dC=>?_
  refine aW ?_
  refine bC hp ax hc rfl fun K9 cJ=>?_
  refine tJ ?_
  refine cQ (mV) rfl ?_
  refine tJ ?_
  refine cJ _ _ ?_
  refine eN ax hc mixed rfl (q:=2) (by kernel_rfl) (by kernel_rfl) fun kL bU=>?_
  refine OP (aL m1 (aL hu (aL uy (aL hm (aL Bb Qv))))) ?_
  refine bU _ _ ?_
  refine bA hp ax hc rfl fun lz cm=>?_
  refine tJ ?_
  refine cQ (vj b i 1 (by omega) (by omega)) rfl ?_
  refine tJ ?_
  refine cm _ _ (dC _ _ ?_)
  refine bA hp ax hc rfl fun nk cU=>?_
  refine tJ ?_
  refine cU _ _ ⟨_,_,_,?_,⟨i+1,hs++[hd],⟨by omega,by simp[jR],jwm (P:=fun j x=>0≤x∧x<2^(nth p.ae j).w) jR wH HP⟩,rfl,rfl,rfl⟩,?_⟩
  ·first|omega|(simp only[List.length_cons];omega)|(dsimp only;omega)
  ·refine Gm [0,1,2,3,6] ?_
   refine Kb ?_
   refine Xd ?_;rw[E7];simp[iG,iD,oD]
 ·have jI:i=p.ae.length:=by simp at ht;omega
  subst jI
  refine cL (dD _ _ ?_)
  refine aH fun rN dQ=>?_
  refine aj (Yn ·) ?_
  refine aW ?_
  refine c9 hp (fun τ' H' mm=>∃(i:Nat) (rs:List Bool),(i≤p.ao.length∧rs.length=i)∧mm=p.ao.length - i∧H'=[.cells (au (aD p)),.cells [ga,ga],.cells (au (bo b (p.ae.length+i))),.cells [.os 2 4 0 p.ae.length,.os 1 5 0 i],.cells (au (hs.flatMap iG)),.cells (au (rs.map oD))]∧τ'=aG [(2,.op 0 0),(4,.op 1 0),(5,.op 2 0),(6,.op 3 0),(9,.d (iD i))]) (p.ao.length) ?_ ⟨0,[],⟨cy _,rfl⟩,rfl,rfl,rfl⟩ ?_
  ·refine Rt.trans (Rt.gq 3 1 1 rfl rfl) ?_
   refine Kb ?_
   exact Xe
  rintro τ' H' mm ⟨i,rs,⟨hi,mC⟩,rfl,rfl,rfl⟩
  refine aH fun tG ea=>?_
  refine aj (tJ ·) ?_
  refine aX rfl (fun ht=>?_) (fun ht=>?_)
  ·have aA:i<p.ao.length:=by simp at ht;omega
   obtain⟨y,hy⟩:∃y:Nat,kr b (p.ae.length+i)=y:=⟨(kr b (p.ae.length+i)).toNat,by have:=(mg hb (p.ae.length+i)).1;omega⟩
   have CM:=(mg hb (p.ae.length+i)).2
   have mV:=vQ b (p.ae.length+i) hb hl
   rw[hy]at mV
   have Bb:(y:Int) % 4=((y % 4:Nat):Int):=by omega
   refine bB (ea _ _ ?_)
   refine aH fun tF eh=>?_
   refine aW ?_
   refine eN ax hc mixed rfl (q:=2) (by kernel_rfl) (by kernel_rfl) fun ye fP=>?_
   refine OP Bb ?_
   refine cQ (mV) rfl ?_
   refine OP Bb ?_
   refine fP _ _ ?_
   refine bA hp ax hc rfl fun wT fC=>?_
   refine tJ ?_
   refine cQ (vj b (p.ae.length+i) 1 (by omega) (by omega)) rfl ?_
   refine tJ ?_
   refine fC _ _ (eh _ _ ?_)
   refine bA hp ax hc rfl fun uK eG=>?_
   refine tJ ?_
   refine eG _ _ ⟨_,_,_,?_,⟨i+1,rs++[((y % 4:Nat):Int) !=3],⟨by omega,by simp[mC]⟩,rfl,rfl,rfl⟩,?_⟩
   ·first|omega|(simp only[List.length_cons];omega)|(dsimp only;omega)
   ·refine Gm [0,1,2,3,4,7] ?_
    refine Kb ?_
    refine Xd ?_;rw[List.map_append];rfl
  ·have Ie:i=p.ao.length:=by simp at ht;omega
   refine cL (dQ _ _ ?_)
   refine aj (tJ ·) ?_
   refine bh ?_
   try dsimp only[fb,fc]
   refine iH rfl ?_
   simp -dsimp -implicitDefEqProofs (disch:=first|assumption|omega|(simp only[aK,dT,dS,ft]<;>omega)|decide) only[aP,↓reduceIte,Nat.reduceEqDiff,Nat.reduceAdd,D.fix,Int.reduceToNat,Nat.reduceMul,Nat.reduceBNe,Nat.reduceBEq,cv,aD,bo,ga,eT,sD,nS,PR,PQ]
   show ∃r,aC _ _=some r∧_
   simp (disch:=first|assumption|omega|(simp only[aK,dT,dS,ft]<;>omega)|decide) only[gF,Nat.reduceAdd,D.fix,↓reduceIte,Nat.reduceEqDiff,cv,aD,bo,ga,eT,sD,nS]
   subst Ie
   exact⟨_,rfl,hs,rs,⟨jR,wH,mC⟩,by simp[eT,bn,jR,mC,DM]⟩
end Go.Proofs.YtapjobndmmkanaaGreat
