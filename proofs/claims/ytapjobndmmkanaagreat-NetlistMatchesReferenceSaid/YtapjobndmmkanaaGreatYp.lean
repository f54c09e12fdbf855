/- netlist's builder: input wires, outputs. -/
import Derived.Test.YtapjobndmmkanaaGreatQr
import Derived.Test.YtapjobndmmkanaaGreatYd
import Derived.Test.YtapjobndmmkanaaGreatYi
set_option linter.unusedVariables false
set_option linter.unusedSimpArgs false
set_option maxRecDepth 100000
set_option maxHeartbeats 4000000
namespace Go.Proofs.YtapjobndmmkanaaGreat
open Go.Proofs.Tryz
open Go Go.RowKit
theorem E6{a b c:Int}:Value.agg #[.int .i64 a,.int .i64 b,.int .i64 c]=wV ⟨a,b,c⟩:=rfl
def WiK(e:BE)(gs:Gs)(μ:Mp)(ins:List aT)(x:AV)(S':av):Prop:=∃mi,oU ins mi∧x= .dR []∧S'=bH ⟨e.p,ins,mi,e.out,e.dr,e.fo⟩ gs μ
theorem Dk{kind i:Int}{n:Nat}{w:aT}(h:w∈cZ kind i n):w.kind=kind∧w.i=i∧∃k:Nat,k<n∧w.bit=k:=by
 obtain⟨k,hk,rfl⟩:=mF.1 h
 exact⟨rfl,rfl,k,tv.1 hk,rfl⟩
theorem Xd{p q:Prop}(hq:q)(h:p=q:=by
 conv=>lhs;simp -dsimp -implicitDefEqProofs (disch:=first|assumption|omega|(simp only[aH,aQ,bc,dD]<;>omega)|decide) only[aN,↓reduceIte,Nat.reduceEqDiff,Nat.reduceAdd,D.fix,Int.reduceToNat,Nat.reduceMul,Nat.reduceBNe,Nat.reduceBEq,ch,bH,bO,aK,aY,cr]):p:=h.mpr hq
theorem Wb{m:List Nat}{τ τ':Fr}{H H':av}(h2:H=H')(h:fw τ τ':=by
 repeat (first|exact cw _|refine cg ?_ (by first|rfl|(simp[aX,aQ,bc,dD];done)|simp[aX,aQ,bc,dD, *]))):Rt m τ H τ' H':=Rt.end h h2
theorem NU{p q:Prop}(hq:q)(h:p=q:=by
 conv=>lhs;simp -dsimp -implicitDefEqProofs (disch:=first|assumption|omega|(simp only[aH,aQ,bc,dD]<;>omega)|decide) only[aN,↓reduceIte,Nat.reduceEqDiff,Nat.reduceAdd,D.fix,Int.reduceToNat,Nat.reduceMul,Nat.reduceBNe,Nat.reduceBEq,ch,bH,bO,aK,aY,cr,bw]):p:=h.mpr hq
theorem MN{p q:Prop}(hq:q)(h:p=q:=by
 conv=>lhs;simp only[cP,Nat.reduceAdd,↓reduceIte,Nat.reduceEqDiff,ch,bH,bO,aK,aY,cr]):p:=h.mpr hq
theorem II(e:BE)(gs:Gs)(μ:Mp)(kind i:Int)(w:Nat)(hm:oU e.ins e.mi)(uA:∀k:Nat,¬(⟨kind,i,(k:Int)⟩:aT)∈e.ins)(k0:0≤kind)(k1:kind≤100)(i0:0≤i)(i1:i≤1000)(hl:e.ins.length+w≤100000):cY prog [0,2,3,4,5,6,7] 137 [.op 0 0,.d (iD kind),.d (iD i),.d (iD w)] (bH e gs μ) (WiK e gs μ (e.ins++cZ kind i w)):=by
 refine fX (fn:=f137) (by kernel_rfl) func137 rfl (cn rfl) fun c hc hp=>?_
 refine BJ ?_
 refine IF hp ?_
 refine ah (Xd ·) ?_
 refine aW ?_
 refine cU hp (fun τ' H' mm=>∃(k:Nat) (mi:Mp),(k≤w∧oU (e.ins++cZ kind i k) mi)∧mm=w - k∧H'=bH ⟨e.p,e.ins++cZ kind i k,mi,e.out,e.dr,e.fo⟩ gs μ∧τ'=aF [(0,.op 0 0),(1,.d (iD kind)),(2,.d (iD i)),(10,.d (iD w)),(11,.d (iD k))]) (w) ?_ ⟨0,e.mi,⟨cF _,by simpa[cZ]using hm⟩,rfl,rfl,rfl⟩ ?_
 ·refine Wb ?_
  refine MN ?_;simp[bH,bO,cZ]
 rintro τ' H' mm ⟨k,mi,⟨hk,Eu⟩,rfl,rfl,rfl⟩
 refine ah (NU ·) ?_
 refine aD fun K3 cm=>?_
 refine bf rfl (fun ht=>?_) (fun ht=>?_)
 ·have aA:k<w:=by simp at ht;omega
  have iA:(e.ins++cZ kind i k).length=e.ins.length+k:=by rw[List.length_append,dD]
  have mb:pL prog Ap (wV ⟨kind,i,(k:Int)⟩):=EP (a:=kind) (b:=i) (c:=(k:Int)) (n9 (by omega) (by omega)) (n9 (by omega) (by omega)) (n9 (by omega) (by omega))
  have gq:¬(⟨kind,i,(k:Int)⟩:aT)∈e.ins++cZ kind i k:=fun hh=>by
   rcases p6.1 hh with hh|hh
   ·exact uA k hh
   ·obtain⟨_,_,j,hj,he⟩:=Dk hh
    simp only at he;omega
  have CG:=Eu.add mb gq
  have hws:e.ins++cZ kind i (k+1)=(e.ins++cZ kind i k)++[⟨kind,i,(k:Int)⟩]:=by rw[vP,List.append_assoc]
  rw[←hws]at CG
  have A8:((2+(e.ins++cZ kind i k).length:Nat):Int)=2+(e.ins++cZ kind i k).length:=by omega
  rw[A8]at CG
  generalize hI:e.ins++cZ kind i k=I at *
  refine bg (cm _ _ ?_)
  refine aD fun K4 dE=>?_
  refine aW ?_
  refine ah (Xd ·) ?_
  refine ah (NU ·) ?_
  refine jP ax hp hc mixed rfl [(0,[]),(1,[]),(2,[]),(3,[]),(4,[]),(5,[]),(6,[]),(7,[]),(8,[]),(9,[]),(10,[]),(11,[]),(12,[])] [[],[0],[0,1],[0,1,2],[],[],[5],[5,6],[5,6,7],[5,6,7,8],[5,6,7,8,9],[5,6,7,8,9,10],[0,1,2,3,4,5,6,7,8,9,10,11]] 0 (by kernel_rfl) fun K7 cL=>?_
  simp -dsimp -implicitDefEqProofs (disch:=first|assumption|omega|(simp only[aH,aQ,bc,dD]<;>omega)|decide) only[aN,↓reduceIte,Nat.reduceEqDiff,Nat.reduceAdd,D.fix,Int.reduceToNat,Nat.reduceMul,Nat.reduceBNe,Nat.reduceBEq,mC,ch,bH,bO,aK,aY,cr,E6,GB Jn mb Eu.ok,bw]
  refine cL _ _ ?_
  refine u5 ax hp hc mixed rfl [(0,[]),(1,[]),(2,[]),(3,[]),(4,[]),(5,[]),(6,[]),(7,[]),(8,[]),(9,[]),(10,[]),(11,[]),(12,[])] [[],[],[1],[1,2],[1,2,3],[1,2,3,4],[],[6],[1,2,3,4,5,6,7],[0,1,2,3,4,5,6,7,8],[0,1,2,3,4,5,6,7,8,9],[0,1,2,3,4,5,6,7,8,9,10],[0,1,2,3,4,5,6,7,8,9,10,11]] 1 (by kernel_rfl) fun K8 dP=>?_
  simp -dsimp -implicitDefEqProofs (disch:=first|assumption|omega|(simp only[aH,aQ,bc,dD]<;>omega)|decide) only[aN,↓reduceIte,Nat.reduceEqDiff,Nat.reduceAdd,D.fix,Int.reduceToNat,Nat.reduceMul,Nat.reduceBNe,Nat.reduceBEq,mC,ch,bH,bO,aK,aY,cr,bw]
  refine dP _ _ (dE _ _ ?_)
  refine bT hp ax hc rfl fun K9 cX=>?_
  refine NU ?_
  refine cX _ _ ⟨_,_,_,?_,⟨k+1,_,⟨by omega,CG⟩,rfl,rfl,rfl⟩,?_⟩
  ·first|omega|(simp only[List.length_cons];omega)|(dsimp only;omega)
  ·refine Rt.trans (Rt.gc (keep:=[0,10,2,3,4,5,6,7]) (by decide) (by decide) (by simp[eJ,dg])) ?_
   refine Wb ?_
   refine MN ?_;rw[hws];simp[bH,bO,aK,cr,ak,iD]
 ·have bM:k=w:=by simp at ht;omega
  refine cJ ?_
  try dsimp only[cC,cI]
  refine⟨aF [],bH ⟨e.p,e.ins++cZ kind i k,mi,e.out,e.dr,e.fo⟩ gs μ,?_,?_⟩
  ·refine Rt.trans (Rt.gc (keep:=[0,1,2,3,4,5,6,7]) (by decide) (by decide) (by simp[eJ,dg])) ?_
   refine Rt.end (cw _) ?_
   first|rfl|(simp only[cP,Nat.reduceAdd,↓reduceIte,Nat.reduceEqDiff,ch,bH,bO,aK,aY,cr];first|done|rfl)
  refine IU rfl ?_
  show ∃_,_
  subst bM;exact⟨mi,Eu,rfl,rfl⟩
def DrK(e:BE)(gs:Gs)(μ:Mp)(w:aT)(n:Int)(x:AV)(S':av):Prop:=∃z:Unit,x= .dR []∧S'=bH ⟨e.p,e.ins,e.mi,e.out++[w],e.dr++[n],e.fo⟩ gs μ
theorem Xc{p q:Prop}(hq:q)(h:p=q:=by
 conv=>lhs;simp -dsimp -implicitDefEqProofs (disch:=first|assumption|omega|(simp only[aH,aQ,bc]<;>omega)|decide) only[aN,↓reduceIte,Nat.reduceEqDiff,Nat.reduceAdd,D.fix,Int.reduceToNat,Nat.reduceMul,Nat.reduceBNe,Nat.reduceBEq,ch,bH,bO,aK,aY,cr,bw]):p:=h.mpr hq
theorem BU(e:BE)(gs:Gs)(μ:Mp)(kind i b n:Int)(ho:e.out.length≤100000)(hd:e.dr.length≤100000):cY prog [0,1,2,5,6,7] 93 [.op 0 0,.d (iD kind),.d (iD i),.d (iD b),.d (iD n)] (bH e gs μ) (DrK e gs μ ⟨kind,i,b⟩ n):=by
 refine fX (fn:=f93) (by kernel_rfl) func93 rfl (cn rfl) fun c hc hp=>?_
 refine Dg ?_
 refine IF hp ?_
 refine ah (Xc ·) ?_
 refine fj (Xc ·) ?_
 try dsimp only[cC,cI]
 refine⟨aF [],bH ⟨e.p,e.ins,e.mi,e.out++[⟨kind,i,b⟩],e.dr++[n],e.fo⟩ gs μ,?_,?_⟩
 ·refine Rt.trans (Rt.gc (keep:=[0,1,2,9,11,5,6,7]) (by decide) (by decide) (by simp[eJ,dg])) ?_
  refine Rt.end (cw _) ?_
  refine MN ?_;simp[bH,bO,aK,cr,ak,iD]
 refine IU rfl ?_
 show ∃_,_
 exact⟨(),rfl,rfl⟩
theorem MM{p:Pr}:∀{n:Nat} {w:aT},w∈gW p n→w.kind=1∧w.i<n
  |0,w,h=>by simp[gW]at h
  |n+1,w,h=>by
    rw[gW]at h
    rcases p6.1 h with h|h
    · have:=MM h;exact⟨this.1,by omega⟩
    · have:=Dk h;exact⟨this.1,by rw[this.2.1];omega⟩
theorem Jf{p:Pr}:∀{n:Nat} {w:aT},w∈gM p n→w.kind=1∨((w.kind=2∨w.kind=3)∧w.i<n)
  |0,w,h=>.inl (MM h).1
  |n+1,w,h=>by
    rw[gM]at h
    rcases p6.1 h with h|h
    · rcases p6.1 h with h|h
      · rcases Jf h with h|h
        · exact .inl h
        · exact .inr ⟨h.1,by omega⟩
      · have:=Dk h;exact .inr ⟨.inl this.1,by rw[this.2.1];omega⟩
    · have:=Dk h;exact .inr ⟨.inr this.1,by rw[this.2.1];omega⟩
theorem Wa{p:Pr}:∀{n:Nat} {w:aT},w∈iN p n→w.kind≤3∨(w.kind=4∧w.i<n)
  |0,w,h=>by
    rcases Jf h with h|h
    · left;omega
    · left;have:=h.1;omega
  |n+1,w,h=>by
    rw[iN]at h
    rcases p6.1 h with h|h
    · rcases Wa h with h|h
      · exact .inl h
      · exact .inr ⟨h.1,by omega⟩
    · have:=Dk h;exact .inr ⟨this.1,by rw[this.2.1];omega⟩
theorem ygs{p:Pr}:∀{n:Nat},(gW p n).length≤(gW p (n+1)).length:=by intro n;rw[gW];simp
theorem jjs{p:Pr}:∀{k n:Nat},k≤n→(gW p k).length≤(gW p n).length
  | k, 0, h => by have : k = 0 := by omega
                  subst this;exact bJ _
  |k,n+1,h=>by
    by_cases e:k=n+1
    · subst e;exact bJ _
    · exact Nat.le_trans (jjs (n:=n) (by omega)) ygs
theorem Lv{p:Pr}:∀{k n:Nat},k≤n→(gM p k).length≤(gM p n).length
  | k, 0, h => by have : k = 0 := by omega
                  subst this;exact bJ _
  |k,n+1,h=>by
    by_cases e:k=n+1
    · subst e;exact bJ _
    · refine Nat.le_trans (Lv (n:=n) (by omega)) ?_
      rw[gM];simp only[List.length_append];omega
theorem Lu{p:Pr}:∀{k n:Nat},k≤n→(iN p k).length≤(iN p n).length
  | k, 0, h => by have : k = 0 := by omega
                  subst this;exact bJ _
  |k,n+1,h=>by
    by_cases e:k=n+1
    · subst e;exact bJ _
    · refine Nat.le_trans (Lu (n:=n) (by omega)) ?_
      rw[iN];simp only[List.length_append];omega
def InK(p:Pr)(gs:Gs)(μ:Mp)(out:List aT)(dr:List Int)(fo:List (List Int))(x:AV)(S':av):Prop:=∃mi,oU (aU p) mi∧x= .dR []∧S'=bH ⟨p,aU p,mi,out,dr,fo⟩ gs μ
theorem o4{p q:Prop}(hq:q)(h:p=q:=by
  conv=>lhs;simp -dsimp -implicitDefEqProofs (disch:=first|assumption|omega|(simp only[aH,aQ,bc,dD,lP,mW,mV]<;>omega)|decide) only[aN,↓reduceIte,Nat.reduceEqDiff,Nat.reduceAdd,D.fix,Int.reduceToNat,Nat.reduceMul,Nat.reduceBNe,Nat.reduceBEq,ch,bH,bO,aK,aY,tZ,vL,qk,r8,jT,iL,nS,sD,bw]):p:=h.mpr hq
theorem Dy{m:List Nat}{τ τ':Fr}{H H':av}(h2:H=H')(h:fw τ τ':=by
  repeat (first|exact cw _|refine cg ?_ (by first|rfl|(simp[aX,aQ,bc,dD,lP,mW,mV];done)|simp[aX,aQ,bc,dD,lP,mW,mV, *]))):Rt m τ H τ' H':=Rt.end h h2
theorem Je{P:Program}{sm:List Nat}{N:Nat}{τ:Fr}{H:av}{f:FuncId}{args:List AV}{K0 KK:AV→av→Prop}{ks:List Nat}(S T:av)(h:cY P ks f args S K0)(hK:∀x S',K0 x S'→S'.length=S.length∧KK x (S'++T))(hH:H=S++T:=by
  rfl) (hm:sm.all (aL ks S.length)=true:=by
  first|rfl|(simp[AV.aj,AV.allI,bo,bq,bp,aL,aO,bn,br,bH,bO,jT,iL];done)|(intro o ho;simp at ho;done)) (hτ:∀t,(τ t).allI (aL ks S.length)=true:=by
  exact fun t=>fL (by first|rfl|(simp[AV.aj,AV.allI,bo,bq,bp,aL,aO,bn,br,bH,bO,jT,iL];done)|(intro o ho;simp at ho;done)) t) (ha:AV.aj (aO S.length) args=true:=by
  first|rfl|(simp[AV.aj,AV.allI,bo,bq,bp,aL,aO,bn,br,bH,bO,jT,iL];done)|(intro o ho;simp at ho;done)) (hS:∀o∈S,o.allI (aO S.length)=true:=by
  first|rfl|(simp[AV.aj,AV.allI,bo,bq,bp,aL,aO,bn,br,bH,bO,jT,iL];done)|(intro o ho;simp at ho;done)) (hT:∀o∈T,o.allI (aL ks S.length)=true:=by
  first|rfl|(simp[AV.aj,AV.allI,bo,bq,bp,aL,aO,bn,br,bH,bO,jT,iL];done)|(intro o ho;simp at ho;done)):kC P sm N H τ (.d (.val (.func (.func f) #[] #[]))) args true (tg KK):=rH h hH hm hτ ha hS hT hK
theorem Jd(k:List Nat){m:List Nat}{τ τ1:Fr}{H H1:av}(h:Rt m (fun t=>du k (τ t)) (dg k H) τ1 H1)(a:∀i∈m,k[i]? =some i:=by decide)(b:k.Nodup:=by decide)(c:∀i∈k,i<H.length:=by
  simp[eJ,dg]):Rt m τ H τ1 H1:=Rt.trans (Rt.gc a b c) h
theorem B6{p q:Prop}(hq:q)(h:p=q:=by
  conv=>lhs;simp only[cP,Nat.reduceAdd,↓reduceIte,Nat.reduceEqDiff,ch,bH,bO,aK,aY,tZ,vL,qk,r8,jT,iL,nS,sD]):p:=h.mpr hq
theorem jjt(p:Pr)(gs:Gs)(μ:Mp)(out:List aT)(dr:List Int)(fo:List (List Int))(gL:(aU p).length≤1000)(hr:p.aC.length≤100)(y9:p.ag.length≤100)(hq:p.aE.length≤100):cY prog [0,2,3,4,5,6,7] 90 [.op 0 0] (bH ⟨p,[],([],0),out,dr,fo⟩ gs μ) (InK p gs μ out dr fo):=by
  refine fX (fn:=f90) (by kernel_rfl) func90 rfl (cn rfl) fun c hc hp=>?_
  refine LF ?_
  refine IF hp ?_
  have hq0:=Lu (p:=p) (cF p.aE.length)
  have GU:=Lv (p:=p) (cF p.ag.length)
  rw[iN]at hq0
  rw[gM]at GU
  unfold aU at gL
  refine aD fun K1 nw=>?_
  refine ah (o4 ·) ?_
  refine aW ?_
  refine cU hp (fun τ' H' mm=>∃(k:Nat) (mi:Mp),(k≤p.aC.length∧oU (gW p k) mi)∧mm=p.aC.length - k∧H'=bH ⟨p,gW p k,mi,out,dr,fo⟩ gs μ∧τ'=aF [(0,.op 0 0),(11,.d (.fs (p.aC.flatMap nf) p.aC.length)),(12,.d (iD p.aC.length)),(13,.d (iD k))]) (p.aC.length) ?_ ⟨0,([],0),⟨cF _,oU.nil⟩,rfl,rfl,rfl⟩ ?_
  · refine Dy ?_
    refine B6 ?_;simp[bH,bO,gW,aK]
  rintro τ' H' mm ⟨k,mi,⟨hk,Eu⟩,rfl,rfl,rfl⟩
  refine ah (o4 ·) ?_
  refine aD fun K4 dE=>?_
  refine bf rfl (fun ht=>?_) (fun ht=>?_)
  · have aA:k<p.aC.length:=by simp at ht;omega
    have PI:=jjs (p:=p) (show k+1≤p.aC.length by omega)
    have ej:gW p (k+1)=gW p k++cZ 1 k (nth p.aC k).w:=rfl
    have Eo:(gW p (k+1)).length=(gW p k).length+(nth p.aC k).w:=by rw[ej,List.length_append,dD]
    refine bg (dE _ _ ?_)
    refine aD fun K5 dx=>?_
    refine aW ?_
    refine ah (o4 ·) ?_
    refine bT hp ax hc rfl fun K7 cL=>?_
    refine o4 ?_
    refine Je (bH ⟨p,gW p k,mi,out,dr,fo⟩ gs μ) ([.cells (ak (jT (nth p.aC k)))]) (II ⟨p,gW p k,mi,out,dr,fo⟩ gs μ 1 k (nth p.aC k).w Eu (fun j hh=>by have:=(MM hh).2;simp only at this;omega) (by omega) (by omega) (by omega) (by omega) (by simp only;omega)) ?_
    rintro _ _ ⟨Dt,PL,rfl,rfl⟩
    refine⟨rfl,?_⟩
    refine o4 ?_
    refine cL _ _ (dx _ _ ?_)
    refine bT hp ax hc rfl fun K8 dP=>?_
    refine o4 ?_
    refine dP _ _ ⟨_,_,_,?_,⟨k+1,Dt,⟨by omega,by rw[ej];exact PL⟩,rfl,rfl,rfl⟩,?_⟩
    · first|omega|(simp only[List.length_cons];omega)|(dsimp only;omega)
    · refine Jd [0,1,2,3,4,5,6,7] ?_
      refine Dy ?_
      refine B6 ?_;rw[ej]
  · have bM:k=p.aC.length:=by simp at ht;omega
    subst bM
    refine cJ (nw _ _ ?_)
    refine aD fun K9 cX=>?_
    refine ah (o4 ·) ?_
    refine aW ?_
    refine cU hp (fun τ' H' mm=>∃(k:Nat) (mi:Mp),(k≤p.ag.length∧oU (gM p k) mi)∧mm=p.ag.length - k∧H'=bH ⟨p,gM p k,mi,out,dr,fo⟩ gs μ∧τ'=aF [(0,.op 0 0),(28,.d (.fs (p.ag.flatMap qJ) p.ag.length)),(29,.d (iD p.ag.length)),(30,.d (iD k))]) (p.ag.length) ?_ ⟨0,mi,⟨cF _,Eu⟩,rfl,rfl,rfl⟩ ?_
    · refine Dy ?_
      refine B6 ?_;simp[bH,bO,gM,aK]
    rintro τ' H' mm ⟨k,mi,⟨qP,Hc⟩,rfl,rfl,rfl⟩
    refine ah (o4 ·) ?_
    refine aD fun lK bN=>?_
    refine bf rfl (fun ht=>?_) (fun ht=>?_)
    · have aA:k<p.ag.length:=by simp at ht;omega
      have PI:=Lv (p:=p) (show k+1≤p.ag.length by omega)
      have ej:gM p (k+1)=(gM p k++cZ 2 k (nth p.ag k).w)++cZ 3 k 1:=rfl
      have Eo:(gM p (k+1)).length=(gM p k).length+(nth p.ag k).w+1:=by rw[ej,List.length_append,List.length_append,dD,dD]
      have hsl2:(gM p k++cZ 2 k (nth p.ag k).w).length=(gM p k).length+(nth p.ag k).w:=by rw[List.length_append,dD]
      refine bg (bN _ _ ?_)
      refine aD fun nV df=>?_
      refine aW ?_
      refine ah (o4 ·) ?_
      refine aZ hp ax hc rfl fun sY eG=>?_
      refine o4 ?_
      refine Je (bH ⟨p,gM p k,mi,out,dr,fo⟩ gs μ) ([.cells (ak (iL (nth p.ag k)))]) (II ⟨p,gM p k,mi,out,dr,fo⟩ gs μ 2 k (nth p.ag k).w Hc (fun j hh=>by have:=Jf hh;simp only at this;omega) (by omega) (by omega) (by omega) (by omega) (by simp only;omega)) ?_
      rintro _ _ ⟨Dt,hm4,rfl,rfl⟩
      refine⟨rfl,?_⟩
      refine o4 ?_
      refine eG _ _ ?_
      refine bT hp ax hc rfl fun pE dB=>?_
      refine o4 ?_
      refine Je (bH ⟨p,gM p k++cZ 2 k (nth p.ag k).w,Dt,out,dr,fo⟩ gs μ) ([.cells (ak (iL (nth p.ag k)))]) (II ⟨p,gM p k++cZ 2 k (nth p.ag k).w,Dt,out,dr,fo⟩ gs μ 3 k 1 hm4 (fun j hh=>by rcases p6.1 hh with hh|hh;(have:=Jf hh;simp only at this;omega);(have:=(Dk hh).1;simp only at this;omega)) (by omega) (by omega) (by omega) (by omega) (by simp only;omega)) ?_
      rintro _ _ ⟨mi3,hm5,rfl,rfl⟩
      refine⟨rfl,?_⟩
      refine o4 ?_
      refine dB _ _ (df _ _ ?_)
      refine bT hp ax hc rfl fun rZ ey=>?_
      refine o4 ?_
      refine ey _ _ ⟨_,_,_,?_,⟨k+1,mi3,⟨by omega,by rw[ej];exact hm5⟩,rfl,rfl,rfl⟩,?_⟩
      · first|omega|(simp only[List.length_cons];omega)|(dsimp only;omega)
      · refine Jd [0,1,2,3,4,5,6,7] ?_
        refine Dy ?_
        refine B6 ?_;rw[ej]
    · have bM:k=p.ag.length:=by simp at ht;omega
      subst bM
      refine cJ (cX _ _ ?_)
      refine ah (o4 ·) ?_
      refine aW ?_
      refine cU hp (fun τ' H' mm=>∃(k:Nat) (mi:Mp),(k≤p.aE.length∧oU (iN p k) mi)∧mm=p.aE.length - k∧H'=bH ⟨p,iN p k,mi,out,dr,fo⟩ gs μ∧τ'=aF [(0,.op 0 0),(49,.d (iD p.aE.length)),(50,.d (iD k))]) (p.aE.length) ?_ ⟨0,mi,⟨cF _,Hc⟩,rfl,rfl,rfl⟩ ?_
      · refine Dy ?_
        refine B6 ?_;simp[bH,bO,iN,aK]
      rintro τ' H' mm ⟨k,mi,⟨Hj,hm6⟩,rfl,rfl,rfl⟩
      refine ah (o4 ·) ?_
      refine aD fun sX fa=>?_
      refine bf rfl (fun ht=>?_) (fun ht=>?_)
      · have aA:k<p.aE.length:=by simp at ht;omega
        have PI:=Lu (p:=p) (show k+1≤p.aE.length by omega)
        have ej:iN p (k+1)=iN p k++cZ 4 k 1:=rfl
        have Eo:(iN p (k+1)).length=(iN p k).length+1:=by rw[ej,List.length_append,dD]
        refine bg (fa _ _ ?_)
        refine aD fun yj im=>?_
        refine aW ?_
        refine aZ hp ax hc rfl fun yi ik=>?_
        simp -dsimp -implicitDefEqProofs (disch:=first|assumption|omega|(simp only[aH,aQ,bc,dD,lP,mW,mV]<;>omega)|decide) only[aN,↓reduceIte,Nat.reduceEqDiff,Nat.reduceAdd,D.fix,Int.reduceToNat,Nat.reduceMul,Nat.reduceBNe,Nat.reduceBEq,ch,bH,bO,aK,aY,tZ,vL,qk,r8,jT,iL,nS,sD]
        refine ik _ _ ?_
        refine bT hp ax hc rfl fun vA fM=>?_
        refine o4 ?_
        refine Je (bH ⟨p,iN p k,mi,out,dr,fo⟩ gs μ) ([]) (II ⟨p,iN p k,mi,out,dr,fo⟩ gs μ 4 k 1 hm6 (fun j hh=>by have:=Wa hh;simp only at this;omega) (by omega) (by omega) (by omega) (by omega) (by simp only;omega)) ?_
        rintro _ _ ⟨Dt,hm7,rfl,rfl⟩
        refine⟨rfl,?_⟩
        refine o4 ?_
        refine fM _ _ (im _ _ ?_)
        refine bT hp ax hc rfl fun yh fG=>?_
        refine o4 ?_
        refine fG _ _ ⟨_,_,_,?_,⟨k+1,Dt,⟨by omega,by rw[ej];exact hm7⟩,rfl,rfl,rfl⟩,?_⟩
        · first|omega|(simp only[List.length_cons];omega)|(dsimp only;omega)
        · refine Jd [0,1,2,3,4,5,6,7] ?_
          refine Dy ?_
          refine B6 ?_;rw[ej]
      · have bM:k=p.aE.length:=by simp at ht;omega
        subst bM
        refine cJ ?_
        try dsimp only[cC,cI]
        refine⟨aF [],bH ⟨p,aU p,mi,out,dr,fo⟩ gs μ,?_,?_⟩
        · refine Jd [0,1,2,3,4,5,6,7] ?_
          refine Rt.end (cw _) ?_
          refine B6 ?_;simp[bH,bO,aU,aK,sD]
        refine IU rfl ?_
        show ∃_,_
        exact⟨mi,hm6,rfl,rfl⟩
end Go.Proofs.YtapjobndmmkanaaGreat
