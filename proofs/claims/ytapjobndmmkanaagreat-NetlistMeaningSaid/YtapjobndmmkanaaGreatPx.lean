/- The reference's inputs, driven outputs and firings of a process. -/
import Derived.Test.YtapjobndmmkanaaGreatQr
import Derived.Test.YtapjobndmmkanaaGreatPt
import Derived.Test.YtapjobndmmkanaaGreatPn
import Derived.Test.YtapjobndmmkanaaGreatPl
set_option linter.unusedVariables false
set_option linter.unusedSimpArgs false
set_option maxRecDepth 100000
set_option maxHeartbeats 4000000
namespace Go.Proofs.YtapjobndmmkanaaGreat
open Go.Proofs.Tryz
open Go Go.RowKit
section
def J9(p:Pr)(w:aB):Prop:=(w.kind=1∧∃k,w.i=((k:Nat):Int)∧k<p.ag.length)∨(w.kind=2∧∃k,w.i=((k:Nat):Int)∧k<p.ae.length)∨(w.kind=3∧∃k,w.i=((k:Nat):Int)∧k<p.ae.length)∨(w.kind=4∧∃k,w.i=((k:Nat):Int)∧k<p.ao.length)
section
variable {p:Pr}
theorem Yh:∀i,i≤p.ag.length→∀w∈eW p i,J9 p w
 |0,_=>fun w hw=>by cases hw
 |i+1,hi=>by
  rw[eW]
  exact sH (Yh i (by omega)) (vW fun k hk=>.inl ⟨rfl,i,rfl,by omega⟩)
theorem Yg:∀i,i≤p.ae.length→∀w∈eJ p i,J9 p w
 |0,_=>Yh _ (bm _)
 |i+1,hi=>by
  rw[eJ]
  exact sH (sH (Yg i (by omega)) (vW fun k hk=>.inr (.inl ⟨rfl,i,rfl,by omega⟩))) (vW fun k hk=>.inr (.inr (.inl ⟨rfl,i,rfl,by omega⟩)))
theorem Yf:∀i,i≤p.ao.length→∀w∈fq p i,J9 p w
 |0,_=>Yg _ (bm _)
 |i+1,hi=>by
  rw[fq]
  exact sH (Yf i (by omega)) (vW fun k hk=>.inr (.inr (.inr ⟨rfl,i,rfl,by omega⟩)))
theorem ylg{w:aB}(hw:w∈dN p):J9 p w:=Yf _ (bm _) w hw
end
theorem Aj{p q:Prop}(hq:q)(h:p=q:=by
 conv=>lhs;simp -dsimp -implicitDefEqProofs (disch:=first|assumption|omega|(simp only[aK,aT,uW,ft]<;>omega)|decide) only[aP,↓reduceIte,Nat.reduceEqDiff,Nat.reduceAdd,D.fix,Int.reduceToNat,Nat.reduceMul,Nat.reduceBNe,Nat.reduceBEq,cv,aD,fG,eT,cH,cn,sD,nS,bw]):p:=h.mpr hq
theorem O3{p q:Prop}(hq:q)(h:p=q:=by
 conv=>lhs;simp -dsimp -implicitDefEqProofs (disch:=first|assumption|omega|(simp only[aK,aT,uW,ft]<;>omega)|decide) only[aP,↓reduceIte,Nat.reduceEqDiff,Nat.reduceAdd,D.fix,Int.reduceToNat,Nat.reduceMul,Nat.reduceBNe,Nat.reduceBEq,cv,aD,fG,eT,cH,cn,sD,nS]):p:=h.mpr hq
theorem Cw{m:List Nat}{τ τ':Fr}{H H':ak}(h2:H=H')(h:fm τ τ':=by
 repeat (first|exact bT _|refine bM ?_ (by first|rfl|(simp[aR,aT,uW,ft];done)|simp[aR,aT,uW,ft, *]))):Rt m τ H τ' H':=Rt.end h h2
theorem Cv(k:List Nat){m:List Nat}{τ τ1:Fr}{H H1:ak}(h:Rt m (fun t=>c7 k (τ t)) (dg k H) τ1 H1)(a:∀i∈m,k[i]? =some i:=by decide)(b:k.Nodup:=by decide)(c:∀i∈k,i<H.length:=by
 simp[eS,dg]):Rt m τ H τ1 H1:=Rt.trans (Rt.gc a b c) h
theorem sA{p q r:Prop}(e:r)(hq:q)(h:r→p=q:=by
 intro hY
 conv=>lhs;simp -dsimp -implicitDefEqProofs (disch:=first|assumption|omega|(simp only[aK,aT,uW,ft]<;>omega)|decide) only[aP,↓reduceIte,Nat.reduceEqDiff,Nat.reduceAdd,D.fix,Int.reduceToNat,Nat.reduceMul,Nat.reduceBNe,Nat.reduceBEq,cv,aD,fG,eT,cH,cn,sD,nS,bw,hY]):p:=(h e).mpr hq
theorem D6{p:Prop}(h:p:=by
 first|rfl|(simp only[cD,Nat.reduceAdd,↓reduceIte,Nat.reduceEqDiff,cv,aD,fG,eT,cH,cn,sD,nS];first|done|rfl)):p:=h
theorem yfn(p:Pr)(hP:fD p)(s:im)(heads:List Head)(rooms:List Bool)(h:qt p s heads rooms):cC prog 24 [cv p,.agg (fG s),.agg [eT heads,bn rooms]] (.d (bn (oF s heads rooms (dN p)))):=by
 have jR:=h.rl;have hhl:=h.hl;have sf:=h.ol
 have px:=(OV hP).wi
 have iJ:(dN p).length≤17:=hP.ins
 refine ez (fn:=f24) (by kernel_rfl) func24 rfl (bN rfl) fun c hc hp=>?_
 refine dG (τ':=aG [(0,.d (cv p)),(1,.d (.agg (fG s))),(2,.d (.agg [eT heads,bn rooms]))]) (by repeat (first|exact bT _|refine bM ?_ (by first|rfl|(simp[aR,aT,uW,ft];done)|simp[aR,aT,uW,ft, *]))) ?_
 refine aj (Aj ·) ?_
 refine bC hp ax hc rfl fun K2 bG=>?_
 refine Aj ?_
 refine cQ (ydy p hP.ok) rfl ?_
 refine Aj ?_
 refine bG _ _ ?_
 refine aj (Aj ·) ?_
 refine aH fun K4 dD=>?_
 refine aj (O3 ·) ?_
 refine aW ?_
 refine c9 hp (fun τ' H' mm=>∃(k:Nat),(k≤(dN p).length)∧mm=(dN p).length - k∧H'=[.cells (au (aD p)),.cells (au (fG s)),.cells [.d (eT heads),.d (bn rooms)],.cells (au (((oF s heads rooms (dN p)).take k).map oD))]∧τ'=aG [(3,.op 0 0),(4,.op 1 0),(5,.op 2 0),(7,.d (cH (dN p))),(8,.os 1 3 0 k),(9,.d (iD k))]) ((dN p).length) ?_ ⟨0,cy _,rfl,rfl,rfl⟩ ?_
 ·refine Cw ?_
  exact D6
 rintro τ' H' mm ⟨k,hk,rfl,rfl,rfl⟩
 refine aH fun K6 cF=>?_
 refine aj (Aj ·) ?_
 refine aX rfl (fun ht=>?_) (fun ht=>?_)
 ·have aA:k<(dN p).length:=by simp at ht;omega
  have mY:=my aA
  have hW:=px _ mY
  have hI:=ylg mY
  have j9:=AF aA
  have kX:(oF s heads rooms (dN p)).take (k+1)=(oF s heads rooms (dN p)).take k++[zC s heads rooms (nth (dN p) k)]:=by
   rw[uX (show k<(oF s heads rooms (dN p)).length by rw[uW];exact aA)]
   congr 2
   exact vZ aA
  obtain⟨w,hw⟩:∃w,w=nth (dN p) k:=⟨_,rfl⟩
  rw[←hw]at hW hI j9 kX
  clear hw mY
  obtain⟨v,hv⟩:∃v,v=zC s heads rooms w:=⟨_,rfl⟩
  rw[←hv]at kX
  obtain⟨j,hj⟩:∃j:Nat,w.i=j:=⟨w.i.toNat,by have:=hW.i0;omega⟩
  obtain⟨b,hb⟩:∃b:Nat,w.bit=b:=⟨w.bit.toNat,by have:=hW.b0;omega⟩
  have Rq:=hW.b7
  have hu:IntKind.u64.wrap (b:Int)=b:=An (by omega) (by omega)
  unfold zC at hv
  refine bB (cF _ _ ?_)
  refine aH fun K8 dC=>?_
  refine aW ?_
  refine bC hp ax hc rfl fun K9 cJ=>?_
  simp -dsimp -implicitDefEqProofs (disch:=first|assumption|omega|(simp only[aK,aT,uW,ft]<;>omega)|decide) only[aP,↓reduceIte,Nat.reduceEqDiff,Nat.reduceAdd,D.fix,Int.reduceToNat,Nat.reduceMul,Nat.reduceBNe,Nat.reduceBEq,cv,aD,fG,eT,cH,cn,sD,nS,j9,qK,bw]
  refine cJ _ _ ?_
  refine aj (O3 ·) ?_
  refine aH fun lz cm=>?_
  have fQ:∀τ' H',(∃τ1 H1,H1=[.cells (au (aD p)),.cells (au (fG s)),.cells [.d (eT heads),.d (bn rooms)],.cells (au (((oF s heads rooms (dN p)).take k).map oD))]∧τ1=aG [(3,.op 0 0),(4,.op 1 0),(5,.op 2 0),(7,.d (cH (dN p))),(8,.os 1 3 0 k),(9,.d (iD k)),(11,.d (oD v))]∧Rt [] τ' H' τ1 H1)→lz τ' H':=by
   rintro τ' H' ⟨_,_,rfl,rfl,rq⟩
   refine cm _ _ (bI hp rq ?_)
   clear rq
   refine jX (Aj ·) (dC _ _ ?_)
   refine bA hp ax hc rfl fun rN dQ=>?_
   refine Aj ?_
   refine dQ _ _ ⟨_,_,_,?_,⟨k+1,by omega,rfl,rfl,rfl⟩,?_⟩
   ·first|omega|(simp only[List.length_cons];omega)|(dsimp only;omega)
   ·refine Cv [0,1,2,5] ?_
    refine Cw ?_
    simp only[cD,Nat.reduceAdd,↓reduceIte,Nat.reduceEqDiff,cv,aD,fG,eT,cH,cn,sD,nS];rw[kX];simp[oD]
  refine aj (Aj ·) ?_
  refine aW ?_
  refine bC hp ax hc rfl fun tG ea=>?_
  rcases hI with⟨e,j',e2,hl⟩|⟨e,j',e2,hl⟩|⟨e,j',e2,hl⟩|⟨e,j',e2,hl⟩<;>(have ej:j'=j:=(by omega);subst ej)
  ·rw[e,if_pos rfl,hj,hb,decide_eq_true (show(j':Int)<s.ag.length by omega),Bool.true_and]at hv
   simp only[A7,Int.toNat_natCast]at hv
   have g1:(s.ag.map iD)[j']? =some (iD (nth s.ag j')):=dm (by omega)
   refine sA e ?_
   refine ea _ _ ?_
   refine aX rfl (fun ht=>?_) (fun ht=>?_)
   ·refine uR ax hc mixed rfl (q:=0) (by kernel_rfl) (by kernel_rfl) fun pM df=>?_
    refine sA (aL hj (aL hb (aL hu g1))) ?_
    refine df _ _ (fQ _ _ ⟨_,_,rfl,rfl,?_⟩)
    refine Cv [0,1,2,3] ?_
    refine Cw ?_
    exact D6
   ·exact absurd ht (by decide)
  ·rw[e,if_neg (by decide),if_pos rfl,hj,hb,decide_eq_true (show(j':Int)<heads.length by omega),Bool.true_and]at hv
   simp only[A7,Int.toNat_natCast]at hv
   have h0:=yo (l:=heads) (show j'<heads.length by omega)
   have h1:=yn (l:=heads) (show j'<heads.length by omega)
   refine sA e ?_
   refine ea _ _ ?_
   refine aX rfl (fun ht=>?_) (fun ht=>?_)
   ·exact absurd ht (by decide)
   ·refine aj (sA e ·) ?_
    refine aX rfl (fun ht=>?_) (fun ht=>?_)
    ·refine uR ax hc mixed rfl (q:=0) (by kernel_rfl) (by kernel_rfl) fun ye fP=>?_
     rcases tf (nth heads j').has with qh|qh
     ·rw[qh,Bool.true_and]at hv
      refine sA (aL hj (aL hb (aL hu (aL h0 (aL h1 qh))))) ?_
      refine fP _ _ (fQ _ _ ⟨_,_,rfl,rfl,?_⟩)
      refine Cv [0,1,2,3] ?_
      refine Cw ?_
      exact D6
     ·rw[qh,Bool.false_and]at hv
      refine sA (aL hj (aL hb (aL hu (aL h0 (aL h1 qh))))) ?_
      refine fP _ _ (fQ _ _ ⟨_,_,rfl,rfl,?_⟩)
      refine Cv [0,1,2,3] ?_
      refine Cw ?_
      exact D6
    ·exact absurd ht (by decide)
  ·rw[e,if_neg (by decide),if_neg (by decide),if_pos rfl,hj,decide_eq_true (show(j':Int)<heads.length by omega),Bool.true_and]at hv
   simp only[Int.toNat_natCast]at hv
   have h0:=yo (l:=heads) (show j'<heads.length by omega)
   refine sA e ?_
   refine ea _ _ ?_
   refine aX rfl (fun ht=>?_) (fun ht=>?_)
   ·exact absurd ht (by decide)
   ·refine aj (sA e ·) ?_
    refine aX rfl (fun ht=>?_) (fun ht=>?_)
    ·exact absurd ht (by decide)
    ·refine aj (sA e ·) ?_
     refine aX rfl (fun ht=>?_) (fun ht=>?_)
     ·refine bA hp ax hc rfl fun yU ib=>?_
      refine sA (aL hj h0) ?_
      refine ib _ _ (fQ _ _ ⟨_,_,rfl,rfl,?_⟩)
      refine Cv [0,1,2,3] ?_
      refine Cw ?_
      exact D6
     ·exact absurd ht (by decide)
  ·rw[e,if_neg (by decide),if_neg (by decide),if_neg (by decide),hj,decide_eq_true (show(j':Int)<rooms.length by omega),Bool.true_and,decide_eq_true rfl,Bool.true_and]at hv
   simp only[Int.toNat_natCast]at hv
   have g1:(rooms.map oD)[j']? =some (oD (nth rooms j')):=dm (by omega)
   refine sA e ?_
   refine ea _ _ ?_
   refine aX rfl (fun ht=>?_) (fun ht=>?_)
   ·exact absurd ht (by decide)
   ·refine aj (sA e ·) ?_
    refine aX rfl (fun ht=>?_) (fun ht=>?_)
    ·exact absurd ht (by decide)
    ·refine aj (sA e ·) ?_
     refine aX rfl (fun ht=>?_) (fun ht=>?_)
     ·exact absurd ht (by decide)
     ·refine aj (sA e ·) ?_
      refine aX rfl (fun ht=>?_) (fun ht=>?_)
      ·refine bA hp ax hc rfl fun BK jn=>?_
       refine sA (aL hj g1) ?_
       refine jn _ _ (fQ _ _ ⟨_,_,rfl,rfl,?_⟩)
       refine Cv [0,1,2,3] ?_
       refine Cw ?_
       exact D6
      ·exact absurd ht (by decide)
 ·have cf:k=(dN p).length:=by simp at ht;omega
  refine cL (dD _ _ ?_)
  refine aj (O3 ·) ?_
  refine bh ?_
  show aC _ _=_
  simp (disch:=first|assumption|omega|(simp only[aK,aT,uW,ft]<;>omega)|decide) only[gF,Nat.reduceAdd,D.fix,↓reduceIte,Nat.reduceEqDiff,cv,aD,fG,eT,cH,cn,sD,nS]
  rw[cf,yE (by rw[uW];exact bm _)];simp[uW,bn]
theorem He{p q:Prop}(hq:q)(h:p=q:=by
 conv=>lhs;simp -dsimp -implicitDefEqProofs (disch:=first|assumption|omega|(simp only[aK,aT,bx]<;>omega)|decide) only[aP,↓reduceIte,Nat.reduceEqDiff,Nat.reduceAdd,D.fix,Int.reduceToNat,Nat.reduceMul,Nat.reduceBNe,Nat.reduceBEq,eF,eZ,cH,jf,ga,bw]):p:=h.mpr hq
theorem WB{m:List Nat}{τ τ':Fr}{H H':ak}(h2:H=H')(h:fm τ τ':=by
 repeat (first|exact bT _|refine bM ?_ (by first|rfl|(simp[aR,aT,bx];done)|simp[aR,aT,bx, *]))):Rt m τ H τ' H':=Rt.end h h2
theorem yfo(n:Net)(v:List Bool)(hd:Mu v.length n.cG)(QC:v.length≤1000000)(mG:n.cG.length≤1000):cC prog 26 [eF n,bn v] (.d (.agg [cH n.out,bn (n.cG.map fun d=>nth v d.toNat)])):=by
 refine ez (fn:=f26) (by kernel_rfl) func26 rfl (bN rfl) fun c hc hp=>?_
 refine dG (τ':=aG [(0,.d (eF n)),(1,.d (bn v))]) (by repeat (first|exact bT _|refine bM ?_ (by first|rfl|(simp[aR,aT,bx];done)|simp[aR,aT,bx, *]))) ?_
 refine aj (He ·) ?_
 refine aj (He ·) ?_
 refine aH fun K3 bS=>?_
 refine bC hp ax hc rfl fun K4 dD=>?_
 simp -dsimp -implicitDefEqProofs (disch:=first|assumption|omega|(simp only[aK,aT,bx]<;>omega)|decide) only[aP,↓reduceIte,Nat.reduceEqDiff,Nat.reduceAdd,D.fix,Int.reduceToNat,Nat.reduceMul,Nat.reduceBNe,Nat.reduceBEq,eF,eZ,cH,jf,ga]
 refine dD _ _ ?_
 refine aW ?_
 refine c9 hp (fun τ' H' mm=>∃(k:Nat),(k≤n.cG.length)∧mm=n.cG.length - k∧H'=[.cells (au (eZ n)),.cells [ga,ga],.cells [.d (cH n.out),.os 1 3 0 k],.cells (au (((n.cG.map fun d=>nth v d.toNat).take k).map oD))]∧τ'=aG [(1,.d (bn v)),(2,.op 0 0),(4,.op 1 0),(5,.op 2 0),(6,.d (iD k))]) (n.cG.length) ?_ ⟨0,cy _,rfl,rfl,rfl⟩ ?_
 ·refine Rt.trans (Rt.gq 2 1 1 rfl rfl) ?_
  refine WB ?_
  first|rfl|(simp only[cD,Nat.reduceAdd,↓reduceIte,Nat.reduceEqDiff,eF,eZ,cH,jf,ga];first|done|rfl)
 rintro τ' H' mm ⟨k,hk,rfl,rfl,rfl⟩
 refine aH fun K5 fA=>?_
 refine aj (He ·) ?_
 refine aX rfl (fun ht=>?_) (fun ht=>?_)
 ·have aA:k<n.cG.length:=by simp at ht;omega
  have hdk:=hd k aA
  have gD:(n.cG.map iD)[k]? =some (iD (nth n.cG k)):=dm aA
  have gV:(v.map oD)[(nth n.cG k).toNat]? =some (oD (nth v (nth n.cG k).toNat)):=dm (by omega)
  have kX:(n.cG.map fun d=>nth v d.toNat).take (k+1)=(n.cG.map fun d=>nth v d.toNat).take k++[nth v (nth n.cG k).toNat]:=by
   rw[uX (show k<(n.cG.map fun d=>nth v d.toNat).length by simpa using aA)]
   congr 2
   exact vZ aA
  refine bB (fA _ _ ?_)
  refine aH fun K7 de=>?_
  refine aW ?_
  refine uR ax hc mixed rfl (q:=2) (by kernel_rfl) (by kernel_rfl) fun K8 dC=>?_
  simp -dsimp -implicitDefEqProofs (disch:=first|assumption|omega|(simp only[aK,aT,bx]<;>omega)|decide) only[aP,↓reduceIte,Nat.reduceEqDiff,Nat.reduceAdd,D.fix,Int.reduceToNat,Nat.reduceMul,Nat.reduceBNe,Nat.reduceBEq,eF,eZ,cH,jf,ga,gD,gV,bw]
  refine dC _ _ (de _ _ ?_)
  refine bA hp ax hc rfl fun K9 cJ=>?_
  refine He ?_
  refine cJ _ _ ⟨_,_,_,?_,⟨k+1,by omega,rfl,rfl,rfl⟩,?_⟩
  ·first|omega|(simp only[List.length_cons];omega)|(dsimp only;omega)
  ·refine Cv [0,1,2,5] ?_
   refine WB ?_
   simp only[cD,Nat.reduceAdd,↓reduceIte,Nat.reduceEqDiff,eF,eZ,cH,jf,ga];rw[kX];simp[oD]
 ·have cf:k=n.cG.length:=by simp at ht;omega
  refine cL (bS _ _ ?_)
  refine aj (He ·) ?_
  refine bh ?_
  try dsimp only[fb,fc]
  refine iH rfl ?_
  simp -dsimp -implicitDefEqProofs (disch:=first|assumption|omega|(simp only[aK,aT,bx]<;>omega)|decide) only[aP,↓reduceIte,Nat.reduceEqDiff,Nat.reduceAdd,D.fix,Int.reduceToNat,Nat.reduceMul,Nat.reduceBNe,Nat.reduceBEq,eF,eZ,cH,jf,ga,Pc,Pb]
  show aC _ _=_
  simp (disch:=first|assumption|omega|(simp only[aK,aT,bx]<;>omega)|decide) only[gF,Nat.reduceAdd,D.fix,↓reduceIte,Nat.reduceEqDiff,eF,eZ,cH,jf,ga]
  rw[cf,yE (by simp)]
end
theorem R5{l:List Bool}{k:Nat}{b:Bool}:(l.map oD).set k (oD b)=(l.set k b).map oD:=by rw[List.map_set]
theorem MC{l:List Int}{k:Nat}{v:Int}:(l.map iD).set k (iD v)=(l.set k v).map iD:=by rw[List.map_set]
theorem SY{b:Bool}:∀{l:List Head} {k:Nat},k<l.length→(l.flatMap iG).set (k*2) (oD b)=(l.set k ⟨b,(nth l k).v⟩).flatMap iG
 |[],k,h=>absurd h (Nat.not_lt_zero _)
 |a::l,0,_=>rfl
 |a::l,k+1,h=>by
  have ih:=SY (b:=b) (l:=l) (k:=k) (by simpa using h)
  rw[List.flatMap_cons,List.set_cons_succ,List.flatMap_cons,show nth (a::l) (k+1)=nth l k from rfl,←ih,show(k+1)*2=k*2+1+1 by omega]
  rfl
theorem SX{v:Int}:∀{l:List Head} {k:Nat},k<l.length→(l.flatMap iG).set (k*2+1) (iD v)=(l.set k ⟨(nth l k).has,v⟩).flatMap iG
 |[],k,h=>absurd h (Nat.not_lt_zero _)
 |a::l,0,_=>rfl
 |a::l,k+1,h=>by
  have ih:=SX (v:=v) (l:=l) (k:=k) (by simpa using h)
  rw[List.flatMap_cons,List.set_cons_succ,List.flatMap_cons,show nth (a::l) (k+1)=nth l k from rfl,←ih,show(k+1)*2+1=k*2+1+1+1 by omega]
  rfl
def l8(p:Pr)(f:aB→Bool)(l:List aB):ak:=[.cells (au ((nE f l 1 p.ag.length).map iD)),.cells (au ((u5 f l 5 p.ae.length).map oD)),.cells (au ((oh f l p.ao.length).flatMap iG)),.cells (au ((nE f l 9 p.mems.length).map iD)),.cells (au ((nE f l 10 p.mems.length).map iD)),.cells (au ((u5 f l 8 p.mems.length).map oD))]
theorem yfp{f:aB→Bool}(m:Nat):(List.replicate m [AV.d (.val (.bool false)),AV.d (.val (.int .i64 0))]).flatten=au ((oh f [] m).flatMap iG):=by rw[yk9];exact Yj m
theorem tH{p q:Prop}(hq:q)(h:p=q:=by
 conv=>lhs;simp -dsimp -implicitDefEqProofs (disch:=first|assumption|omega|(simp only[aK,dK,fM,dT,dS,aT,ft,qQ,uS,sG,wc]<;>omega)|decide) only[aP,↓reduceIte,Nat.reduceEqDiff,Nat.reduceAdd,D.fix,Int.reduceToNat,Nat.reduceMul,Nat.reduceBNe,Nat.reduceBEq,cv,aD,fG,ai,cH,cn,jm,eT,iZ,ga,l8,sD,nS,qI,qP,qE,qU,qR,qH,qO,qT,qS,List.cons_append,List.nil_append,bw]):p:=h.mpr hq
theorem Ye{p q:Prop}(hq:q)(h:p=q:=by
 conv=>lhs;simp -dsimp -implicitDefEqProofs (disch:=first|assumption|omega|(simp only[aK,dK,fM,dT,dS,aT,ft,qQ,uS,sG,wc]<;>omega)|decide) only[aP,↓reduceIte,Nat.reduceEqDiff,Nat.reduceAdd,D.fix,Int.reduceToNat,Nat.reduceMul,Nat.reduceBNe,Nat.reduceBEq,cv,aD,fG,ai,cH,cn,jm,eT,iZ,ga,l8,sD,nS,qI,qP,qE,qU,qR,qH,qO,qT,qS,List.cons_append,List.nil_append]):p:=h.mpr hq
theorem wA(k:List Nat){m:List Nat}{τ τ1:Fr}{H H1:ak}(h:Rt m (fun t=>c7 k (τ t)) (dg k H) τ1 H1)(a:∀i∈m,k[i]? =some i:=by decide)(b:k.Nodup:=by decide)(c:∀i∈k,i<H.length:=by
 simp[eS,dg]):Rt m τ H τ1 H1:=Rt.trans (Rt.gc a b c) h
theorem rO{m:List Nat}{τ τ':Fr}{H H':ak}(h2:H=H')(h:fm τ τ':=by
 repeat (first|exact bT _|refine bM ?_ (by first|rfl|(simp[aR,dK,fM,dT,dS,aT,ft,qQ,uS,sG,wc];done)|simp[aR,dK,fM,dT,dS,aT,ft,qQ,uS,sG,wc, *]))):Rt m τ H τ' H':=Rt.end h h2
theorem Yd{p q r:Prop}(e:r)(hq:q)(h:r→p=q:=by
 intro hY
 conv=>lhs;simp -dsimp -implicitDefEqProofs (disch:=first|assumption|omega|(simp only[aK,dK,fM,dT,dS,aT,ft,qQ,uS,sG,wc]<;>omega)|decide) only[aP,↓reduceIte,Nat.reduceEqDiff,Nat.reduceAdd,D.fix,Int.reduceToNat,Nat.reduceMul,Nat.reduceBNe,Nat.reduceBEq,cv,aD,fG,ai,cH,cn,jm,eT,iZ,ga,l8,sD,nS,qI,qP,qE,qU,qR,qH,qO,qT,qS,List.cons_append,List.nil_append,List.length_map,bw,hY]):p:=(h e).mpr hq
theorem gg{p q r:Prop}(e:r)(hq:q)(h:r→p=q:=by
 intro hY
 conv=>lhs;simp -dsimp -implicitDefEqProofs (disch:=first|assumption|omega|(simp only[aK,dK,fM,dT,dS,aT,ft,qQ,uS,sG,wc]<;>omega)|decide) only[aP,↓reduceIte,Nat.reduceEqDiff,Nat.reduceAdd,D.fix,Int.reduceToNat,Nat.reduceMul,Nat.reduceBNe,Nat.reduceBEq,cv,aD,fG,ai,cH,cn,jm,eT,iZ,ga,l8,sD,nS,qI,qP,qE,qU,qR,qH,qO,qT,qS,List.cons_append,List.nil_append,bw,hY]):p:=(h e).mpr hq
theorem vg{p q:Prop}(hq:q)(h:p=q:=by
 conv=>lhs;simp only[cD,Nat.reduceAdd,↓reduceIte,Nat.reduceEqDiff,cv,aD,fG,ai,cH,cn,jm,eT,iZ,ga,l8,sD,nS,qI,qP,qE,qU,qR,qH,qO,qT,qS,List.cons_append,List.nil_append]):p:=h.mpr hq
theorem NM{p:Prop}(h:p:=by
 first|rfl|(simp only[cD,Nat.reduceAdd,↓reduceIte,Nat.reduceEqDiff,cv,aD,fG,ai,cH,cn,jm,eT,iZ,ga,l8,sD,nS,qI,qP,qE,qU,qR,qH,qO,qT,qS,List.cons_append,List.nil_append];first|done|rfl)):p:=h
theorem yfs(p:Pr)(hP:fD p)(s:im)(hs:IS p s)(out:List aB)(f:aB→Bool)(ho:∀w∈out,Yq p w∧0≤w.bit∧w.bit≤7)(sf:out.length≤1000):cC prog 25 [cv p,.agg (fG s),.agg [cH out,bn (out.map f)]] (.d (.agg (jm (Ka p s f out)))):=by
 have hr3:=hP.r3;have Bt:=hP.m1;have ht2:=hP.t2;have hq2:=hP.q2
 refine ez (fn:=f25) (by kernel_rfl) func25 rfl (bN rfl) fun c hc hp=>?_
 refine dG (τ':=aG [(0,.d (cv p)),(1,.d (.agg (fG s))),(2,.d (.agg [cH out,bn (out.map f)]))]) (by repeat (first|exact bT _|refine bM ?_ (by first|rfl|(simp[aR,dK,fM,dT,dS,aT,ft,qQ,uS,sG,wc];done)|simp[aR,dK,fM,dT,dS,aT,ft,qQ,uS,sG,wc, *]))) ?_
 refine aj (tH ·) ?_
 refine F5 ax hc mixed rfl (q:=4) (by kernel_rfl) (by kernel_rfl) fun K2 bG=>?_
 refine tH ?_
 refine bG _ _ ?_
 refine F5 ax hc mixed rfl (q:=3) (by kernel_rfl) (by kernel_rfl) fun K3 bS=>?_
 refine tH ?_
 refine bS _ _ ?_
 refine aH fun K4 dD=>?_
 refine aj (Ye ·) ?_
 refine aW ?_
 refine c9 hp (fun τ' H' mm=>∃(k:Nat),(k≤out.length)∧mm=out.length - k∧H'=[.cells (au (aD p)),.cells (au (fG s)),.cells [.d (cH out),.d (bn (out.map f))],.cells iZ,.cells [.d (oD false),.os 1 5 0 p.ag.length,ga,.os 1 6 0 p.ae.length,.os 2 7 0 p.ao.length]]++l8 p f (out.take k)∧τ'=aG [(3,.op 0 0),(4,.op 1 0),(5,.op 2 0),(6,.op 3 0),(7,.op 4 0),(8,.os 1 8 0 p.mems.length),(9,.os 1 9 0 p.mems.length),(10,.os 1 10 0 p.mems.length),(11,.d (iD k))]) (out.length) ?_ ⟨0,cy _,rfl,rfl,rfl⟩ ?_
 ·refine wA [0,1,2,3,7,4,5,6,8,9,10] ?_
  refine rO ?_
  refine vg ?_;simp[l8,yk7,yk8,au,iD,oD,iZ,ga];rw[yfp (f:=f),DL];rfl
 rintro τ' H' mm ⟨k,hk,rfl,rfl,rfl⟩
 refine aH fun K6 cF=>?_
 refine bC hp ax hc rfl fun K7 de=>?_
 by_cases q:k<out.length
 ·have q1:decide ((k:Int)<out.length)=true:=decide_eq_true (by omega)
  refine Yd q1 ?_
  refine de _ _ ?_
  refine jW ?_
  have mY:=my q
  have j9:=AF q
  have gB:(out.flatMap cn)[k*3+2]? =some (iD (nth out k).bit):=(nC (j:=2) qK q (by omega)).trans rfl
  have gv:((out.map f).map oD)[k]? =some (oD (f (nth out k))):=by rw[dm (by simpa using q),vZ q]
  have kX:out.take (k+1)=out.take k++[nth out k]:=uX q
  obtain⟨hO,hb0,Rq⟩:=ho _ mY
  have Ir:∀w∈out.take k,0≤w.bit∧w.bit≤7:=fun w hw=>(ho w (List.mem_of_mem_take hw)).2
  have pC:(out.take k).length≤1000:=by rw[List.length_take];omega
  obtain⟨w,hw⟩:∃w,w=nth out k:=⟨_,rfl⟩
  rw[←hw]at j9 gB gv kX hO hb0 Rq
  clear hw mY
  obtain⟨l,hl⟩:∃l,l=out.take k:=⟨_,rfl⟩
  rw[←hl]at kX Ir pC ⊢
  clear hl
  obtain⟨b,hb⟩:∃b:Nat,w.bit=b:=⟨w.bit.toNat,by omega⟩
  rw[hb]at gB
  have hu:IntKind.u64.wrap (b:Int)=b:=An (by omega) (by omega)
  have eD:=BS (w:=b) (by omega)
  have hbw:wC f w≤128:=jt2 hb0 Rq
  obtain⟨B,ID⟩:∃B,∃_:B=wC f w,True:=⟨_,rfl,trivial⟩
  refine bB (cF _ _ ?_)
  refine aH fun K8 dC=>?_
  refine aW ?_
  refine bC hp ax hc rfl fun K9 cJ=>?_
  simp -dsimp -implicitDefEqProofs (disch:=first|assumption|omega|(simp only[aK,dK,fM,dT,dS,aT,ft,qQ,uS,sG,wc]<;>omega)|decide) only[aP,↓reduceIte,Nat.reduceEqDiff,Nat.reduceAdd,D.fix,Int.reduceToNat,Nat.reduceMul,Nat.reduceBNe,Nat.reduceBEq,cv,aD,fG,ai,cH,cn,jm,eT,iZ,ga,l8,sD,nS,qI,qP,qE,qU,qR,qH,qO,qT,qS,List.cons_append,List.nil_append,j9,qK,bw]
  refine cJ _ _ ?_
  refine aH fun kL bU=>?_
  have IC:∀τ' H',(∃τ1 H1,H1=[.cells (au (aD p)),.cells (au (fG s)),.cells [.d (cH out),.d (bn (out.map f))],.cells iZ,.cells [.d (oD false),.os 1 5 0 p.ag.length,ga,.os 1 6 0 p.ae.length,.os 2 7 0 p.ao.length]]++l8 p f l++[.cells (au (cn w))]∧τ1=aG [(3,.op 0 0),(4,.op 1 0),(5,.op 2 0),(6,.op 3 0),(7,.op 4 0),(8,.os 1 8 0 p.mems.length),(9,.os 1 9 0 p.mems.length),(10,.os 1 10 0 p.mems.length),(11,.d (iD k)),(12,.op 11 0),(13,.d (iD B))]∧Rt [] τ' H' τ1 H1)→kL τ' H':=by
   rintro τ' H' ⟨_,_,rfl,rfl,rq⟩
   refine bU _ _ (bI hp rq ?_)
   clear rq
   obtain⟨ID,_⟩:=ID
   subst ID
   refine bC hp ax hc rfl fun lz cm=>?_
   rcases hO with⟨e,j,e2,hj⟩|⟨e,j,e2,hj⟩|⟨e,j,e2,hj⟩|⟨e,j,e2,hj⟩|⟨e,j,e2,hj⟩|⟨e,j,e2,hj⟩|⟨e,j,e2,hj⟩
   ·have s9:=p4 (f:=f) (l:=l) (kind:=9) (n:=p.mems.length) (w:=w) (by rw[e];decide)
    have ue:=p4 (f:=f) (l:=l) (kind:=10) (n:=p.mems.length) (w:=w) (by rw[e];decide)
    have s5:=vL (f:=f) (l:=l) (kind:=5) (n:=p.ae.length) (w:=w) (by rw[e];decide)
    have s8:=vL (f:=f) (l:=l) (kind:=8) (n:=p.mems.length) (w:=w) (by rw[e];decide)
    have s6:=Hf (f:=f) (l:=l) (n:=p.ao.length) (w:=w) (by rw[e];decide) (by rw[e];decide)
    have s1:=OO (f:=f) (l:=l) (n:=p.ag.length) e e2 hj
    have g1:((nE f l 1 p.ag.length).map iD)[j]? =some (iD (nth (nE f l 1 p.ag.length) j)):=dm (by rw[qQ];exact hj)
    have ti:=Ju (f:=f) (kind:=1) (i:=(j:Int)) Ir
    have xX:=Dq (f:=f) (l:=l) (kind:=1) hj
    obtain⟨S,hS⟩:∃S:Nat,S=kA f (fh l 1 (j:Int)):=⟨_,rfl⟩
    rw[←hS]at ti xX
    rw[xX]at g1 s1
    refine gg e ?_
    refine cm _ _ ?_
    refine aW ?_
    refine aj (gg e ·) ?_
    refine aX rfl (fun ht=>?_) (fun ht=>?_)
    ·refine jX (gg (aL e2 g1) ·) (dC _ _ ?_)
     refine bA hp ax hc rfl fun rM dI=>?_
     refine tH ?_
     refine dI _ _ ⟨_,_,_,?_,⟨k+1,by omega,rfl,rfl,rfl⟩,?_⟩
     ·first|omega|(simp only[List.length_cons];omega)|(dsimp only;omega)
     ·refine wA [0,1,2,3,4,5,6,7,8,9,10] ?_
      refine rO ?_
      refine vg ?_;rw[kX];simp only[l8,←s1,←s5,←s6,←s8,←s9,←ue,←MC];rfl
    ·exact absurd ht (by decide)
   ·have s1:=p4 (f:=f) (l:=l) (kind:=1) (n:=p.ag.length) (w:=w) (by rw[e];decide)
    have s9:=p4 (f:=f) (l:=l) (kind:=9) (n:=p.mems.length) (w:=w) (by rw[e];decide)
    have ue:=p4 (f:=f) (l:=l) (kind:=10) (n:=p.mems.length) (w:=w) (by rw[e];decide)
    have s8:=vL (f:=f) (l:=l) (kind:=8) (n:=p.mems.length) (w:=w) (by rw[e];decide)
    have s6:=Hf (f:=f) (l:=l) (n:=p.ao.length) (w:=w) (by rw[e];decide) (by rw[e];decide)
    have s5:=Yr (f:=f) (l:=l) (n:=p.ae.length) e e2
    refine gg e ?_
    refine cm _ _ ?_
    refine aW ?_
    refine aj (gg e ·) ?_
    refine aX rfl (fun ht=>?_) (fun ht=>?_)
    ·exact absurd ht (by decide)
    ·refine aj (gg e ·) ?_
     refine aX rfl (fun ht=>?_) (fun ht=>?_)
     ·refine uR ax hc mixed rfl (q:=0) (by kernel_rfl) (by kernel_rfl) fun tF eh=>?_
      refine gg (aL e2 gv) ?_
      refine eh _ _ (dC _ _ ?_)
      refine bA hp ax hc rfl fun ye fP=>?_
      refine tH ?_
      refine fP _ _ ⟨_,_,_,?_,⟨k+1,by omega,rfl,rfl,rfl⟩,?_⟩
      ·first|omega|(simp only[List.length_cons];omega)|(dsimp only;omega)
      ·refine wA [0,1,2,3,4,5,6,7,8,9,10] ?_
       refine rO ?_
       refine vg ?_;rw[kX];simp only[l8,←s1,←s5,←s6,←s8,←s9,←ue,←R5];rfl
     ·exact absurd ht (by decide)
   ·have s1:=p4 (f:=f) (l:=l) (kind:=1) (n:=p.ag.length) (w:=w) (by rw[e];decide)
    have s9:=p4 (f:=f) (l:=l) (kind:=9) (n:=p.mems.length) (w:=w) (by rw[e];decide)
    have ue:=p4 (f:=f) (l:=l) (kind:=10) (n:=p.mems.length) (w:=w) (by rw[e];decide)
    have s5:=vL (f:=f) (l:=l) (kind:=5) (n:=p.ae.length) (w:=w) (by rw[e];decide)
    have s8:=vL (f:=f) (l:=l) (kind:=8) (n:=p.mems.length) (w:=w) (by rw[e];decide)
    have s6:=yk5 (f:=f) (l:=l) (n:=p.ao.length) e e2 hj
    have hh:=SY (b:=f w) (l:=oh f l p.ao.length) (k:=j) (by rw[sG];exact hj)
    refine gg e ?_
    refine cm _ _ ?_
    refine aW ?_
    refine aj (gg e ·) ?_
    refine aX rfl (fun ht=>?_) (fun ht=>?_)
    ·exact absurd ht (by decide)
    ·refine aj (gg e ·) ?_
     refine aX rfl (fun ht=>?_) (fun ht=>?_)
     ·exact absurd ht (by decide)
     ·refine aj (gg e ·) ?_
      refine aX rfl (fun ht=>?_) (fun ht=>?_)
      ·refine uR ax hc mixed rfl (q:=0) (by kernel_rfl) (by kernel_rfl) fun wS fB=>?_
       refine gg (aL e2 gv) ?_
       refine fB _ _ (dC _ _ ?_)
       refine bA hp ax hc rfl fun yd gw=>?_
       refine tH ?_
       refine gw _ _ ⟨_,_,_,?_,⟨k+1,by omega,rfl,rfl,rfl⟩,?_⟩
       ·first|omega|(simp only[List.length_cons];omega)|(dsimp only;omega)
       ·refine wA [0,1,2,3,4,5,6,7,8,9,10] ?_
        refine rO ?_
        refine vg ?_;rw[kX];simp only[l8,←s1,←s5,←s6,←s8,←s9,←ue,←hh];rfl
      ·exact absurd ht (by decide)
   ·have s1:=p4 (f:=f) (l:=l) (kind:=1) (n:=p.ag.length) (w:=w) (by rw[e];decide)
    have s9:=p4 (f:=f) (l:=l) (kind:=9) (n:=p.mems.length) (w:=w) (by rw[e];decide)
    have ue:=p4 (f:=f) (l:=l) (kind:=10) (n:=p.mems.length) (w:=w) (by rw[e];decide)
    have s5:=vL (f:=f) (l:=l) (kind:=5) (n:=p.ae.length) (w:=w) (by rw[e];decide)
    have s8:=vL (f:=f) (l:=l) (kind:=8) (n:=p.mems.length) (w:=w) (by rw[e];decide)
    have s6:=yk6 (f:=f) (l:=l) (n:=p.ao.length) e e2 hj
    have g1:=yn (l:=oh f l p.ao.length) (k:=j) (by rw[sG];exact hj)
    have ti:=Ju (f:=f) (kind:=7) (i:=(j:Int)) Ir
    have xX:(nth (oh f l p.ao.length) j).v=((kA f (fh l 7 (j:Int)):Nat):Int):=by rw[PC hj]
    obtain⟨S,hS⟩:∃S:Nat,S=kA f (fh l 7 (j:Int)):=⟨_,rfl⟩
    rw[←hS]at ti xX
    rw[xX]at g1 s6
    have hh:=SX (v:=(S:Int)+((wC f w:Nat):Int)) (l:=oh f l p.ao.length) (k:=j) (by rw[sG];exact hj)
    refine gg e ?_
    refine cm _ _ ?_
    refine aW ?_
    refine aj (gg e ·) ?_
    refine aX rfl (fun ht=>?_) (fun ht=>?_)
    ·exact absurd ht (by decide)
    ·refine aj (gg e ·) ?_
     refine aX rfl (fun ht=>?_) (fun ht=>?_)
     ·exact absurd ht (by decide)
     ·refine aj (gg e ·) ?_
      refine aX rfl (fun ht=>?_) (fun ht=>?_)
      ·exact absurd ht (by decide)
      ·refine aj (gg e ·) ?_
       refine aX rfl (fun ht=>?_) (fun ht=>?_)
       ·refine jX (gg (aL e2 g1) ·) (dC _ _ ?_)
        refine bA hp ax hc rfl fun BJ iT=>?_
        refine tH ?_
        refine iT _ _ ⟨_,_,_,?_,⟨k+1,by omega,rfl,rfl,rfl⟩,?_⟩
        ·first|omega|(simp only[List.length_cons];omega)|(dsimp only;omega)
        ·refine wA [0,1,2,3,4,5,6,7,8,9,10] ?_
         refine rO ?_
         refine vg ?_;rw[kX];simp only[l8,←s1,←s5,←s6,←s8,←s9,←ue,←hh];rfl
       ·exact absurd ht (by decide)
   ·have s1:=p4 (f:=f) (l:=l) (kind:=1) (n:=p.ag.length) (w:=w) (by rw[e];decide)
    have s9:=p4 (f:=f) (l:=l) (kind:=9) (n:=p.mems.length) (w:=w) (by rw[e];decide)
    have ue:=p4 (f:=f) (l:=l) (kind:=10) (n:=p.mems.length) (w:=w) (by rw[e];decide)
    have s5:=vL (f:=f) (l:=l) (kind:=5) (n:=p.ae.length) (w:=w) (by rw[e];decide)
    have s6:=Hf (f:=f) (l:=l) (n:=p.ao.length) (w:=w) (by rw[e];decide) (by rw[e];decide)
    have s8:=Yr (f:=f) (l:=l) (n:=p.mems.length) e e2
    refine gg e ?_
    refine cm _ _ ?_
    refine aW ?_
    refine aj (gg e ·) ?_
    refine aX rfl (fun ht=>?_) (fun ht=>?_)
    ·exact absurd ht (by decide)
    ·refine aj (gg e ·) ?_
     refine aX rfl (fun ht=>?_) (fun ht=>?_)
     ·exact absurd ht (by decide)
     ·refine aj (gg e ·) ?_
      refine aX rfl (fun ht=>?_) (fun ht=>?_)
      ·exact absurd ht (by decide)
      ·refine aj (gg e ·) ?_
       refine aX rfl (fun ht=>?_) (fun ht=>?_)
       ·exact absurd ht (by decide)
       ·refine aj (gg e ·) ?_
        refine aX rfl (fun ht=>?_) (fun ht=>?_)
        ·refine uR ax hc mixed rfl (q:=0) (by kernel_rfl) (by kernel_rfl) fun Dm jT=>?_
         refine gg (aL e2 gv) ?_
         refine jT _ _ (dC _ _ ?_)
         refine bA hp ax hc rfl fun K36 x4=>?_
         refine tH ?_
         refine x4 _ _ ⟨_,_,_,?_,⟨k+1,by omega,rfl,rfl,rfl⟩,?_⟩
         ·first|omega|(simp only[List.length_cons];omega)|(dsimp only;omega)
         ·refine wA [0,1,2,3,4,5,6,7,8,9,10] ?_
          refine rO ?_
          refine vg ?_;rw[kX];simp only[l8,←s1,←s5,←s6,←s8,←s9,←ue,←R5];rfl
        ·exact absurd ht (by decide)
   ·have s1:=p4 (f:=f) (l:=l) (kind:=1) (n:=p.ag.length) (w:=w) (by rw[e];decide)
    have ue:=p4 (f:=f) (l:=l) (kind:=10) (n:=p.mems.length) (w:=w) (by rw[e];decide)
    have s5:=vL (f:=f) (l:=l) (kind:=5) (n:=p.ae.length) (w:=w) (by rw[e];decide)
    have s8:=vL (f:=f) (l:=l) (kind:=8) (n:=p.mems.length) (w:=w) (by rw[e];decide)
    have s6:=Hf (f:=f) (l:=l) (n:=p.ao.length) (w:=w) (by rw[e];decide) (by rw[e];decide)
    have s9:=OO (f:=f) (l:=l) (n:=p.mems.length) e e2 hj
    have g1:((nE f l 9 p.mems.length).map iD)[j]? =some (iD (nth (nE f l 9 p.mems.length) j)):=dm (by rw[qQ];exact hj)
    have ti:=Ju (f:=f) (kind:=9) (i:=(j:Int)) Ir
    have xX:=Dq (f:=f) (l:=l) (kind:=9) hj
    obtain⟨S,hS⟩:∃S:Nat,S=kA f (fh l 9 (j:Int)):=⟨_,rfl⟩
    rw[←hS]at ti xX
    rw[xX]at g1 s9
    refine gg e ?_
    refine cm _ _ ?_
    refine aW ?_
    refine aj (gg e ·) ?_
    refine aX rfl (fun ht=>?_) (fun ht=>?_)
    ·exact absurd ht (by decide)
    ·refine aj (gg e ·) ?_
     refine aX rfl (fun ht=>?_) (fun ht=>?_)
     ·exact absurd ht (by decide)
     ·refine aj (gg e ·) ?_
      refine aX rfl (fun ht=>?_) (fun ht=>?_)
      ·exact absurd ht (by decide)
      ·refine aj (gg e ·) ?_
       refine aX rfl (fun ht=>?_) (fun ht=>?_)
       ·exact absurd ht (by decide)
       ·refine aj (gg e ·) ?_
        refine aX rfl (fun ht=>?_) (fun ht=>?_)
        ·exact absurd ht (by decide)
        ·refine aj (gg e ·) ?_
         refine aX rfl (fun ht=>?_) (fun ht=>?_)
         ·refine jX (gg (aL e2 g1) ·) (dC _ _ ?_)
          refine bA hp ax hc rfl fun K44 RP=>?_
          refine tH ?_
          refine RP _ _ ⟨_,_,_,?_,⟨k+1,by omega,rfl,rfl,rfl⟩,?_⟩
          ·first|omega|(simp only[List.length_cons];omega)|(dsimp only;omega)
          ·refine wA [0,1,2,3,4,5,6,7,8,9,10] ?_
           refine rO ?_
           refine vg ?_;rw[kX];simp only[l8,←s1,←s5,←s6,←s8,←s9,←ue,←MC];rfl
         ·exact absurd ht (by decide)
   ·have s1:=p4 (f:=f) (l:=l) (kind:=1) (n:=p.ag.length) (w:=w) (by rw[e];decide)
    have s9:=p4 (f:=f) (l:=l) (kind:=9) (n:=p.mems.length) (w:=w) (by rw[e];decide)
    have s5:=vL (f:=f) (l:=l) (kind:=5) (n:=p.ae.length) (w:=w) (by rw[e];decide)
    have s8:=vL (f:=f) (l:=l) (kind:=8) (n:=p.mems.length) (w:=w) (by rw[e];decide)
    have s6:=Hf (f:=f) (l:=l) (n:=p.ao.length) (w:=w) (by rw[e];decide) (by rw[e];decide)
    have ue:=OO (f:=f) (l:=l) (n:=p.mems.length) e e2 hj
    have g1:((nE f l 10 p.mems.length).map iD)[j]? =some (iD (nth (nE f l 10 p.mems.length) j)):=dm (by rw[qQ];exact hj)
    have ti:=Ju (f:=f) (kind:=10) (i:=(j:Int)) Ir
    have xX:=Dq (f:=f) (l:=l) (kind:=10) hj
    obtain⟨S,hS⟩:∃S:Nat,S=kA f (fh l 10 (j:Int)):=⟨_,rfl⟩
    rw[←hS]at ti xX
    rw[xX]at g1 ue
    refine gg e ?_
    refine cm _ _ ?_
    refine aW ?_
    refine aj (gg e ·) ?_
    refine aX rfl (fun ht=>?_) (fun ht=>?_)
    ·exact absurd ht (by decide)
    ·refine aj (gg e ·) ?_
     refine aX rfl (fun ht=>?_) (fun ht=>?_)
     ·exact absurd ht (by decide)
     ·refine aj (gg e ·) ?_
      refine aX rfl (fun ht=>?_) (fun ht=>?_)
      ·exact absurd ht (by decide)
      ·refine aj (gg e ·) ?_
       refine aX rfl (fun ht=>?_) (fun ht=>?_)
       ·exact absurd ht (by decide)
       ·refine aj (gg e ·) ?_
        refine aX rfl (fun ht=>?_) (fun ht=>?_)
        ·exact absurd ht (by decide)
        ·refine aj (gg e ·) ?_
         refine aX rfl (fun ht=>?_) (fun ht=>?_)
         ·exact absurd ht (by decide)
         ·refine aj (gg e ·) ?_
          refine aX rfl (fun ht=>?_) (fun ht=>?_)
          ·refine jX (gg (aL e2 g1) ·) (dC _ _ ?_)
           refine bA hp ax hc rfl fun K53 C9=>?_
           refine tH ?_
           refine C9 _ _ ⟨_,_,_,?_,⟨k+1,by omega,rfl,rfl,rfl⟩,?_⟩
           ·first|omega|(simp only[List.length_cons];omega)|(dsimp only;omega)
           ·refine wA [0,1,2,3,4,5,6,7,8,9,10] ?_
            refine rO ?_
            refine vg ?_;rw[kX];simp only[l8,←s1,←s5,←s6,←s8,←s9,←ue,←MC];rfl
          ·exact absurd ht (by decide)
  refine aj (gg gv ·) ?_
  refine aX rfl (fun ht=>?_) (fun ht=>?_)
  ·have hbn:B=2^b:=by obtain⟨e,_⟩:=ID;rw[e];unfold wC;rw[ht,hb];rfl
   refine bA hp ax hc rfl fun K55 C8=>?_
   refine gg (aL gB (aL hu eD)) ?_
   refine C8 _ _ (IC _ _ ⟨_,_,rfl,rfl,?_⟩)
   refine rO ?_
   exact NM
  ·have hbn:B=0:=by obtain⟨e,_⟩:=ID;rw[e];unfold wC;rw[ht];rfl
   refine bB (IC _ _ ⟨_,_,rfl,rfl,?_⟩)
   refine rO ?_
   exact NM
 ·have q1:decide ((k:Int)<out.length)=false:=decide_eq_false (by omega)
  refine Yd q1 ?_
  refine de _ _ ?_
  refine eC ?_
  have cf:k=out.length:=by omega
  subst cf
  rw[List.take_length]
  refine cL (dD _ _ ?_)
  refine aH fun K56 C7=>?_
  refine aj (Ye ·) ?_
  refine aW ?_
  refine c9 hp (fun τ' H' mm=>∃(i:Nat),(i≤p.mems.length)∧mm=p.mems.length - i∧H'=[.cells (au (aD p)),.cells (au (fG s)),.cells [.d (cH out),.d (bn (out.map f))],.cells iZ,.cells [.d (oD false),.os 1 5 0 p.ag.length,.os 1 11 0 i,.os 1 6 0 p.ae.length,.os 2 7 0 p.ao.length]]++l8 p f out++[.cells (au ((w5 f out s.mems i).map av))]∧τ'=aG [(3,.op 0 0),(4,.op 1 0),(5,.op 2 0),(6,.op 3 0),(7,.op 4 0),(8,.os 1 8 0 p.mems.length),(9,.os 1 9 0 p.mems.length),(10,.os 1 10 0 p.mems.length),(14,.d (iD i))]) (p.mems.length) ?_ ⟨0,cy _,rfl,rfl,rfl⟩ ?_
  ·refine Rt.trans (Rt.gq 4 2 1 rfl rfl) ?_
   refine rO ?_
   refine vg ?_;simp[l8,w5,au,oD]
  rintro τ' H' mm ⟨i,hi,rfl,rfl,rfl⟩
  refine aH fun K58 C6=>?_
  refine aj (tH ·) ?_
  refine aX rfl (fun ht=>?_) (fun ht=>?_)
  ·have aA:i<p.mems.length:=by simp at ht;omega
   have gM:(s.mems.map av)[i]? =some (av (nth s.mems i)):=dm (by rw[hs.ml];exact aA)
   have ov:=hs.mw i aA
   have uw:i<s.mems.length:=by rw[hs.ml];exact aA
   have Bf:=(hP.mw i aA).2.2
   obtain⟨m,hm⟩:∃m,m=nth s.mems i:=⟨_,rfl⟩
   have hmg:wB f out i (nth s.mems i)=wB f out i m:=by rw[hm]
   rw[←hm]at gM ov
   clear hm
   have hbO:∀w∈out,0≤w.bit∧w.bit≤7:=fun w hw=>(ho w hw).2
   have gE:((u5 f out 8 p.mems.length).map oD)[i]? =some (oD (tI f (fh out 8 i))):=by rw[dm (by rw[uS];exact aA),ye0 aA]
   have gA:((nE f out 9 p.mems.length).map iD)[i]? =some (iD ((kA f (fh out 9 i):Nat):Int)):=by rw[dm (by rw[qQ];exact aA),Dq aA]
   have gW:((nE f out 10 p.mems.length).map iD)[i]? =some (iD ((kA f (fh out 10 i):Nat):Int)):=by rw[dm (by rw[qQ];exact aA),Dq aA]
   have hml4:m.length≤4:=by omega
   clear ov Bf
   have Rc:(wB f out i m).length=m.length:=jpj
   obtain⟨G,hG⟩:∃G,G=wB f out i m:=⟨_,rfl⟩
   rw[←hG]at hmg Rc
   unfold wB at hG
   generalize kA f (fh out 9 i)=A at *
   generalize kA f (fh out 10 i)=Wd at *
   generalize tI f (fh out 8 i)=E at *
   have vu:dJ (G.map iD) 0 m.length=some (G.map iD):=iN (by simp[Rc])
   replace hG:∃_:G=(if(E&&decide (A<m.length))=true then m.set A (Wd:Int)else m),True:=⟨hG,trivial⟩
   refine bB (C6 _ _ ?_)
   refine aH fun K60 C5=>?_
   refine aW ?_
   refine aj (gg gM ·) ?_
   refine aH fun K62 RF=>?_
   have Dc:∀τ' H',(∃τ1 H1,H1=[.cells (au (aD p)),.cells (au (fG s)),.cells [.d (cH out),.d (bn (out.map f))],.cells iZ,.cells [.d (oD false),.os 1 5 0 p.ag.length,.os 1 11 0 i,.os 1 6 0 p.ae.length,.os 2 7 0 p.ao.length]]++l8 p f out++[.cells (au ((w5 f out s.mems i).map av)),.cells (au (G.map iD))]∧τ1=aG [(3,.op 0 0),(4,.op 1 0),(5,.op 2 0),(6,.op 3 0),(7,.op 4 0),(8,.os 1 8 0 p.mems.length),(9,.os 1 9 0 p.mems.length),(10,.os 1 10 0 p.mems.length),(14,.d (iD i)),(15,.os 1 12 0 m.length)]∧Rt [] τ' H' τ1 H1)→K62 τ' H':=by
    rintro τ' H' ⟨_,_,rfl,rfl,rq⟩
    refine RF _ _ (bI hp rq ?_)
    clear rq
    refine bI hp (τ':=aG [(3,.op 0 0),(4,.op 1 0),(5,.op 2 0),(6,.op 3 0),(7,.op 4 0),(8,.os 1 8 0 p.mems.length),(9,.os 1 9 0 p.mems.length),(10,.os 1 10 0 p.mems.length),(14,.d (iD i)),(15,.d (.fs (G.map iD) m.length))]) (H':=[.cells (au (aD p)),.cells (au (fG s)),.cells [.d (cH out),.d (bn (out.map f))],.cells iZ,.cells [.d (oD false),.os 1 5 0 p.ag.length,.os 1 11 0 i,.os 1 6 0 p.ae.length,.os 2 7 0 p.ao.length]]++l8 p f out++[.cells (au ((w5 f out s.mems i).map av)),.dead]) ?_ ?_
    ·refine Rt.trans (Rt.fz (id:=12) (l:=(G.map iD)) rfl) ?_
     refine rO ?_
     exact NM
    refine jX (tH ·) (C5 _ _ ?_)
    refine bA hp ax hc rfl fun K64 C4=>?_
    refine tH ?_
    refine C4 _ _ ⟨_,_,_,?_,⟨i+1,by omega,rfl,rfl,rfl⟩,?_⟩
    ·first|omega|(simp only[List.length_cons];omega)|(dsimp only;omega)
    ·refine wA [0,1,2,3,4,5,6,7,8,9,10,14] ?_
     refine rO ?_
     refine vg ?_;rw[jws,hmg];simp[av,Rc,l8,oD]
   refine bC hp ax hc rfl fun K65 zW=>?_
   rcases tf E with qe|qe<;>subst qe
   ·replace hG:=hG.1
    rw[Bool.true_and]at hG
    refine gg (aL gE gA) ?_
    refine zW _ _ ?_
    refine aX rfl (fun ht=>?_) (fun ht=>?_)
    ·have hA:A<m.length:=by simp at ht;omega
     rw[if_pos (by simpa using hA)]at hG
     refine uR ax hc mixed rfl (q:=0) (by kernel_rfl) (by kernel_rfl) fun K66 C3=>?_
     refine gg (aL gA gW) ?_
     refine C3 _ _ (Dc _ _ ⟨_,_,rfl,rfl,?_⟩)
     refine wA [0,1,2,3,4,5,6,7,8,9,10,11,13] ?_
     refine rO ?_
     refine vg ?_;rw[hG];simp[l8,oD]
    ·have hA:¬A<m.length:=by simp at ht;omega
     rw[if_neg (by simpa using hA)]at hG
     refine bB (Dc _ _ ⟨_,_,rfl,rfl,?_⟩)
     refine wA [0,1,2,3,4,5,6,7,8,9,10,11,13] ?_
     refine rO ?_
     refine vg ?_;rw[hG];rfl
   ·replace hG:=hG.1
    rw[Bool.false_and,if_neg (by decide)]at hG
    refine gg (aL gE gA) ?_
    refine zW _ _ ?_
    refine aX rfl (fun ht=>?_) (fun ht=>?_)
    ·exact absurd ht (by decide)
    ·refine bB (Dc _ _ ⟨_,_,rfl,rfl,?_⟩)
     refine wA [0,1,2,3,4,5,6,7,8,9,10,11,13] ?_
     refine rO ?_
     refine vg ?_;rw[hG];rfl
  ·have Ie:i=p.mems.length:=by simp at ht;omega
   subst Ie
   refine cL (C7 _ _ ?_)
   refine aj (tH ·) ?_
   refine bh ?_
   try dsimp only[fb,fc]
   refine iH rfl ?_
   simp -dsimp -implicitDefEqProofs (disch:=first|assumption|omega|(simp only[aK,dK,fM,dT,dS,aT,ft,qQ,uS,sG,wc]<;>omega)|decide) only[aP,↓reduceIte,Nat.reduceEqDiff,Nat.reduceAdd,D.fix,Int.reduceToNat,Nat.reduceMul,Nat.reduceBNe,Nat.reduceBEq,cv,aD,fG,ai,cH,cn,jm,eT,iZ,ga,l8,sD,nS,qI,qP,qE,qU,qR,qH,qO,qT,qS,List.cons_append,List.nil_append,DA,I2]
   show aC _ _=_
   simp (disch:=first|assumption|omega|(simp only[aK,dK,fM,dT,dS,aT,ft,qQ,uS,sG,wc]<;>omega)|decide) only[gF,Nat.reduceAdd,D.fix,↓reduceIte,Nat.reduceEqDiff,cv,aD,fG,ai,cH,cn,jm,eT,iZ,ga,l8,sD,nS,qI,qP,qE,qU,qR,qH,qO,qT,qS,List.cons_append,List.nil_append]
   simp[Ka,jm,bn,av,ai,eT,DM,oD,D.fix,qQ,uS,sG,wc]
end Go.Proofs.YtapjobndmmkanaaGreat
