/- netlist.Build. -/
import Derived.Test.YtapjobndmmkanaaGreatQr
import Derived.Test.YtapjobndmmkanaaGreatYr
set_option linter.unusedVariables false
set_option linter.unusedSimpArgs false
set_option maxRecDepth 100000
set_option maxHeartbeats 4000000
namespace Go.Proofs.YtapjobndmmkanaaGreat
open Go.Proofs.Tryz
open Go Go.RowKit
theorem Rt.fry{m:List Nat}{τ:Fr}{H:ak}:Rt m τ H τ (H++[.free]):=fun c a w _ h=>R.eu 1 H h
def ep:bq:=.cells [.d (.val (.slice none 0 0)),.d (.val (.slice none 0 0)),.d (.val (.slice none 0 0)),.d (.val (.slice none 0 0))]
def Ft(p:Pr):AV:=if 600<2+(dN p).length+(eV p).aO.length then .dc [.d (.agg (eZ ⟨[],[],[],[]⟩)),.d (iD 2)]else .dc [.d (eF (eV p)),.d (iD 0)]
section
variable {p:Pr} {mi:Mp} {o:List aB} {d:List Int} {n:Nat} {s:Os}
theorem fS.Mf(hs:fS p n s)(hv:vG p mi){μ:Mp}(hn:ic (mP p) s.gs μ)(hl:n≤80000):dx (eP p mi o d (ch p)) s.gs μ:=⟨hn,hs.gi,hv.il,by have:=hs.len;omega⟩
theorem fS.rJ(hs:fS p n s)(hv:vG p mi){gs:Gs}{μ:Mp}{ex:Ex}(hp:s.gs<+:gs)(hg:dx (eP p mi o d (ch p)) gs μ)(hw:WT (aI p) true ex)(hl:gs.length+bQ (aI p) ex≤90000):
  cM prog [0,1,3,4,5,6,7] 92 [.op 0 0,.agg ((dE ex).map .d)] (bH (eP p mi o d (ch p)) gs μ) (Gh (eP p mi o d (ch p)) (fa p (ch p) gs ex)):=by
 have:=MR (eP p mi o d (ch p)) hv.be true ex gs μ hg (Lm hv.k ((hs.tp hv.k).trans hp)) hw hl
 rwa[Qg hv.be]at this
end
theorem jm1{α:Type}[Inhabited α]{f:α→List D}{w:Nat}(hw:∀a,(f a).length=w){l:List α}{k off n:Nat}(hk:k<l.length)(ho:off+n≤w):dJ (l.flatMap f) (k*w+off) n=some (((f (nth l k)).drop off).take n):=by
 have e1:(l.flatMap f).drop (k*w+off)=((f (nth l k)).drop off)++(l.drop (k+1)).flatMap f:=by
  rw[←List.drop_drop,JB hw,mS hk,List.drop_eq_getElem_cons hk,List.flatMap_cons,List.drop_append_of_le_length (by rw[hw];omega)]
 unfold dJ
 rw[if_pos (by
  rw[pq hw]
  have:=Nat.mul_le_mul_right w (show k+1≤l.length from hk)
  rw[Nat.add_mul]at this;omega),e1,List.take_append_of_le_length (by rw[List.length_drop,hw];omega)]
theorem yg5{l:List ni}{k:Nat}(h:k<l.length):dJ (l.flatMap sb) (k*16+9) 7=some (bW (nth l k).da):=by
 rw[jm1 kg h (by omega)]
 show some ((((bW (nth l k).wh)++bW (nth l k).da).drop 7).take 7)=_
 rw[List.drop_append_of_le_length (by rw[CK];omega),List.drop_of_length_le (by rw[CK];omega),List.nil_append,yE (by rw[CK];omega)]
theorem yg6{l:List ni}{k:Nat}(h:k<l.length):dJ (l.flatMap sb) (k*16+9) 7=some (dE (nth l k).da):=by rw[←sI];exact yg5 h
theorem Qd{p:Pr}(h:bJ p):∀i,i≤p.ag.length→(eL p i).dr.length≤8*i
 |0,_=>by simp[eL]
 |i+1,hi=>by
  have ih:=Qd h i (by omega)
  have hs:=yp h (show i<p.ag.length by omega) (xg h i (by omega))
  have hw:=h.ct.r i (by simp[aI];omega)
  rw[show nth (aI p).ag i=(nth p.ag i).w from lQ (show i<p.ag.length by omega)]at hw
  simp only[eL,List.length_append,MK,hs.b.wid]
  omega
theorem Qc{p:Pr}(h:bJ p):∀i,i≤p.ae.length→(jU p i).dr.length≤8*p.ag.length+i
 |0,_=>by have:=Qd h _ (bm _);simpa[jU]using this
 |i+1,hi=>by
  have ih:=Qc h i (by omega)
  simp only[jU,List.length_append,List.length_cons,List.length_nil]
  omega
theorem Qb{p:Pr}(h:bJ p):∀i,i≤p.ao.length→(jq p i).dr.length≤8*p.ag.length+p.ae.length+9*i
 |0,_=>by have:=Qc h _ (bm _);simpa[jq]using this
 |i+1,hi=>by
  have ih:=Qb h i (by omega)
  have hs:=zb h (show i<p.ao.length by omega) (yu h i (by omega))
  have hw:=h.qb i (by omega)
  simp only[jq,List.length_append,List.length_cons,List.length_nil,MK,hs.hb.wid]
  omega
theorem jm2{p:Pr}(h:bJ p):∀i,i≤p.mems.length→(gU p i).dr.length≤8*p.ag.length+p.ae.length+9*p.ao.length+12*i
 |0,_=>by have:=Qb h _ (bm _);simpa[gU]using this
 |i+1,hi=>by
  have ih:=jm2 h i (by omega)
  have hs:=za h (show i<p.mems.length by omega) (uT h i (by omega)) rfl rfl rfl rfl
  have hw:=h.ct.m i (by simp[aI];omega)
  rw[show nth (aI p).mems i=((nth p.mems i).words,(nth p.mems i).w) from lQ (show i<p.mems.length by omega)]at hw
  simp only[gU,List.length_append,List.length_cons,List.length_nil,tX,hs.hw.wid]
  simp only at hw
  omega
theorem fY{p q:Prop}(hq:q)(h:p=q:=by
 conv=>lhs;simp -dsimp -implicitDefEqProofs (disch:=first|assumption|omega|(simp only[aK,aT,bx,dK,fM,dT,dS]<;>omega)|decide) only[aP,↓reduceIte,Nat.reduceEqDiff,Nat.reduceAdd,D.fix,Int.reduceToNat,Nat.reduceMul,Nat.reduceBNe,Nat.reduceBEq,bR,bH,bO,aD,bE,List.cons_append,List.nil_append,cv,ep,eP,ec,n9,lA,iy,lF,kg,eR,qf,mJ,iz,nS,sD,bw]):p:=h.mpr hq
theorem pa(k:List Nat){m:List Nat}{τ τ1:Fr}{H H1:ak}(h:Rt m (fun t=>c7 k (τ t)) (dg k H) τ1 H1)(a:∀i∈m,k[i]? =some i:=by decide)(b:k.Nodup:=by decide)(c:∀i∈k,i<H.length:=by
 simp[eS,dg]):Rt m τ H τ1 H1:=Rt.trans (Rt.gc a b c) h
theorem o9{m:List Nat}{τ τ':Fr}{H H':ak}(h2:H=H')(h:fm τ τ':=by
 repeat (first|exact bT _|refine bM ?_ (by first|rfl|(simp[aR,aT,bx,dK,fM,dT,dS,BZ dP,BU dP];done)|simp[aR,aT,bx,dK,fM,dT,dS,BZ dP,BU dP, *]))):Rt m τ H τ' H':=Rt.end h h2
theorem pQ{P:Program}{sm:List Nat}{N:Nat}{τ:Fr}{H:ak}{f:FuncId}{args:List AV}{K0 KK:AV→ak→Prop}{ks:List Nat}(S T:ak)(h:cM P ks f args S K0)(hK:∀x S',K0 x S'→S'.length=S.length∧KK x (S'++T))(hH:H=S++T:=by
 rfl) (hm:sm.all (aJ ks S.length)=true:=by
 first|rfl|(simp[AV.ah,AV.allI,bc,bg,bf,aJ,aN,aY,aZ,bH,bO,eP,ep,ec,iy,eR,iz];done)|(intro o ho;simp at ho;done)) (hτ:∀t,(τ t).allI (aJ ks S.length)=true:=by
 exact fun t=>fU (by first|rfl|(simp[AV.ah,AV.allI,bc,bg,bf,aJ,aN,aY,aZ,bH,bO,eP,ep,ec,iy,eR,iz];done)|(intro o ho;simp at ho;done)) t) (ha:AV.ah (aN S.length) args=true:=by
 first|rfl|(simp[AV.ah,AV.allI,bc,bg,bf,aJ,aN,aY,aZ,bH,bO,eP,ep,ec,iy,eR,iz];done)|(intro o ho;simp at ho;done)) (hS:∀o∈S,o.allI (aN S.length)=true:=by
 first|rfl|(simp[AV.ah,AV.allI,bc,bg,bf,aJ,aN,aY,aZ,bH,bO,eP,ep,ec,iy,eR,iz];done)|(intro o ho;simp at ho;done)) (hT:∀o∈T,o.allI (aJ ks S.length)=true:=by
 first|rfl|(simp[AV.ah,AV.allI,bc,bg,bf,aJ,aN,aY,aZ,bH,bO,eP,ep,ec,iy,eR,iz];done)|(intro o ho;simp at ho;done)):kC P sm N H τ (.d (.val (.func (.func f) #[] #[]))) args true (tg KK):=r7 h hH hm hτ ha hS hT hK
theorem y3{p q:Prop}(hq:q)(h:p=q:=by
 conv=>lhs;simp -dsimp -implicitDefEqProofs (disch:=first|assumption|omega|(simp only[aK,aT,bx,dK,fM,dT,dS]<;>omega)|decide) only[aP,↓reduceIte,Nat.reduceEqDiff,Nat.reduceAdd,D.fix,Int.reduceToNat,Nat.reduceMul,Nat.reduceBNe,Nat.reduceBEq,bR,bH,bO,aD,bE,List.cons_append,List.nil_append,cv,ep,eP,ec,n9,lA,iy,lF,kg,eR,qf,mJ,iz,nS,sD,dm,bw]):p:=h.mpr hq
theorem OH{p q r:Prop}(e:r)(hq:q)(h:r→p=q:=by
 intro hY
 conv=>lhs;simp -dsimp -implicitDefEqProofs (disch:=first|assumption|omega|(simp only[aK,aT,bx,dK,fM,dT,dS]<;>omega)|decide) only[aP,↓reduceIte,Nat.reduceEqDiff,Nat.reduceAdd,D.fix,Int.reduceToNat,Nat.reduceMul,Nat.reduceBNe,Nat.reduceBEq,bR,bH,bO,aD,bE,List.cons_append,List.nil_append,cv,ep,eP,ec,n9,lA,iy,lF,kg,eR,qf,mJ,iz,nS,sD,FD,yq,Pf J6 lZ hv.m.ok,Option.getD_some,bw,hY]):p:=(h e).mpr hq
theorem X4{p q:Prop}(hq:q)(h:p=q:=by
 conv=>lhs;simp -dsimp -implicitDefEqProofs (disch:=first|assumption|omega|(simp only[aK,aT,bx,dK,fM,dT,dS]<;>omega)|decide) only[aP,↓reduceIte,Nat.reduceEqDiff,Nat.reduceAdd,D.fix,Int.reduceToNat,Nat.reduceMul,Nat.reduceBNe,Nat.reduceBEq,bR,bH,bO,aD,bE,List.cons_append,List.nil_append,cv,ep,eP,ec,n9,lA,iy,lF,kg,eR,qf,mJ,iz,nS,sD,yg6,bw]):p:=h.mpr hq
theorem OG{p q:Prop}(hq:q)(h:p=q:=by
 conv=>lhs;simp -dsimp -implicitDefEqProofs (disch:=first|assumption|omega|(simp only[aK,aT,bx,dK,fM,dT,dS]<;>omega)|decide) only[aP,↓reduceIte,Nat.reduceEqDiff,Nat.reduceAdd,D.fix,Int.reduceToNat,Nat.reduceMul,Nat.reduceBNe,Nat.reduceBEq,mz,bR,bH,bO,aD,bE,List.cons_append,List.nil_append,cv,ep,eP,ec,n9,lA,iy,lF,kg,eR,qf,mJ,iz,nS,sD,bw]):p:=h.mpr hq
theorem X3{p q:Prop}(hq:q)(h:p=q:=by
 conv=>lhs;simp -dsimp -implicitDefEqProofs (disch:=first|assumption|omega|(simp only[aK,aT,bx,dK,fM,dT,dS]<;>omega)|decide) only[aP,↓reduceIte,Nat.reduceEqDiff,Nat.reduceAdd,D.fix,Int.reduceToNat,Nat.reduceMul,Nat.reduceBNe,Nat.reduceBEq,bR,bH,bO,aD,bE,List.cons_append,List.nil_append,cv,ep,eP,ec,n9,lA,iy,lF,kg,eR,qf,mJ,iz,nS,sD,xe,M3]):p:=h.mpr hq
theorem qu{p q:Prop}(hq:q)(h:p=q:=by
 conv=>lhs;simp only[cD,Nat.reduceAdd,↓reduceIte,Nat.reduceEqDiff,bR,bH,bO,aD,bE,List.cons_append,List.nil_append,cv,ep,eP,ec,n9,lA,iy,lF,kg,eR,qf,mJ,iz,nS,sD]):p:=h.mpr hq
theorem Wf{p:Prop}(h:p:=by
 first|rfl|(simp only[cD,Nat.reduceAdd,↓reduceIte,Nat.reduceEqDiff,bR,bH,bO,aD,bE,List.cons_append,List.nil_append,cv,ep,eP,ec,n9,lA,iy,lF,kg,eR,qf,mJ,iz,nS,sD];first|done|rfl)):p:=h
theorem WK{p q:Prop}(hq:q)(h:p=q:=by
 conv=>lhs;simp (disch:=first|assumption|omega|(simp only[aK,aT,bx,dK,fM,dT,dS]<;>omega)|decide) only[gF,Nat.reduceAdd,D.fix,↓reduceIte,Nat.reduceEqDiff,bR,bH,bO,aD,bE,List.cons_append,List.nil_append,cv,ep,eP,ec,n9,lA,iy,lF,kg,eR,qf,mJ,iz,nS,sD]):p:=h.mpr hq
theorem jm3(p:Pr)(dP:bJ p)(gb:(dN p).length≤1000)(E8:qB p≤80000)(mC:p.mems.length≤100):cC prog 30 [cv p] (Ft p):=by
 have jR:=dP.rl;have vt:=dP.tl;have wI:=dP.ql
 refine ez (fn:=f30) (by kernel_rfl) func30 rfl (bN rfl) fun c hc hp=>?_
 refine dG (τ':=aG [(0,.d (cv p))]) (by repeat (first|exact bT _|refine bM ?_ (by first|rfl|(simp[aR,aT,bx,dK,fM,dT,dS,BZ dP,BU dP];done)|simp[aR,aT,bx,dK,fM,dT,dS,BZ dP,BU dP, *]))) ?_
 refine aj (fY ·) ?_
 refine aj (fY ·) ?_
 refine bI hp (τ':=aG [(1,.op 8 0),(2,.op 9 0),(3,.d (iD 0)),(4,.op 0 0)]) (H':=bH ⟨p,[],([],0),[],[],[]⟩ [] ([],0)++[.cells (au (aD p)),ep]) ?_ ?_
 ·refine Rt.trans (Rt.gq 4 0 3 rfl rfl) ?_
  refine Rt.trans (Rt.gq 4 1 5 rfl rfl) ?_
  refine Rt.trans (Rt.gq 4 2 3 rfl rfl) ?_
  refine Rt.trans (Rt.gq 4 3 1 rfl rfl) ?_
  refine Rt.trans (Rt.gq 4 12 1 rfl rfl) ?_
  refine pa [4,5,6,7,8,2,3,9,0,1] ?_
  refine o9 ?_
  refine qu ?_;simp[bH,bO,aD,au,ep,mO,mE]
 refine bC hp ax hc rfl fun K3 bS=>?_
 refine fY ?_
 refine pQ (bH ⟨p,[],([],0),[],[],[]⟩ [] ([],0)) ([.cells (au (aD p)),ep]) (jmu p [] ([],0) [] [] [] gb jR vt wI) ?_
 rintro _ _ ⟨mi,hmi,rfl,rfl⟩
 refine⟨rfl,?_⟩
 have hv:vG p mi:=⟨dP,hmi,gb,E8⟩
 refine fY ?_
 refine bS _ _ ?_
 refine bI hp (τ':=aG [(1,.op 9 0),(2,.op 10 0),(3,.d (iD 0)),(4,.op 0 0)]) (H':=bH (eP p mi [] [] []) [] ([],0)++[.free,.cells (au (aD p)),ep]) ?_ ?_
 ·refine Rt.trans (Rt.fry) ?_
  refine pa [0,1,2,3,4,5,6,7,10,8,9] ?_
  refine o9 ?_
  exact Wf
 refine bC hp ax hc rfl fun K4 dD=>?_
 refine fY ?_
 refine pQ (bH (eP p mi [] [] []) [] ([],0)++[.free]) ([.cells (au (aD p)),ep]) (jx5 p mi [] [] hv ([],0) (ic.nil _)) ?_
 rintro _ _ ⟨μ0,CS,rfl,rfl⟩
 refine⟨rfl,?_⟩
 refine fY ?_
 refine dD _ _ ?_
 refine aH fun K5 fA=>?_
 refine aj (fY ·) ?_
 refine aW ?_
 refine c9 hp (fun τ' H' mm=>∃(i:Nat) (μ1:Mp),(i≤p.ag.length∧ic (mP p) (eL p i).gs μ1)∧mm=p.ag.length - i∧H'=bH (eP p mi ((eL p i).out) ((eL p i).dr) (ch p)) ((eL p i).gs) μ1++[.cells (au (aD p)),ep]∧τ'=aG [(1,.op 8 0),(2,.op 9 0),(3,.d (iD 0)),(4,.op 0 0),(5,.d (av (lD p))),(6,.d (av (kB p))),(7,.d (iD (fI p))),(39,.d (.fs (p.ag.flatMap lH) p.ag.length)),(40,.d (iD p.ag.length)),(41,.d (iD i))]) (p.ag.length) ?_ ⟨0,μ0,⟨cy _,CS⟩,rfl,rfl,rfl⟩ ?_
 ·refine pa [0,1,2,3,4,5,6,7,9,10] ?_
  refine o9 ?_
  refine qu ?_;simp[bH,bO,eP,au,aD,iD,av,ep,eL]
 rintro τ' H' mm ⟨i,μ1,⟨hi,cZ⟩,rfl,rfl,rfl⟩
 refine aj (fY ·) ?_
 refine aH fun K8 dC=>?_
 refine aX rfl (fun ht=>?_) (fun ht=>?_)
 ·have aA:i<p.ag.length:=by simp at ht;omega
  have hs:=xg dP i hi
  have QJ:=yp dP aA hs
  have L7:=LJ (p:=p) (show i+1≤p.ag.length by omega)
  rw[pG]at L7
  obtain⟨s,tj⟩:∃s,s=eL p i:=⟨_,rfl⟩
  obtain⟨R,hR⟩:∃R,R=fa p (ch p) s.gs (nth p.ag i).next:=⟨_,rfl⟩
  have dY:eL p (i+1)=⟨(dh (fun gs k=>jF (mP p) gs (fI p) (nth R.2 k) (bL p 1 i k)) R.1 R.2.length).1,s.out++bK 1 i R.2.length,s.dr++(dh (fun gs k=>jF (mP p) gs (fI p) (nth R.2 k) (bL p 1 i k)) R.1 R.2.length).2⟩:=by rw[hR,tj];rfl
  have vC:=Qd dP i hi
  rw[←tj]at hs QJ cZ vC
  rw[←tj]
  rw[←hR]at QJ
  have pz:=hs.len;have sf:=hs.ol
  have hb:=QJ.b
  have RA:=hb.len;have Rz:=hb.wid
  have h1:dx (eP p mi (s.out) (s.dr) (ch p)) s.gs μ1:=hs.Mf hv cZ (by omega)
  have eU:=hs.rJ (o:=s.out) (d:=s.dr) hv (List.prefix_refl _) h1 (dP.rn i aA).1 (by omega)
  rw[←hR]at eU
  refine bB (dC _ _ ?_)
  refine aH fun K9 cJ=>?_
  refine aW ?_
  refine aj (fY ·) ?_
  refine bC hp ax hc rfl fun lz cm=>?_
  refine fY ?_
  refine pQ (bH (eP p mi (s.out) (s.dr) (ch p)) (s.gs) μ1) ([.cells (au (aD p)),ep,.cells (au (iy (nth p.ag i)))]) (eU) ?_
  rintro _ _ ⟨μ2,db,rfl,rfl⟩
  refine⟨rfl,?_⟩
  refine fY ?_
  refine cm _ _ ?_
  refine aW ?_
  refine c9 hp (fun τ' H' mm=>∃(k:Nat) (μ3:Mp),(k≤R.2.length∧ic (mP p) (dh (fun gs k=>jF (mP p) gs (fI p) (nth R.2 k) (bL p 1 i k)) R.1 k).1 μ3)∧mm=R.2.length - k∧H'=bH (eP p mi (s.out++bK 1 i k) (s.dr++(dh (fun gs k=>jF (mP p) gs (fI p) (nth R.2 k) (bL p 1 i k)) R.1 k).2) (ch p)) ((dh (fun gs k=>jF (mP p) gs (fI p) (nth R.2 k) (bL p 1 i k)) R.1 k).1) μ3++[.cells (au (aD p)),ep]∧τ'=aG [(1,.op 8 0),(2,.op 9 0),(3,.d (iD 0)),(4,.op 0 0),(5,.d (av (lD p))),(6,.d (av (kB p))),(7,.d (iD (fI p))),(8,.d (iD i)),(39,.d (.fs (p.ag.flatMap lH) p.ag.length)),(40,.d (iD p.ag.length)),(41,.d (iD i)),(49,.d (av R.2)),(50,.d (iD R.2.length)),(51,.d (iD k))]) (R.2.length) ?_ ⟨0,μ2,⟨cy _,db⟩,rfl,rfl,rfl⟩ ?_
  ·refine pa [0,1,2,3,4,5,6,7,8,9] ?_
   refine o9 ?_
   refine qu ?_;simp[bH,bO,eP,au,aD,iD,av,ep,dh,bK]
  rintro τ' H' mm ⟨k,μ3,⟨cf,nK⟩,rfl,rfl,rfl⟩
  refine aj (fY ·) ?_
  refine aH fun rN dQ=>?_
  refine aX rfl (fun ht=>?_) (fun ht=>?_)
  ·have tz:k<R.2.length:=by simp at ht;omega
   have L2:k<(nth p.ag i).w:=by omega
   have rp:=dP.ct.r i (by simpa[aI]using aA)
   rw[show nth (aI p).ag i=(nth p.ag i).w from lQ aA]at rp
   have uH:Bs (mP p) (2*k) k R.1 (dh (fun gs k=>jF (mP p) gs (fI p) (nth R.2 k) (bL p 1 i k)) R.1 k):=nB hb.gi fun j hj cW hp hg=>Du nH hg (hs.kK dP (hb.pre.trans hp)) (hb.at hp (by omega)) (uQ (zD aA (by omega)) _)
   have xK:dh (fun gs k=>jF (mP p) gs (fI p) (nth R.2 k) (bL p 1 i k)) R.1 (k+1)=((jF (mP p) (dh (fun gs k=>jF (mP p) gs (fI p) (nth R.2 k) (bL p 1 i k)) R.1 k).1 (fI p) (nth R.2 k) (bL p 1 i k)).1,(dh (fun gs k=>jF (mP p) gs (fI p) (nth R.2 k) (bL p 1 i k)) R.1 k).2++[(jF (mP p) (dh (fun gs k=>jF (mP p) gs (fI p) (nth R.2 k) (bL p 1 i k)) R.1 k).1 (fI p) (nth R.2 k) (bL p 1 i k)).2]):=rfl
   generalize dh (fun gs k=>jF (mP p) gs (fI p) (nth R.2 k) (bL p 1 i k)) R.1 k=M at *
   have hMl:=uH.len;have RC:=uH.wid
   have ov:(s.out++bK 1 i k).length=s.out.length+k:=by rw[List.length_append,cX]
   have mG:(s.dr++M.2).length=s.dr.length+k:=by rw[List.length_append,RC]
   have iJ:=uQ (zD aA L2) M.1
   have h3:dx (eP p mi (s.out++bK 1 i k) (s.dr++M.2) (ch p)) M.1 μ3:=⟨nK,uH.gi,gb,by omega⟩
   have lZ:pU prog AL (wV ⟨1,(i:Int),(k:Int)⟩):=Fw (a:=1) (b:=(i:Int)) (c:=(k:Int)) (nP (by decide) (by decide)) (nP (by omega) (by omega)) (nP (by omega) (by omega))
   have js:=hv.m.gt ⟨1,(i:Int),(k:Int)⟩
   rw[if_pos (zD aA L2)]at js
   have px:bL p 1 i k=((2+mc ⟨1,(i:Int),(k:Int)⟩ (dN p):Nat):Int):=rfl
   rw[←px]at js
   have wN:=jub (eP p mi (s.out++bK 1 i k) (s.dr++M.2) (ch p)) M.1 μ3 (fI p) (nth R.2 k) (bL p 1 i k) h3 (hs.kK dP (hb.pre.trans uH.pre)) (hb.at uH.pre (by omega)) iJ (by omega)
   generalize bL p 1 i k=W at *
   refine bB (dQ _ _ ?_)
   refine aH fun rM dI=>?_
   refine aW ?_
   refine aj (y3 ·) ?_
   refine bA hp ax hc rfl fun pM df=>?_
   refine OH js ?_
   refine pQ (bH (eP p mi (s.out++bK 1 i k) (s.dr++M.2) (ch p)) (M.1) μ3) ([.cells (au (aD p)),ep]) (wN) ?_
   rintro _ _ ⟨μ4,qo,rfl,rfl⟩
   refine⟨rfl,?_⟩
   refine OH js ?_
   refine pQ (bH (eP p mi (s.out++bK 1 i k) (s.dr++M.2) (ch p)) ((jF (mP p) M.1 (fI p) (nth R.2 k) W).1) μ4) ([.cells (au (aD p)),ep]) (Ca (eP p mi (s.out++bK 1 i k) (s.dr++M.2) (ch p)) _ μ4 1 i k _ (by show(s.out++bK 1 i k).length≤_;omega) (by show(s.dr++M.2).length≤_;omega)) ?_
   rintro _ _ ⟨_,rfl,rfl⟩
   refine⟨rfl,?_⟩
   refine OH js ?_
   refine df _ _ (dI _ _ ?_)
   refine bA hp ax hc rfl fun tF eh=>?_
   refine fY ?_
   refine eh _ _ ⟨_,_,_,?_,⟨k+1,μ4,⟨by omega,by rw[xK];exact qo⟩,rfl,rfl,rfl⟩,?_⟩
   ·first|omega|(simp only[List.length_cons];omega)|(dsimp only;omega)
   ·refine pa [0,1,2,3,4,5,6,7,8,9] ?_
    refine o9 ?_
    refine qu ?_;rw[xK,xh];simp[bH,bO,eP,au,aD,iD,av,ep,aw,mP]
  ·have jS:k=R.2.length:=by simp at ht;omega
   subst jS
   refine cL (cJ _ _ ?_)
   refine bA hp ax hc rfl fun ye fP=>?_
   refine fY ?_
   refine fP _ _ ⟨_,_,_,?_,⟨i+1,μ3,⟨by omega,by rw[dY];exact nK⟩,rfl,rfl,rfl⟩,?_⟩
   ·first|omega|(simp only[List.length_cons];omega)|(dsimp only;omega)
   ·refine pa [0,1,2,3,4,5,6,7,8,9] ?_
    refine o9 ?_
    refine qu ?_;rw[dY]
 ·have zS:i=p.ag.length:=by simp at ht;omega
  subst zS
  refine cL (fA _ _ ?_)
  refine aH fun wT fC=>?_
  refine aj (fY ·) ?_
  refine aW ?_
  refine c9 hp (fun τ' H' mm=>∃(i:Nat) (μ1:Mp),(i≤p.ae.length∧ic (mP p) (jU p i).gs μ1)∧mm=p.ae.length - i∧H'=bH (eP p mi ((jU p i).out) ((jU p i).dr) (ch p)) ((jU p i).gs) μ1++[.cells (au (aD p)),ep]∧τ'=aG [(1,.op 8 0),(2,.op 9 0),(3,.d (iD 0)),(4,.op 0 0),(5,.d (av (lD p))),(6,.d (av (kB p))),(7,.d (iD (fI p))),(74,.d (av (lD p))),(75,.d (iD p.ae.length)),(76,.d (iD i))]) (p.ae.length) ?_ ⟨0,μ1,⟨cy _,cZ⟩,rfl,rfl,rfl⟩ ?_
  ·refine pa [0,1,2,3,4,5,6,7,8,9] ?_
   refine o9 ?_
   refine qu ?_;simp[bH,bO,eP,au,aD,iD,av,ep,jU,BZ dP]
  rintro τ' H' mm ⟨i,μ1,⟨Ii,QU⟩,rfl,rfl,rfl⟩
  refine aj (fY ·) ?_
  refine aH fun wS fB=>?_
  refine aX rfl (fun ht=>?_) (fun ht=>?_)
  ·have aA:i<p.ae.length:=by simp at ht;omega
   have vu:=BZ dP
   have hs:=I7 dP i Ii
   have vC:=Qc dP i Ii
   have L7:=LJ (p:=p) (bm p.ag.length)
   have Rj:=PE (p:=p) (cy p.ao.length)
   rw[wO]at Rj
   obtain⟨s,tj⟩:∃s,s=jU p i:=⟨_,rfl⟩
   have dY:jU p (i+1)=⟨(du (mP p) s.gs (fI p) (nth (lD p) i)).1,s.out++[⟨5,i,0⟩],s.dr++[(du (mP p) s.gs (fI p) (nth (lD p) i)).2]⟩:=by rw[tj];rfl
   rw[←tj]at hs QU vC
   rw[←tj]
   have pz:=hs.len;have sf:=hs.ol
   have h1:dx (eP p mi (s.out) (s.dr) (ch p)) s.gs μ1:=hs.Mf hv QU (by omega)
   have wN:=xd (eP p mi (s.out) (s.dr) (ch p)) s.gs μ1 (fI p) (nth (lD p) i) h1 (hs.kK dP (List.prefix_refl _)) (hs.Dh dP (List.prefix_refl _) aA)
   refine bB (fB _ _ ?_)
   refine aH fun yd gw=>?_
   refine aW ?_
   refine aj (y3 ·) ?_
   refine bA hp ax hc rfl fun BK jn=>?_
   refine fY ?_
   refine pQ (bH (eP p mi (s.out) (s.dr) (ch p)) (s.gs) μ1) ([.cells (au (aD p)),ep]) (wN) ?_
   rintro _ _ ⟨μ4,qo,rfl,rfl⟩
   refine⟨rfl,?_⟩
   refine fY ?_
   refine pQ (bH (eP p mi (s.out) (s.dr) (ch p)) ((du (mP p) s.gs (fI p) (nth (lD p) i)).1) μ4) ([.cells (au (aD p)),ep]) (Ca (eP p mi (s.out) (s.dr) (ch p)) _ μ4 5 i 0 _ (by show s.out.length≤_;omega) (by show s.dr.length≤_;omega)) ?_
   rintro _ _ ⟨_,rfl,rfl⟩
   refine⟨rfl,?_⟩
   refine fY ?_
   refine jn _ _ (gw _ _ ?_)
   refine bA hp ax hc rfl fun I0 iV=>?_
   refine fY ?_
   refine iV _ _ ⟨_,_,_,?_,⟨i+1,μ4,⟨by omega,by rw[dY];exact qo⟩,rfl,rfl,rfl⟩,?_⟩
   ·first|omega|(simp only[List.length_cons];omega)|(dsimp only;omega)
   ·refine pa [0,1,2,3,4,5,6,7,8,9] ?_
    refine o9 ?_
    refine qu ?_;rw[dY];rfl
  ·have zS:i=p.ae.length:=by simp at ht;omega
   subst zS
   refine cL (fC _ _ ?_)
   refine aH fun IZ l7=>?_
   refine aj (fY ·) ?_
   refine aW ?_
   refine c9 hp (fun τ' H' mm=>∃(i:Nat) (μ1:Mp),(i≤p.ao.length∧ic (mP p) (jq p i).gs μ1)∧mm=p.ao.length - i∧H'=bH (eP p mi ((jq p i).out) ((jq p i).dr) (ch p)) ((jq p i).gs) μ1++[.cells (au (aD p)),ep]∧τ'=aG [(1,.op 8 0),(2,.op 9 0),(3,.d (iD 0)),(4,.op 0 0),(7,.d (iD (fI p))),(89,.d (av (kB p))),(90,.d (iD p.ao.length)),(91,.d (iD i))]) (p.ao.length) ?_ ⟨0,μ1,⟨cy _,QU⟩,rfl,rfl,rfl⟩ ?_
   ·refine pa [0,1,2,3,4,5,6,7,8,9] ?_
    refine o9 ?_
    refine qu ?_;simp[bH,bO,eP,au,aD,iD,av,ep,jq,BU dP]
   rintro τ' H' mm ⟨i,μ1,⟨Bx,QS⟩,rfl,rfl,rfl⟩
   refine aj (fY ·) ?_
   refine aH fun IY nf=>?_
   refine aX rfl (fun ht=>?_) (fun ht=>?_)
   ·have aA:i<p.ao.length:=by simp at ht;omega
    have xN:=BU dP
    have hs:=yu dP i Bx
    have L0:=zb dP aA hs
    have vC:=Qb dP i Bx
    have Rj:=PE (p:=p) (show i+1≤p.ao.length by omega)
    rw[wO]at Rj
    obtain⟨s,tj⟩:∃s,s=jq p i:=⟨_,rfl⟩
    rw[←tj]at hs L0 QS vC
    rw[←tj]
    obtain⟨A,hA⟩:∃A,A=du (mP p) s.gs (fI p) (nth (kB p) i):=⟨_,rfl⟩
    obtain⟨R,hR⟩:∃R,R=fa p (ch p) A.1 (nth p.ao i).da:=⟨_,rfl⟩
    have dY:jq p (i+1)=⟨(dh (fun gs k=>du (mP p) gs A.2 (nth R.2 k)) R.1 R.2.length).1,s.out++[⟨6,i,0⟩]++bK 7 i R.2.length,s.dr++[A.2]++(dh (fun gs k=>du (mP p) gs A.2 (nth R.2 k)) R.1 R.2.length).2⟩:=by rw[hR,hA,tj];rfl
    rw[←hA,←hR]at L0
    have ha:=L0.ha;have hb:=L0.hb
    have pz:=hs.len;have sf:=hs.ol;have L9:=ha.len
    have RA:=hb.len;have Rz:=hb.wid
    have hqb:=dP.qb i aA
    have h1:dx (eP p mi (s.out) (s.dr) (ch p)) s.gs μ1:=hs.Mf hv QS (by omega)
    have wN:=xd (eP p mi (s.out) (s.dr) (ch p)) s.gs μ1 (fI p) (nth (kB p) i) h1 (hs.kK dP (List.prefix_refl _)) (hs.Di dP (List.prefix_refl _) aA)
    have QX:aw (eP p mi (s.out) (s.dr) (ch p))=mP p:=rfl
    rw[QX,←hA]at wN
    refine bB (nf _ _ ?_)
    refine aH fun IX l6=>?_
    refine aW ?_
    refine aj (y3 ·) ?_
    refine bC hp ax hc rfl fun IW nc=>?_
    refine fY ?_
    refine pQ (bH (eP p mi (s.out) (s.dr) (ch p)) (s.gs) μ1) ([.cells (au (aD p)),ep]) (wN) ?_
    rintro _ _ ⟨μ2,db,rfl,rfl⟩
    refine⟨rfl,?_⟩
    refine fY ?_
    refine nc _ _ ?_
    refine bC hp ax hc rfl fun Mh pD=>?_
    refine fY ?_
    refine pQ (bH (eP p mi (s.out) (s.dr) (ch p)) (A.1) μ2) ([.cells (au (aD p)),ep]) (Ca (eP p mi (s.out) (s.dr) (ch p)) A.1 μ2 6 i 0 A.2 (by show s.out.length≤_;omega) (by show s.dr.length≤_;omega)) ?_
    rintro _ _ ⟨_,rfl,rfl⟩
    refine⟨rfl,?_⟩
    refine fY ?_
    refine pD _ _ ?_
    refine bI hp (τ':=aG [(1,.op 8 0),(2,.op 9 0),(3,.d (iD 0)),(4,.op 0 0),(7,.d (iD (fI p))),(14,.d (iD i)),(16,.d (iD A.2)),(89,.d (av (kB p))),(90,.d (iD p.ao.length)),(91,.d (iD i))]) (H':=bH (eP p mi (s.out++[⟨6,i,0⟩]) (s.dr++[A.2]) (ch p)) (A.1) μ2++[.cells (au (aD p)),ep]) ?_ ?_
    ·refine pa [0,1,2,3,4,5,6,7,8,9] ?_
     refine o9 ?_
     exact Wf
    have h2:dx (eP p mi (s.out++[⟨6,i,0⟩]) (s.dr++[A.2]) (ch p)) A.1 μ2:=⟨db,ha.gi,gb,by omega⟩
    have eU:=hs.rJ (o:=s.out++[⟨6,i,0⟩]) (d:=s.dr++[A.2]) hv ha.pre h2 (dP.qd i aA).1 (by omega)
    rw[←hR]at eU
    refine bC hp ax hc rfl fun Dm jT=>?_
    refine X4 ?_
    refine pQ (bH (eP p mi (s.out++[⟨6,i,0⟩]) (s.dr++[A.2]) (ch p)) (A.1) μ2) ([.cells (au (aD p)),ep]) (eU.IP (np.agg _)) ?_
    rintro _ _ ⟨μ3,nK,rfl,rfl⟩
    refine⟨rfl,?_⟩
    refine X4 ?_
    refine jT _ _ ?_
    refine aW ?_
    refine c9 hp (fun τ' H' mm=>∃(k:Nat) (μ3:Mp),(k≤R.2.length∧ic (mP p) (dh (fun gs k=>du (mP p) gs A.2 (nth R.2 k)) R.1 k).1 μ3)∧mm=R.2.length - k∧H'=bH (eP p mi (s.out++[⟨6,i,0⟩]++bK 7 i k) (s.dr++[A.2]++(dh (fun gs k=>du (mP p) gs A.2 (nth R.2 k)) R.1 k).2) (ch p)) ((dh (fun gs k=>du (mP p) gs A.2 (nth R.2 k)) R.1 k).1) μ3++[.cells (au (aD p)),ep]∧τ'=aG [(1,.op 8 0),(2,.op 9 0),(3,.d (iD 0)),(4,.op 0 0),(7,.d (iD (fI p))),(14,.d (iD i)),(16,.d (iD A.2)),(89,.d (av (kB p))),(90,.d (iD p.ao.length)),(91,.d (iD i)),(111,.d (av R.2)),(112,.d (iD R.2.length)),(113,.d (iD k))]) (R.2.length) ?_ ⟨0,μ3,⟨cy _,nK⟩,rfl,rfl,rfl⟩ ?_
    ·refine pa [0,1,2,3,4,5,6,7,8,9] ?_
     refine o9 ?_
     refine qu ?_;simp[bH,bO,eP,au,aD,iD,av,ep,dh,bK]
    rintro τ' H' mm ⟨k,μ3,⟨cf,hn7⟩,rfl,rfl,rfl⟩
    refine aj (fY ·) ?_
    refine aH fun R2 tC=>?_
    refine aX rfl (fun ht=>?_) (fun ht=>?_)
    ·have tz:k<R.2.length:=by simp at ht;omega
     have uH:Bs (mP p) (1*k) k R.1 (dh (fun gs k=>du (mP p) gs A.2 (nth R.2 k)) R.1 k):=nB hb.gi fun j hj cW hp hg=>qJ nH hg (ha.nd.pre (hb.pre.trans hp)) (hb.at hp (by omega))
     have xK:dh (fun gs k=>du (mP p) gs A.2 (nth R.2 k)) R.1 (k+1)=((du (mP p) (dh (fun gs k=>du (mP p) gs A.2 (nth R.2 k)) R.1 k).1 A.2 (nth R.2 k)).1,(dh (fun gs k=>du (mP p) gs A.2 (nth R.2 k)) R.1 k).2++[(du (mP p) (dh (fun gs k=>du (mP p) gs A.2 (nth R.2 k)) R.1 k).1 A.2 (nth R.2 k)).2]):=rfl
     generalize dh (fun gs k=>du (mP p) gs A.2 (nth R.2 k)) R.1 k=M at *
     have hMl:=uH.len;have RC:=uH.wid
     have ov:(s.out++[(⟨6,i,0⟩:aB)]++bK 7 i k).length=s.out.length+1+k:=by rw[List.length_append,List.length_append,cX];rfl
     have mG:(s.dr++[A.2]++M.2).length=s.dr.length+1+k:=by rw[List.length_append,List.length_append,RC];rfl
     have h3:dx (eP p mi (s.out++[⟨6,i,0⟩]++bK 7 i k) (s.dr++[A.2]++M.2) (ch p)) M.1 μ3:=⟨hn7,uH.gi,gb,by omega⟩
     refine bB (tC _ _ ?_)
     refine aH fun K38 x3=>?_
     refine aW ?_
     refine aj (y3 ·) ?_
     refine bA hp ax hc rfl fun K40 Db=>?_
     refine fY ?_
     refine pQ (bH (eP p mi (s.out++[⟨6,i,0⟩]++bK 7 i k) (s.dr++[A.2]++M.2) (ch p)) (M.1) μ3) ([.cells (au (aD p)),ep]) (xd (eP p mi (s.out++[⟨6,i,0⟩]++bK 7 i k) (s.dr++[A.2]++M.2) (ch p)) M.1 μ3 A.2 (nth R.2 k) h3 (ha.nd.pre (hb.pre.trans uH.pre)) (hb.at uH.pre (by omega))) ?_
     rintro _ _ ⟨μ4,qo,rfl,rfl⟩
     refine⟨rfl,?_⟩
     refine fY ?_
     refine pQ (bH (eP p mi (s.out++[⟨6,i,0⟩]++bK 7 i k) (s.dr++[A.2]++M.2) (ch p)) ((du (mP p) M.1 A.2 (nth R.2 k)).1) μ4) ([.cells (au (aD p)),ep]) (Ca (eP p mi (s.out++[⟨6,i,0⟩]++bK 7 i k) (s.dr++[A.2]++M.2) (ch p)) _ μ4 7 i k _ (by show(s.out++[(⟨6,i,0⟩:aB)]++bK 7 i k).length≤_;omega) (by show(s.dr++[A.2]++M.2).length≤_;omega)) ?_
     rintro _ _ ⟨_,rfl,rfl⟩
     refine⟨rfl,?_⟩
     refine fY ?_
     refine Db _ _ (x3 _ _ ?_)
     refine bA hp ax hc rfl fun K41 xZ=>?_
     refine fY ?_
     refine xZ _ _ ⟨_,_,_,?_,⟨k+1,μ4,⟨by omega,by rw[xK];exact qo⟩,rfl,rfl,rfl⟩,?_⟩
     ·first|omega|(simp only[List.length_cons];omega)|(dsimp only;omega)
     ·refine pa [0,1,2,3,4,5,6,7,8,9] ?_
      refine o9 ?_
      refine qu ?_;rw[xK,xh];simp[bH,bO,eP,au,aD,iD,av,ep,aw,mP]
    ·have jS:k=R.2.length:=by simp at ht;omega
     subst jS
     refine cL (l6 _ _ ?_)
     refine bA hp ax hc rfl fun R1 tB=>?_
     refine fY ?_
     refine tB _ _ ⟨_,_,_,?_,⟨i+1,μ3,⟨by omega,by rw[dY];exact hn7⟩,rfl,rfl,rfl⟩,?_⟩
     ·first|omega|(simp only[List.length_cons];omega)|(dsimp only;omega)
     ·refine pa [0,1,2,3,4,5,6,7,8,9] ?_
      refine o9 ?_
      refine qu ?_;rw[dY]
   ·have zS:i=p.ao.length:=by simp at ht;omega
    subst zS
    refine cL (l7 _ _ ?_)
    refine aH fun K43 xY=>?_
    refine aj (fY ·) ?_
    refine aW ?_
    refine c9 hp (fun τ' H' mm=>∃(i:Nat) (μ1:Mp),(i≤p.mems.length∧ic (mP p) (gU p i).gs μ1)∧mm=p.mems.length - i∧H'=bH (eP p mi ((gU p i).out) ((gU p i).dr) (ch p)) ((gU p i).gs) μ1++[.cells (au (aD p)),ep]∧τ'=aG [(1,.op 8 0),(2,.op 9 0),(3,.d (iD 0)),(4,.op 0 0),(7,.d (iD (fI p))),(129,.d (.fs (p.mems.flatMap oX) p.mems.length)),(130,.d (iD p.mems.length)),(131,.d (iD i))]) (p.mems.length) ?_ ⟨0,μ1,⟨cy _,QS⟩,rfl,rfl,rfl⟩ ?_
    ·refine pa [0,1,2,3,4,5,6,7,8,9] ?_
     refine o9 ?_
     refine qu ?_;simp[bH,bO,eP,au,aD,iD,av,ep,gU]
    rintro τ' H' mm ⟨i,μ1,⟨hi4,hn8⟩,rfl,rfl,rfl⟩
    refine aj (fY ·) ?_
    refine aH fun K46 RN=>?_
    refine aX rfl (fun ht=>?_) (fun ht=>?_)
    ·have aA:i<p.mems.length:=by simp at ht;omega
     have hs:=uT dP i hi4
     have vC:=jm2 dP i hi4
     have wN:=PF (p:=p) (show i+1≤p.mems.length by omega)
     rw[wQ]at wN
     have rp:=dP.ct.m i (by simpa[aI]using aA)
     rw[show nth (aI p).mems i=((nth p.mems i).words,(nth p.mems i).w) from lQ aA]at rp
     simp only at rp
     obtain⟨s,tj⟩:∃s,s=gU p i:=⟨_,rfl⟩
     rw[←tj]at hs hn8 vC
     rw[←tj]
     obtain⟨N,hN⟩:∃N,N=fa p (ch p) s.gs (nth p.mems i).en:=⟨_,rfl⟩
     obtain⟨A,hA⟩:∃A,A=du (mP p) N.1 (fI p) (nth N.2 0):=⟨_,rfl⟩
     obtain⟨J,hJ⟩:∃J,J=fa p (ch p) A.1 (nth p.mems i).ad:=⟨_,rfl⟩
     obtain⟨V,hV⟩:∃V,V=fa p (ch p) J.1 (nth p.mems i).da:=⟨_,rfl⟩
     have dY:gU p (i+1)=⟨V.1,s.out++[⟨8,i,0⟩]++bK 9 i 3++bK 10 i V.2.length,s.dr++[A.2]++gS J.2 (nth p.mems i).words++V.2⟩:=by rw[hV,hJ,hA,hN,tj];rfl
     obtain⟨he,ha,hd,hw⟩:=za dP aA hs hN hA hJ hV
     have pz:=hs.len;have sf:=hs.ol
     have hel:=he.len;have L9:=ha.len;have mG:=hd.len;have ov:=hw.len
     have hew:=he.wid;have hdw:=hd.wid;have hU:=hw.wid
     have hJw:=jy dP.ct (dP.ma i aA)
     have h1:dx (eP p mi (s.out) (s.dr) (ch p)) s.gs μ1:=hs.Mf hv hn8 (by omega)
     have c1:=hs.rJ (o:=s.out) (d:=s.dr) hv (List.prefix_refl _) h1 (dP.me i aA).1 (by omega)
     rw[←hN]at c1
     have c2:=fun μ (h2:dx (eP p mi (s.out) (s.dr) (ch p)) N.1 μ)=>xd (eP p mi (s.out) (s.dr) (ch p)) N.1 μ (fI p) (nth N.2 0) h2 (hs.kK dP he.pre) (he.nd 0 (by decide))
     have QX:aw (eP p mi (s.out) (s.dr) (ch p))=mP p:=rfl
     rw[QX,←hA]at c2
     refine bB (RN _ _ ?_)
     refine aH fun K47 vF=>?_
     refine aW ?_
     refine aj (fY ·) ?_
     refine bC hp ax hc rfl fun K49 Da=>?_
     refine y3 ?_
     refine pQ (bH (eP p mi (s.out) (s.dr) (ch p)) (s.gs) μ1) ([.cells (au (aD p)),ep,.cells (au (iz (nth p.mems i)))]) (c1) ?_
     rintro _ _ ⟨μ2,db,rfl,rfl⟩
     refine⟨rfl,?_⟩
     have h2:dx (eP p mi (s.out) (s.dr) (ch p)) N.1 μ2:=⟨db,he.gi,gb,by omega⟩
     refine y3 ?_
     refine pQ (bH (eP p mi (s.out) (s.dr) (ch p)) (N.1) μ2) ([.cells (au (aD p)),ep,.cells (au (iz (nth p.mems i)))]) (c2 μ2 h2) ?_
     rintro _ _ ⟨μ3,nK,rfl,rfl⟩
     refine⟨rfl,?_⟩
     refine y3 ?_
     refine pQ (bH (eP p mi (s.out) (s.dr) (ch p)) (A.1) μ3) ([.cells (au (aD p)),ep,.cells (au (iz (nth p.mems i)))]) (Ca (eP p mi (s.out) (s.dr) (ch p)) A.1 μ3 8 i 0 A.2 (by show s.out.length≤_;omega) (by show s.dr.length≤_;omega)) ?_
     rintro _ _ ⟨_,rfl,rfl⟩
     refine⟨rfl,?_⟩
     refine y3 ?_
     refine Da _ _ ?_
     refine aH fun K50 RL=>?_
     have h3:dx (eP p mi (s.out++[⟨8,i,0⟩]) (s.dr++[A.2]) (ch p)) A.1 μ3:=⟨nK,ha.gi,gb,by omega⟩
     have c3:=hs.rJ (o:=s.out++[⟨8,i,0⟩]) (d:=s.dr++[A.2]) hv (he.pre.trans ha.pre) h3 (dP.ma i aA) (by omega)
     rw[←hJ]at c3
     have c4:=jmn J.2 (nth p.mems i).words (by omega) (by omega)
     refine jN ax hp hc mixed rfl [(0,[]),(1,[]),(2,[]),(4,[]),(5,[]),(7,[]),(3,[5]),(6,[])] [[],[],[1],[0,1,2],[],[4],[0,1,2,3,4,5],[]] 0 (by kernel_rfl) fun K51 RK=>?_
     refine OG ?_
     refine uL (S:=bH (eP p mi (s.out++[⟨8,i,0⟩]) (s.dr++[A.2]) (ch p)) (A.1) μ3) (T:=[.cells (au (aD p)),ep,.cells (au (iz (nth p.mems i)))]) (c3) rfl (bN rfl) (by first|rfl|(simp[AV.ah,AV.allI,bc,bg,bf,aJ,aN,aY,aZ,bH,bO,eP,ep,ec,iy,eR,iz];done)|(intro o ho;simp at ho;done)) (fun t=>fU (by first|rfl|(simp[AV.ah,AV.allI,bc,bg,bf,aJ,aN,aY,aZ,bH,bO,eP,ep,ec,iy,eR,iz];done)|(intro o ho;simp at ho;done)) t) (fun t=>fU (by first|rfl|(simp[AV.ah,AV.allI,bc,bg,bf,aJ,aN,aY,aZ,bH,bO,eP,ep,ec,iy,eR,iz];done)|(intro o ho;simp at ho;done)) t) (by first|rfl|(simp[AV.ah,AV.allI,bc,bg,bf,aJ,aN,aY,aZ,bH,bO,eP,ep,ec,iy,eR,iz];done)|(intro o ho;simp at ho;done)) (by first|rfl|(simp[AV.ah,AV.allI,bc,bg,bf,aJ,aN,aY,aZ,bH,bO,eP,ep,ec,iy,eR,iz];done)|(intro o ho;simp at ho;done)) (by first|rfl|(simp[AV.ah,AV.allI,bc,bg,bf,aJ,aN,aY,aZ,bH,bO,eP,ep,ec,iy,eR,iz];done)|(intro o ho;simp at ho;done)) ?_
     rintro _ _ ⟨μ4,qo,rfl,rfl⟩
     refine⟨rfl,?_⟩
     refine OG ?_
     refine w4 (c4) rfl ?_
     refine OG ?_
     refine RK _ _ ?_
     refine aW ?_
     refine c9 hp (fun τ' H' mm=>∃(k:Nat),(k≤3)∧mm=3 - k∧H'=bH (eP p mi (s.out++[⟨8,i,0⟩]++bK 9 i k) (s.dr++[A.2]++(gS J.2 (nth p.mems i).words).take k) (ch p)) (J.1) μ4++[.cells (au (aD p)),ep,.cells (au (iz (nth p.mems i)))]∧τ'=aG [(1,.op 8 0),(2,.op 9 0),(3,.d (iD 0)),(4,.op 0 0),(7,.d (iD (fI p))),(129,.d (.fs (p.mems.flatMap oX) p.mems.length)),(130,.d (iD p.mems.length)),(131,.d (iD i)),(19,.d (iD i)),(20,.op 10 0),(154,.d (.agg ((gS J.2 (nth p.mems i).words).map iD))),(155,.d (iD k))]) (3) ?_ ⟨0,by omega,rfl,rfl,rfl⟩ ?_
     ·refine pa [0,1,2,3,4,5,6,7,8,9,10] ?_
      refine o9 ?_
      refine qu ?_;simp[bH,bO,eP,au,aD,iD,av,ep,bK,iz]
     rintro τ' H' mm ⟨k,hk6,rfl,rfl,rfl⟩
     refine aj (fY ·) ?_
     refine aH fun K53 C9=>?_
     refine aX rfl (fun ht=>?_) (fun ht=>?_)
     ·have Ia:k<3:=by simp at ht;omega
      have C0:=tX J.2 (nth p.mems i).words
      have hwl6:(s.out++[(⟨8,i,0⟩:aB)]++bK 9 i k).length=s.out.length+1+k:=by rw[List.length_append,List.length_append,cX];rfl
      have hdl6:(s.dr++[A.2]++(gS J.2 (nth p.mems i).words).take k).length=s.dr.length+1+k:=by simp[C0];omega
      have Rf:((gS J.2 (nth p.mems i).words).map iD)[k]? =some (iD (nth (gS J.2 (nth p.mems i).words) k)):=dm (by omega)
      refine bB (C9 _ _ ?_)
      refine aH fun K54 RJ=>?_
      refine aW ?_
      refine bC hp ax hc rfl fun K55 C8=>?_
      simp -dsimp -implicitDefEqProofs (disch:=first|assumption|omega|(simp only[aK,aT,bx,dK,fM,dT,dS]<;>omega)|decide) only[aP,↓reduceIte,Nat.reduceEqDiff,Nat.reduceAdd,D.fix,Int.reduceToNat,Nat.reduceMul,Nat.reduceBNe,Nat.reduceBEq,bR,bH,bO,aD,bE,List.cons_append,List.nil_append,cv,ep,eP,ec,n9,lA,iy,lF,kg,eR,qf,mJ,iz,nS,sD,Rf,Option.map_some,bw]
      refine C8 _ _ ?_
      refine bA hp ax hc rfl fun K56 C7=>?_
      refine fY ?_
      refine pQ (bH (eP p mi (s.out++[⟨8,i,0⟩]++bK 9 i k) (s.dr++[A.2]++(gS J.2 (nth p.mems i).words).take k) (ch p)) (J.1) μ4) ([.cells (au (aD p)),ep,.cells (au (iz (nth p.mems i)))]) (Ca (eP p mi (s.out++[⟨8,i,0⟩]++bK 9 i k) (s.dr++[A.2]++(gS J.2 (nth p.mems i).words).take k) (ch p)) J.1 μ4 9 i k (nth (gS J.2 (nth p.mems i).words) k) (by show(s.out++[(⟨8,i,0⟩:aB)]++bK 9 i k).length≤_;omega) (by show(s.dr++[A.2]++(gS J.2 (nth p.mems i).words).take k).length≤_;omega)) ?_
      rintro _ _ ⟨_,rfl,rfl⟩
      refine⟨rfl,?_⟩
      refine fY ?_
      refine C7 _ _ (RJ _ _ ?_)
      refine bA hp ax hc rfl fun K57 RI=>?_
      refine fY ?_
      refine RI _ _ ⟨_,_,_,?_,⟨k+1,by omega,rfl,rfl,rfl⟩,?_⟩
      ·first|omega|(simp only[List.length_cons];omega)|(dsimp only;omega)
      ·refine pa [0,1,2,3,4,5,6,7,8,9,10] ?_
       refine o9 ?_
       refine qu ?_;rw[uX (show k<(gS J.2 (nth p.mems i).words).length by omega),xh];simp[bH,bO,eP,au,aD,iD,av,ep,iz]
     ·have jS:k=3:=by simp at ht;omega
      subst jS
      have hta:(gS J.2 (nth p.mems i).words).take 3=gS J.2 (nth p.mems i).words:=yE (by rw[tX];exact bm _)
      rw[hta]
      have h5:dx (eP p mi (s.out++[⟨8,i,0⟩]++bK 9 i 3) (s.dr++[A.2]++gS J.2 (nth p.mems i).words) (ch p)) J.1 μ4:=⟨qo,hd.gi,gb,by omega⟩
      have c5:=hs.rJ (o:=s.out++[⟨8,i,0⟩]++bK 9 i 3) (d:=s.dr++[A.2]++gS J.2 (nth p.mems i).words) hv (he.pre.trans (ha.pre.trans hd.pre)) h5 (dP.md i aA).1 (by omega)
      rw[←hV]at c5
      refine cL (RL _ _ ?_)
      refine bC hp ax hc rfl fun K58 C6=>?_
      refine fY ?_
      refine pQ (bH (eP p mi (s.out++[⟨8,i,0⟩]++bK 9 i 3) (s.dr++[A.2]++gS J.2 (nth p.mems i).words) (ch p)) (J.1) μ4) ([.cells (au (aD p)),ep,.cells (au (iz (nth p.mems i)))]) (c5) ?_
      rintro _ _ ⟨μ5,QT,rfl,rfl⟩
      refine⟨rfl,?_⟩
      refine fY ?_
      refine C6 _ _ ?_
      refine aW ?_
      refine c9 hp (fun τ' H' mm=>∃(k:Nat),(k≤V.2.length)∧mm=V.2.length - k∧H'=bH (eP p mi (s.out++[⟨8,i,0⟩]++bK 9 i 3++bK 10 i k) (s.dr++[A.2]++gS J.2 (nth p.mems i).words++V.2.take k) (ch p)) (V.1) μ5++[.cells (au (aD p)),ep]∧τ'=aG [(1,.op 8 0),(2,.op 9 0),(3,.d (iD 0)),(4,.op 0 0),(7,.d (iD (fI p))),(129,.d (.fs (p.mems.flatMap oX) p.mems.length)),(130,.d (iD p.mems.length)),(131,.d (iD i)),(19,.d (iD i)),(168,.d (av V.2)),(169,.d (iD V.2.length)),(170,.d (iD k))]) (V.2.length) ?_ ⟨0,cy _,rfl,rfl,rfl⟩ ?_
      ·refine pa [0,1,2,3,4,5,6,7,8,9] ?_
       refine o9 ?_
       refine qu ?_;simp[bH,bO,eP,au,aD,iD,av,ep,bK]
      rintro τ' H' mm ⟨k,hk7,rfl,rfl,rfl⟩
      refine aj (fY ·) ?_
      refine aH fun K60 C5=>?_
      refine aX rfl (fun ht=>?_) (fun ht=>?_)
      ·have tz:k<V.2.length:=by simp at ht;omega
       have C0:=tX J.2 (nth p.mems i).words
       have hwl7:(s.out++[(⟨8,i,0⟩:aB)]++bK 9 i 3++bK 10 i k).length=s.out.length+4+k:=by rw[List.length_append,List.length_append,List.length_append,cX,cX];rfl
       have hdl7:(s.dr++[A.2]++gS J.2 (nth p.mems i).words++V.2.take k).length=s.dr.length+4+k:=by simp[C0];omega
       refine bB (C5 _ _ ?_)
       refine aH fun K61 RH=>?_
       refine aW ?_
       refine aj (y3 ·) ?_
       refine bA hp ax hc rfl fun K63 RE=>?_
       refine fY ?_
       refine pQ (bH (eP p mi (s.out++[⟨8,i,0⟩]++bK 9 i 3++bK 10 i k) (s.dr++[A.2]++gS J.2 (nth p.mems i).words++V.2.take k) (ch p)) (V.1) μ5) ([.cells (au (aD p)),ep]) (Ca (eP p mi (s.out++[⟨8,i,0⟩]++bK 9 i 3++bK 10 i k) (s.dr++[A.2]++gS J.2 (nth p.mems i).words++V.2.take k) (ch p)) V.1 μ5 10 i k (nth V.2 k) (by show(s.out++[(⟨8,i,0⟩:aB)]++bK 9 i 3++bK 10 i k).length≤_;omega) (by show(s.dr++[A.2]++gS J.2 (nth p.mems i).words++V.2.take k).length≤_;omega)) ?_
       rintro _ _ ⟨_,rfl,rfl⟩
       refine⟨rfl,?_⟩
       refine fY ?_
       refine RE _ _ (RH _ _ ?_)
       refine bA hp ax hc rfl fun K64 C4=>?_
       refine fY ?_
       refine C4 _ _ ⟨_,_,_,?_,⟨k+1,by omega,rfl,rfl,rfl⟩,?_⟩
       ·first|omega|(simp only[List.length_cons];omega)|(dsimp only;omega)
       ·refine pa [0,1,2,3,4,5,6,7,8,9] ?_
        refine o9 ?_
        refine qu ?_;rw[uX tz,xh 10 (i:Int) k];simp[bH,bO,eP,au,aD,iD,av,ep]
      ·have jS:k=V.2.length:=by simp at ht;omega
       subst jS
       refine cL (vF _ _ ?_)
       refine bA hp ax hc rfl fun K65 zW=>?_
       refine fY ?_
       refine zW _ _ ⟨_,_,_,?_,⟨i+1,μ5,⟨by omega,by rw[dY];exact QT⟩,rfl,rfl,rfl⟩,?_⟩
       ·first|omega|(simp only[List.length_cons];omega)|(dsimp only;omega)
       ·refine pa [0,1,2,3,4,5,6,7,8,9] ?_
        refine o9 ?_
        refine qu ?_;rw[dY,List.take_length]
    ·have zS:i=p.mems.length:=by simp at ht;omega
     subst zS
     have hm:=uT dP _ (bm p.mems.length)
     have QW:=hm.len
     have hcM:=PF (p:=p) (bm p.mems.length)
     refine cL (xY _ _ ?_)
     refine aH fun K66 C3=>?_
     refine eN ax hc mixed rfl (q:=0) (by kernel_rfl) (by kernel_rfl) fun K67 RD=>?_
     refine fY ?_
     refine RD _ _ ?_
     refine aX rfl (fun ht=>?_) (fun ht=>?_)
     ·have xU:600<2+(dN p).length+(gU p p.mems.length).gs.length:=by simp at ht;omega
      refine aj (fY ·) ?_
      refine bh ?_
      try dsimp only[fb,fc]
      refine TI rfl ?_
      refine X3 ?_
      show aC _ _=_
      refine WK ?_
      unfold Ft;rw[if_pos (show 600<2+(dN p).length+(eV p).aO.length from xU)];rfl
     ·have xU:¬600<2+(dN p).length+(gU p p.mems.length).gs.length:=by simp at ht;omega
      refine bB (C3 _ _ ?_)
      refine aj (fY ·) ?_
      refine bh ?_
      try dsimp only[fb,fc]
      refine TI rfl ?_
      refine X3 ?_
      show aC _ _=_
      refine WK ?_
      unfold Ft;rw[if_neg (show ¬600<2+(dN p).length+(eV p).aO.length from xU)];simp only[Jw,jeo];rfl
end Go.Proofs.YtapjobndmmkanaaGreat
