/- netlist.Build. -/
import Derived.Test.YtapjobndmmkanaaGreatQr
import Derived.Test.YtapjobndmmkanaaGreatYr
set_option linter.unusedVariables false
set_option linter.unusedSimpArgs false
set_option maxRecDepth 100000
set_option maxHeartbeats 4000000
namespace Go.Proofs.YtapjobndmmkanaaGreat
open Go.Proofs.Tryz
open Go Go.RowKit
theorem Rt.fry{m:List Nat}{τ:Fr}{H:av}:Rt m τ H τ (H++[.free]):=fun c a w _ h=>R.eV 1 H h
def eR:bB:=.cells [.d (.val (.slice none 0 0)),.d (.val (.slice none 0 0)),.d (.val (.slice none 0 0)),.d (.val (.slice none 0 0))]
def EO(p:Pr):AV:=if 600<2+(aU p).length+(kh p).gates.length then .dR [.d (.agg (dp ⟨[],[],[],[]⟩)),.d (iD 2)]else .dR [.d (dt (kh p)),.d (iD 0)]
section
variable {p:Pr} {mi:Mp} {o:List aT} {d:List Int} {n:Nat} {s:Os}
theorem fP.Lm(hs:fP p n s)(hv:uQ p mi){μ:Mp}(hn:ir (mP p) s.gs μ)(hl:n≤80000):dM (eP p mi o d (bU p)) s.gs μ:=⟨hn,hs.gi,hv.il,by have:=hs.len;omega⟩
theorem fP.qY(hs:fP p n s)(hv:uQ p mi){gs:Gs}{μ:Mp}{ex:Ex}(hp:s.gs<+:gs)(hg:dM (eP p mi o d (bU p)) gs μ)(hw:WT (aR p) true ex)(hl:gs.length+cf (aR p) ex≤90000):
  cY prog [0,1,3,4,5,6,7] 92 [.op 0 0,.agg ((gg ex).map .d)] (bH (eP p mi o d (bU p)) gs μ) (FF (eP p mi o d (bU p)) (dW p (bU p) gs ex)):=by
 have:=LW (eP p mi o d (bU p)) hv.be true ex gs μ hg (yw hv.k ((hs.tp hv.k).trans hp)) hw hl
 rwa[Lw hv.be]at this
end
theorem jj0{α:Type}[Inhabited α]{f:α→List D}{w:Nat}(hw:∀a,(f a).length=w){l:List α}{k off n:Nat}(hk:k<l.length)(ho:off+n≤w):ec (l.flatMap f) (k*w+off) n=some (((f (nth l k)).drop off).take n):=by
 have e1:(l.flatMap f).drop (k*w+off)=((f (nth l k)).drop off)++(l.drop (k+1)).flatMap f:=by
  rw[←List.drop_drop,Fm hw,o7 hk,List.drop_eq_getElem_cons hk,List.flatMap_cons,List.drop_append_of_le_length (by rw[hw];omega)]
 unfold ec
 rw[if_pos (by
  rw[o9 hw]
  have:=Nat.mul_le_mul_right w (show k+1≤l.length from hk)
  rw[Nat.add_mul]at this;omega),e1,List.take_append_of_le_length (by rw[List.length_drop,hw];omega)]
theorem ycb{l:List mg}{k:Nat}(h:k<l.length):ec (l.flatMap rO) (k*16+9) 7=some (bR (nth l k).da):=by
 rw[jj0 mS h (by omega)]
 show some ((((bR (nth l k).wh)++bR (nth l k).da).drop 7).take 7)=_
 rw[List.drop_append_of_le_length (by rw[lg];omega),List.drop_of_length_le (by rw[lg];omega),List.nil_append,ui (by rw[lg];omega)]
theorem ycc{l:List mg}{k:Nat}(h:k<l.length):ec (l.flatMap rO) (k*16+9) 7=some (gg (nth l k).da):=by rw[←xJ];exact ycb h
theorem Lt{p:Pr}(h:cB p):∀i,i≤p.aC.length→(fg p i).dr.length≤8*i
 |0,_=>by simp[fg]
 |i+1,hi=>by
  have ih:=Lt h i (by omega)
  have hs:=zY h (show i<p.aC.length by omega) (yA h i (by omega))
  have hw:=h.ct.r i (by simp[aR];omega)
  rw[show nth (aR p).aC i=(nth p.aC i).w from tE (show i<p.aC.length by omega)]at hw
  simp only[fg,List.length_append,L5,hs.b.wid]
  omega
theorem Ls{p:Pr}(h:cB p):∀i,i≤p.ag.length→(gT p i).dr.length≤8*p.aC.length+i
 |0,_=>by have:=Lt h _ (bJ _);simpa[gT]using this
 |i+1,hi=>by
  have ih:=Ls h i (by omega)
  simp only[gT,List.length_append,List.length_cons,List.length_nil]
  omega
theorem Lr{p:Pr}(h:cB p):∀i,i≤p.aE.length→(gN p i).dr.length≤8*p.aC.length+p.ag.length+9*i
 |0,_=>by have:=Ls h _ (bJ _);simpa[gN]using this
 |i+1,hi=>by
  have ih:=Lr h i (by omega)
  have hs:=By h (show i<p.aE.length by omega) (Ad h i (by omega))
  have hw:=h.qb i (by omega)
  simp only[gN,List.length_append,List.length_cons,List.length_nil,L5,hs.hb.wid]
  omega
theorem jj1{p:Pr}(h:cB p):∀i,i≤p.au.length→(eu p i).dr.length≤8*p.aC.length+p.ag.length+9*p.aE.length+12*i
 |0,_=>by have:=Lr h _ (bJ _);simpa[eu]using this
 |i+1,hi=>by
  have ih:=jj1 h i (by omega)
  have hs:=Bx h (show i<p.au.length by omega) (ub h i (by omega)) rfl rfl rfl rfl
  have hw:=h.ct.m i (by simp[aR];omega)
  rw[show nth (aR p).au i=((nth p.au i).words,(nth p.au i).w) from tE (show i<p.au.length by omega)]at hw
  simp only[eu,List.length_append,List.length_cons,List.length_nil,va,hs.hw.wid]
  simp only at hw
  omega
theorem fW{p q:Prop}(hq:q)(h:p=q:=by
 conv=>lhs;simp -dsimp -implicitDefEqProofs (disch:=first|assumption|omega|(simp only[aH,aQ,bc,lP,u9,mW,mV]<;>omega)|decide) only[aN,↓reduceIte,Nat.reduceEqDiff,Nat.reduceAdd,D.fix,Int.reduceToNat,Nat.reduceMul,Nat.reduceBNe,Nat.reduceBEq,ch,bH,bO,aK,aY,List.cons_append,List.nil_append,dI,eR,eP,eF,tZ,qk,jT,pY,mS,gm,xI,qj,j9,nS,sD,bw]):p:=h.mpr hq
theorem oW(k:List Nat){m:List Nat}{τ τ1:Fr}{H H1:av}(h:Rt m (fun t=>du k (τ t)) (dg k H) τ1 H1)(a:∀i∈m,k[i]? =some i:=by decide)(b:k.Nodup:=by decide)(c:∀i∈k,i<H.length:=by
 simp[eJ,dg]):Rt m τ H τ1 H1:=Rt.trans (Rt.gc a b c) h
theorem oV{m:List Nat}{τ τ':Fr}{H H':av}(h2:H=H')(h:fw τ τ':=by
 repeat (first|exact cw _|refine cg ?_ (by first|rfl|(simp[aX,aQ,bc,lP,u9,mW,mV,BF eZ,BC eZ];done)|simp[aX,aQ,bc,lP,u9,mW,mV,BF eZ,BC eZ, *]))):Rt m τ H τ' H':=Rt.end h h2
theorem pN{P:Program}{sm:List Nat}{N:Nat}{τ:Fr}{H:av}{f:FuncId}{args:List AV}{K0 KK:AV→av→Prop}{ks:List Nat}(S T:av)(h:cY P ks f args S K0)(hK:∀x S',K0 x S'→S'.length=S.length∧KK x (S'++T))(hH:H=S++T:=by
 rfl) (hm:sm.all (aL ks S.length)=true:=by
 first|rfl|(simp[AV.aj,AV.allI,bo,bq,bp,aL,aO,bn,br,bH,bO,eP,eR,eF,jT,gm,j9];done)|(intro o ho;simp at ho;done)) (hτ:∀t,(τ t).allI (aL ks S.length)=true:=by
 exact fun t=>fL (by first|rfl|(simp[AV.aj,AV.allI,bo,bq,bp,aL,aO,bn,br,bH,bO,eP,eR,eF,jT,gm,j9];done)|(intro o ho;simp at ho;done)) t) (ha:AV.aj (aO S.length) args=true:=by
 first|rfl|(simp[AV.aj,AV.allI,bo,bq,bp,aL,aO,bn,br,bH,bO,eP,eR,eF,jT,gm,j9];done)|(intro o ho;simp at ho;done)) (hS:∀o∈S,o.allI (aO S.length)=true:=by
 first|rfl|(simp[AV.aj,AV.allI,bo,bq,bp,aL,aO,bn,br,bH,bO,eP,eR,eF,jT,gm,j9];done)|(intro o ho;simp at ho;done)) (hT:∀o∈T,o.allI (aL ks S.length)=true:=by
 first|rfl|(simp[AV.aj,AV.allI,bo,bq,bp,aL,aO,bn,br,bH,bO,eP,eR,eF,jT,gm,j9];done)|(intro o ho;simp at ho;done)):kC P sm N H τ (.d (.val (.func (.func f) #[] #[]))) args true (tg KK):=rH h hH hm hτ ha hS hT hK
theorem yk{p q:Prop}(hq:q)(h:p=q:=by
 conv=>lhs;simp -dsimp -implicitDefEqProofs (disch:=first|assumption|omega|(simp only[aH,aQ,bc,lP,u9,mW,mV]<;>omega)|decide) only[aN,↓reduceIte,Nat.reduceEqDiff,Nat.reduceAdd,D.fix,Int.reduceToNat,Nat.reduceMul,Nat.reduceBNe,Nat.reduceBEq,ch,bH,bO,aK,aY,List.cons_append,List.nil_append,dI,eR,eP,eF,tZ,qk,jT,pY,mS,gm,xI,qj,j9,nS,sD,db,bw]):p:=h.mpr hq
theorem NS{p q r:Prop}(e:r)(hq:q)(h:r→p=q:=by
 intro hY
 conv=>lhs;simp -dsimp -implicitDefEqProofs (disch:=first|assumption|omega|(simp only[aH,aQ,bc,lP,u9,mW,mV]<;>omega)|decide) only[aN,↓reduceIte,Nat.reduceEqDiff,Nat.reduceAdd,D.fix,Int.reduceToNat,Nat.reduceMul,Nat.reduceBNe,Nat.reduceBEq,ch,bH,bO,aK,aY,List.cons_append,List.nil_append,dI,eR,eP,eF,tZ,qk,jT,pY,mS,gm,xI,qj,j9,nS,sD,E6,vK,Om Jn mb hv.m.ok,Option.getD_some,bw,hY]):p:=(h e).mpr hq
theorem WX{p q:Prop}(hq:q)(h:p=q:=by
 conv=>lhs;simp -dsimp -implicitDefEqProofs (disch:=first|assumption|omega|(simp only[aH,aQ,bc,lP,u9,mW,mV]<;>omega)|decide) only[aN,↓reduceIte,Nat.reduceEqDiff,Nat.reduceAdd,D.fix,Int.reduceToNat,Nat.reduceMul,Nat.reduceBNe,Nat.reduceBEq,ch,bH,bO,aK,aY,List.cons_append,List.nil_append,dI,eR,eP,eF,tZ,qk,jT,pY,mS,gm,xI,qj,j9,nS,sD,ycc,bw]):p:=h.mpr hq
theorem NR{p q:Prop}(hq:q)(h:p=q:=by
 conv=>lhs;simp -dsimp -implicitDefEqProofs (disch:=first|assumption|omega|(simp only[aH,aQ,bc,lP,u9,mW,mV]<;>omega)|decide) only[aN,↓reduceIte,Nat.reduceEqDiff,Nat.reduceAdd,D.fix,Int.reduceToNat,Nat.reduceMul,Nat.reduceBNe,Nat.reduceBEq,mC,ch,bH,bO,aK,aY,List.cons_append,List.nil_append,dI,eR,eP,eF,tZ,qk,jT,pY,mS,gm,xI,qj,j9,nS,sD,bw]):p:=h.mpr hq
theorem WW{p q:Prop}(hq:q)(h:p=q:=by
 conv=>lhs;simp -dsimp -implicitDefEqProofs (disch:=first|assumption|omega|(simp only[aH,aQ,bc,lP,u9,mW,mV]<;>omega)|decide) only[aN,↓reduceIte,Nat.reduceEqDiff,Nat.reduceAdd,D.fix,Int.reduceToNat,Nat.reduceMul,Nat.reduceBNe,Nat.reduceBEq,ch,bH,bO,aK,aY,List.cons_append,List.nil_append,dI,eR,eP,eF,tZ,qk,jT,pY,mS,gm,xI,qj,j9,nS,sD,vN,Mt]):p:=h.mpr hq
theorem qf{p q:Prop}(hq:q)(h:p=q:=by
 conv=>lhs;simp only[cP,Nat.reduceAdd,↓reduceIte,Nat.reduceEqDiff,ch,bH,bO,aK,aY,List.cons_append,List.nil_append,dI,eR,eP,eF,tZ,qk,jT,pY,mS,gm,xI,qj,j9,nS,sD]):p:=h.mpr hq
theorem VD{p:Prop}(h:p:=by
 first|rfl|(simp only[cP,Nat.reduceAdd,↓reduceIte,Nat.reduceEqDiff,ch,bH,bO,aK,aY,List.cons_append,List.nil_append,dI,eR,eP,eF,tZ,qk,jT,pY,mS,gm,xI,qj,j9,nS,sD];first|done|rfl)):p:=h
theorem VC{p q:Prop}(hq:q)(h:p=q:=by
 conv=>lhs;simp (disch:=first|assumption|omega|(simp only[aH,aQ,bc,lP,u9,mW,mV]<;>omega)|decide) only[fA,Nat.reduceAdd,D.fix,↓reduceIte,Nat.reduceEqDiff,ch,bH,bO,aK,aY,List.cons_append,List.nil_append,dI,eR,eP,eF,tZ,qk,jT,pY,mS,gm,xI,qj,j9,nS,sD]):p:=h.mpr hq
theorem jj2(p:Pr)(eZ:cB p)(gL:(aU p).length≤1000)(nQ:oG p≤80000)(p9:p.au.length≤100):dq prog 30 [dI p] (EO p):=by
 have p7:=eZ.rl;have vt:=eZ.tl;have wF:=eZ.ql
 refine fh (fn:=f30) (by kernel_rfl) func30 rfl (cn rfl) fun c hc hp=>?_
 refine dY (τ':=aF [(0,.d (dI p))]) (by repeat (first|exact cw _|refine cg ?_ (by first|rfl|(simp[aX,aQ,bc,lP,u9,mW,mV,BF eZ,BC eZ];done)|simp[aX,aQ,bc,lP,u9,mW,mV,BF eZ,BC eZ, *]))) ?_
 refine ah (fW ·) ?_
 refine ah (fW ·) ?_
 refine bC hp (τ':=aF [(1,.op 8 0),(2,.op 9 0),(3,.d (iD 0)),(4,.op 0 0)]) (H':=bH ⟨p,[],([],0),[],[],[]⟩ [] ([],0)++[.cells (ak (aK p)),eR]) ?_ ?_
 ·refine Rt.trans (Rt.fm 4 0 3 rfl rfl) ?_
  refine Rt.trans (Rt.fm 4 1 5 rfl rfl) ?_
  refine Rt.trans (Rt.fm 4 2 3 rfl rfl) ?_
  refine Rt.trans (Rt.fm 4 3 1 rfl rfl) ?_
  refine Rt.trans (Rt.fm 4 12 1 rfl rfl) ?_
  refine oW [4,5,6,7,8,2,3,9,0,1] ?_
  refine oV ?_
  refine qf ?_;simp[bH,bO,aK,ak,eR,mO,mE]
 refine aZ hp ax hc rfl fun K3 cm=>?_
 refine fW ?_
 refine pN (bH ⟨p,[],([],0),[],[],[]⟩ [] ([],0)) ([.cells (ak (aK p)),eR]) (jjt p [] ([],0) [] [] [] gL p7 vt wF) ?_
 rintro _ _ ⟨mi,hmi,rfl,rfl⟩
 refine⟨rfl,?_⟩
 have hv:uQ p mi:=⟨eZ,hmi,gL,nQ⟩
 refine fW ?_
 refine cm _ _ ?_
 refine bC hp (τ':=aF [(1,.op 9 0),(2,.op 10 0),(3,.d (iD 0)),(4,.op 0 0)]) (H':=bH (eP p mi [] [] []) [] ([],0)++[.free,.cells (ak (aK p)),eR]) ?_ ?_
 ·refine Rt.trans (Rt.fry) ?_
  refine oW [0,1,2,3,4,5,6,7,10,8,9] ?_
  refine oV ?_
  exact VD
 refine aZ hp ax hc rfl fun K4 dE=>?_
 refine fW ?_
 refine pN (bH (eP p mi [] [] []) [] ([],0)++[.free]) ([.cells (ak (aK p)),eR]) (juh p mi [] [] hv ([],0) (ir.nil _)) ?_
 rintro _ _ ⟨μ0,Cr,rfl,rfl⟩
 refine⟨rfl,?_⟩
 refine fW ?_
 refine dE _ _ ?_
 refine aD fun K5 dx=>?_
 refine ah (fW ·) ?_
 refine aW ?_
 refine cU hp (fun τ' H' mm=>∃(i:Nat) (μ1:Mp),(i≤p.aC.length∧ir (mP p) (fg p i).gs μ1)∧mm=p.aC.length - i∧H'=bH (eP p mi ((fg p i).out) ((fg p i).dr) (bU p)) ((fg p i).gs) μ1++[.cells (ak (aK p)),eR]∧τ'=aF [(1,.op 8 0),(2,.op 9 0),(3,.d (iD 0)),(4,.op 0 0),(5,.d (ae (iE p))),(6,.d (ae (iC p))),(7,.d (iD (ft p))),(39,.d (.fs (p.aC.flatMap nf) p.aC.length)),(40,.d (iD p.aC.length)),(41,.d (iD i))]) (p.aC.length) ?_ ⟨0,μ0,⟨cF _,Cr⟩,rfl,rfl,rfl⟩ ?_
 ·refine oW [0,1,2,3,4,5,6,7,9,10] ?_
  refine oV ?_
  refine qf ?_;simp[bH,bO,eP,ak,aK,iD,ae,eR,fg]
 rintro τ' H' mm ⟨i,μ1,⟨hi,de⟩,rfl,rfl,rfl⟩
 refine ah (fW ·) ?_
 refine aD fun K8 dP=>?_
 refine bf rfl (fun ht=>?_) (fun ht=>?_)
 ·have aA:i<p.aC.length:=by simp at ht;omega
  have hs:=yA eZ i hi
  have Pu:=zY eZ aA hs
  have Lf:=ES (p:=p) (show i+1≤p.aC.length by omega)
  rw[oT]at Lf
  obtain⟨s,sB⟩:∃s,s=fg p i:=⟨_,rfl⟩
  obtain⟨R,hR⟩:∃R,R=dW p (bU p) s.gs (nth p.aC i).next:=⟨_,rfl⟩
  have ej:fg p (i+1)=⟨(bL (fun gs k=>hU (mP p) gs (ft p) (nth R.2 k) (cG p 1 i k)) R.1 R.2.length).1,s.out++cZ 1 i R.2.length,s.dr++(bL (fun gs k=>hU (mP p) gs (ft p) (nth R.2 k) (cG p 1 i k)) R.1 R.2.length).2⟩:=by rw[hR,sB];rfl
  have Cy:=Lt eZ i hi
  rw[←sB]at hs Pu de Cy
  rw[←sB]
  rw[←hR]at Pu
  have oP:=hs.len;have nN:=hs.ol
  have hb:=Pu.b
  have Qf:=hb.len;have Qe:=hb.wid
  have h1:dM (eP p mi (s.out) (s.dr) (bU p)) s.gs μ1:=hs.Lm hv de (by omega)
  have uL:=hs.qY (o:=s.out) (d:=s.dr) hv (List.prefix_refl _) h1 (eZ.rn i aA).1 (by omega)
  rw[←hR]at uL
  refine bg (dP _ _ ?_)
  refine aD fun K9 cX=>?_
  refine aW ?_
  refine ah (fW ·) ?_
  refine aZ hp ax hc rfl fun mh cQ=>?_
  refine fW ?_
  refine pN (bH (eP p mi (s.out) (s.dr) (bU p)) (s.gs) μ1) ([.cells (ak (aK p)),eR,.cells (ak (jT (nth p.aC i)))]) (uL) ?_
  rintro _ _ ⟨μ2,dA,rfl,rfl⟩
  refine⟨rfl,?_⟩
  refine fW ?_
  refine cQ _ _ ?_
  refine aW ?_
  refine cU hp (fun τ' H' mm=>∃(k:Nat) (μ3:Mp),(k≤R.2.length∧ir (mP p) (bL (fun gs k=>hU (mP p) gs (ft p) (nth R.2 k) (cG p 1 i k)) R.1 k).1 μ3)∧mm=R.2.length - k∧H'=bH (eP p mi (s.out++cZ 1 i k) (s.dr++(bL (fun gs k=>hU (mP p) gs (ft p) (nth R.2 k) (cG p 1 i k)) R.1 k).2) (bU p)) ((bL (fun gs k=>hU (mP p) gs (ft p) (nth R.2 k) (cG p 1 i k)) R.1 k).1) μ3++[.cells (ak (aK p)),eR]∧τ'=aF [(1,.op 8 0),(2,.op 9 0),(3,.d (iD 0)),(4,.op 0 0),(5,.d (ae (iE p))),(6,.d (ae (iC p))),(7,.d (iD (ft p))),(8,.d (iD i)),(39,.d (.fs (p.aC.flatMap nf) p.aC.length)),(40,.d (iD p.aC.length)),(41,.d (iD i)),(49,.d (ae R.2)),(50,.d (iD R.2.length)),(51,.d (iD k))]) (R.2.length) ?_ ⟨0,μ2,⟨cF _,dA⟩,rfl,rfl,rfl⟩ ?_
  ·refine oW [0,1,2,3,4,5,6,7,8,9] ?_
   refine oV ?_
   refine qf ?_;simp[bH,bO,eP,ak,aK,iD,ae,eR,bL,cZ]
  rintro τ' H' mm ⟨k,μ3,⟨bM,nP⟩,rfl,rfl,rfl⟩
  refine ah (fW ·) ?_
  refine aD fun nV df=>?_
  refine bf rfl (fun ht=>?_) (fun ht=>?_)
  ·have sJ:k<R.2.length:=by simp at ht;omega
   have Ev:k<(nth p.aC i).w:=by omega
   have nM:=eZ.ct.r i (by simpa[aR]using aA)
   rw[show nth (aR p).aC i=(nth p.aC i).w from tE aA]at nM
   have pq:Bs (mP p) (2*k) k R.1 (bL (fun gs k=>hU (mP p) gs (ft p) (nth R.2 k) (cG p 1 i k)) R.1 k):=kz hb.gi fun j hj fH hp hg=>C4 nL hg (hs.jZ eZ (hb.pre.trans hp)) (hb.at hp (by omega)) (tY (y3 aA (by omega)) _)
   have wA:bL (fun gs k=>hU (mP p) gs (ft p) (nth R.2 k) (cG p 1 i k)) R.1 (k+1)=((hU (mP p) (bL (fun gs k=>hU (mP p) gs (ft p) (nth R.2 k) (cG p 1 i k)) R.1 k).1 (ft p) (nth R.2 k) (cG p 1 i k)).1,(bL (fun gs k=>hU (mP p) gs (ft p) (nth R.2 k) (cG p 1 i k)) R.1 k).2++[(hU (mP p) (bL (fun gs k=>hU (mP p) gs (ft p) (nth R.2 k) (cG p 1 i k)) R.1 k).1 (ft p) (nth R.2 k) (cG p 1 i k)).2]):=rfl
   generalize bL (fun gs k=>hU (mP p) gs (ft p) (nth R.2 k) (cG p 1 i k)) R.1 k=M at *
   have hMl:=pq.len;have Qj:=pq.wid
   have hwl:(s.out++cZ 1 i k).length=s.out.length+k:=by rw[List.length_append,dD]
   have qe:(s.dr++M.2).length=s.dr.length+k:=by rw[List.length_append,Qj]
   have fk:=tY (y3 aA Ev) M.1
   have h3:dM (eP p mi (s.out++cZ 1 i k) (s.dr++M.2) (bU p)) M.1 μ3:=⟨nP,pq.gi,gL,by omega⟩
   have mb:pL prog Ap (wV ⟨1,(i:Int),(k:Int)⟩):=EP (a:=1) (b:=(i:Int)) (c:=(k:Int)) (n9 (by decide) (by decide)) (n9 (by omega) (by omega)) (n9 (by omega) (by omega))
   have jv:=hv.m.gt ⟨1,(i:Int),(k:Int)⟩
   rw[if_pos (y3 aA Ev)]at jv
   have pe:cG p 1 i k=((2+kL ⟨1,(i:Int),(k:Int)⟩ (aU p):Nat):Int):=rfl
   rw[←pe]at jv
   have uK:=ZG (eP p mi (s.out++cZ 1 i k) (s.dr++M.2) (bU p)) M.1 μ3 (ft p) (nth R.2 k) (cG p 1 i k) h3 (hs.jZ eZ (hb.pre.trans pq.pre)) (hb.at pq.pre (by omega)) fk (by omega)
   generalize cG p 1 i k=W at *
   refine bg (df _ _ ?_)
   refine aD fun re dT=>?_
   refine aW ?_
   refine ah (yk ·) ?_
   refine bT hp ax hc rfl fun pE dB=>?_
   refine NS jv ?_
   refine pN (bH (eP p mi (s.out++cZ 1 i k) (s.dr++M.2) (bU p)) (M.1) μ3) ([.cells (ak (aK p)),eR]) (uK) ?_
   rintro _ _ ⟨μ4,p8,rfl,rfl⟩
   refine⟨rfl,?_⟩
   refine NS jv ?_
   refine pN (bH (eP p mi (s.out++cZ 1 i k) (s.dr++M.2) (bU p)) ((hU (mP p) M.1 (ft p) (nth R.2 k) W).1) μ4) ([.cells (ak (aK p)),eR]) (BU (eP p mi (s.out++cZ 1 i k) (s.dr++M.2) (bU p)) _ μ4 1 i k _ (by show(s.out++cZ 1 i k).length≤_;omega) (by show(s.dr++M.2).length≤_;omega)) ?_
   rintro _ _ ⟨_,rfl,rfl⟩
   refine⟨rfl,?_⟩
   refine NS jv ?_
   refine dB _ _ (dT _ _ ?_)
   refine bT hp ax hc rfl fun rZ ey=>?_
   refine fW ?_
   refine ey _ _ ⟨_,_,_,?_,⟨k+1,μ4,⟨by omega,by rw[wA];exact p8⟩,rfl,rfl,rfl⟩,?_⟩
   ·first|omega|(simp only[List.length_cons];omega)|(dsimp only;omega)
   ·refine oW [0,1,2,3,4,5,6,7,8,9] ?_
    refine oV ?_
    refine qf ?_;rw[wA,vP];simp[bH,bO,eP,ak,aK,iD,ae,eR,aB,mP]
  ·have jV:k=R.2.length:=by simp at ht;omega
   subst jV
   refine cJ (cX _ _ ?_)
   refine bT hp ax hc rfl fun zD iW=>?_
   refine fW ?_
   refine iW _ _ ⟨_,_,_,?_,⟨i+1,μ3,⟨by omega,by rw[ej];exact nP⟩,rfl,rfl,rfl⟩,?_⟩
   ·first|omega|(simp only[List.length_cons];omega)|(dsimp only;omega)
   ·refine oW [0,1,2,3,4,5,6,7,8,9] ?_
    refine oV ?_
    refine qf ?_;rw[ej]
 ·have zm:i=p.aC.length:=by simp at ht;omega
  subst zm
  refine cJ (dx _ _ ?_)
  refine aD fun rY eN=>?_
  refine ah (fW ·) ?_
  refine aW ?_
  refine cU hp (fun τ' H' mm=>∃(i:Nat) (μ1:Mp),(i≤p.ag.length∧ir (mP p) (gT p i).gs μ1)∧mm=p.ag.length - i∧H'=bH (eP p mi ((gT p i).out) ((gT p i).dr) (bU p)) ((gT p i).gs) μ1++[.cells (ak (aK p)),eR]∧τ'=aF [(1,.op 8 0),(2,.op 9 0),(3,.d (iD 0)),(4,.op 0 0),(5,.d (ae (iE p))),(6,.d (ae (iC p))),(7,.d (iD (ft p))),(74,.d (ae (iE p))),(75,.d (iD p.ag.length)),(76,.d (iD i))]) (p.ag.length) ?_ ⟨0,μ1,⟨cF _,de⟩,rfl,rfl,rfl⟩ ?_
  ·refine oW [0,1,2,3,4,5,6,7,8,9] ?_
   refine oV ?_
   refine qf ?_;simp[bH,bO,eP,ak,aK,iD,ae,eR,gT,BF eZ]
  rintro τ' H' mm ⟨i,μ1,⟨hi2,PH⟩,rfl,rfl,rfl⟩
  refine ah (fW ·) ?_
  refine aD fun yi ik=>?_
  refine bf rfl (fun ht=>?_) (fun ht=>?_)
  ·have aA:i<p.ag.length:=by simp at ht;omega
   have wx:=BF eZ
   have hs:=Iz eZ i hi2
   have Cy:=Ls eZ i hi2
   have Lf:=ES (p:=p) (bJ p.aC.length)
   have P4:=ET (p:=p) (cF p.aE.length)
   rw[tR]at P4
   obtain⟨s,sB⟩:∃s,s=gT p i:=⟨_,rfl⟩
   have ej:gT p (i+1)=⟨(dj (mP p) s.gs (ft p) (nth (iE p) i)).1,s.out++[⟨5,i,0⟩],s.dr++[(dj (mP p) s.gs (ft p) (nth (iE p) i)).2]⟩:=by rw[sB];rfl
   rw[←sB]at hs PH Cy
   rw[←sB]
   have oP:=hs.len;have nN:=hs.ol
   have h1:dM (eP p mi (s.out) (s.dr) (bU p)) s.gs μ1:=hs.Lm hv PH (by omega)
   have uK:=vH (eP p mi (s.out) (s.dr) (bU p)) s.gs μ1 (ft p) (nth (iE p) i) h1 (hs.jZ eZ (List.prefix_refl _)) (hs.CS eZ (List.prefix_refl _) aA)
   refine bg (ik _ _ ?_)
   refine aD fun vA fM=>?_
   refine aW ?_
   refine ah (yk ·) ?_
   refine bT hp ax hc rfl fun C0 jY=>?_
   refine fW ?_
   refine pN (bH (eP p mi (s.out) (s.dr) (bU p)) (s.gs) μ1) ([.cells (ak (aK p)),eR]) (uK) ?_
   rintro _ _ ⟨μ4,p8,rfl,rfl⟩
   refine⟨rfl,?_⟩
   refine fW ?_
   refine pN (bH (eP p mi (s.out) (s.dr) (bU p)) ((dj (mP p) s.gs (ft p) (nth (iE p) i)).1) μ4) ([.cells (ak (aK p)),eR]) (BU (eP p mi (s.out) (s.dr) (bU p)) _ μ4 5 i 0 _ (by show s.out.length≤_;omega) (by show s.dr.length≤_;omega)) ?_
   rintro _ _ ⟨_,rfl,rfl⟩
   refine⟨rfl,?_⟩
   refine fW ?_
   refine jY _ _ (fM _ _ ?_)
   refine bT hp ax hc rfl fun EJ lE=>?_
   refine fW ?_
   refine lE _ _ ⟨_,_,_,?_,⟨i+1,μ4,⟨by omega,by rw[ej];exact p8⟩,rfl,rfl,rfl⟩,?_⟩
   ·first|omega|(simp only[List.length_cons];omega)|(dsimp only;omega)
   ·refine oW [0,1,2,3,4,5,6,7,8,9] ?_
    refine oV ?_
    refine qf ?_;rw[ej];rfl
  ·have zm:i=p.ag.length:=by simp at ht;omega
   subst zm
   refine cJ (eN _ _ ?_)
   refine aD fun Is nv=>?_
   refine ah (fW ·) ?_
   refine aW ?_
   refine cU hp (fun τ' H' mm=>∃(i:Nat) (μ1:Mp),(i≤p.aE.length∧ir (mP p) (gN p i).gs μ1)∧mm=p.aE.length - i∧H'=bH (eP p mi ((gN p i).out) ((gN p i).dr) (bU p)) ((gN p i).gs) μ1++[.cells (ak (aK p)),eR]∧τ'=aF [(1,.op 8 0),(2,.op 9 0),(3,.d (iD 0)),(4,.op 0 0),(7,.d (iD (ft p))),(89,.d (ae (iC p))),(90,.d (iD p.aE.length)),(91,.d (iD i))]) (p.aE.length) ?_ ⟨0,μ1,⟨cF _,PH⟩,rfl,rfl,rfl⟩ ?_
   ·refine oW [0,1,2,3,4,5,6,7,8,9] ?_
    refine oV ?_
    refine qf ?_;simp[bH,bO,eP,ak,aK,iD,ae,eR,gN,BC eZ]
   rintro τ' H' mm ⟨i,μ1,⟨uF,PF⟩,rfl,rfl,rfl⟩
   refine ah (fW ·) ?_
   refine aD fun Bj jE=>?_
   refine bf rfl (fun ht=>?_) (fun ht=>?_)
   ·have aA:i<p.aE.length:=by simp at ht;omega
    have wG:=BC eZ
    have hs:=Ad eZ i uF
    have Cp:=By eZ aA hs
    have Cy:=Lr eZ i uF
    have P4:=ET (p:=p) (show i+1≤p.aE.length by omega)
    rw[tR]at P4
    obtain⟨s,sB⟩:∃s,s=gN p i:=⟨_,rfl⟩
    rw[←sB]at hs Cp PF Cy
    rw[←sB]
    obtain⟨A,hA⟩:∃A,A=dj (mP p) s.gs (ft p) (nth (iC p) i):=⟨_,rfl⟩
    obtain⟨R,hR⟩:∃R,R=dW p (bU p) A.1 (nth p.aE i).da:=⟨_,rfl⟩
    have ej:gN p (i+1)=⟨(bL (fun gs k=>dj (mP p) gs A.2 (nth R.2 k)) R.1 R.2.length).1,s.out++[⟨6,i,0⟩]++cZ 7 i R.2.length,s.dr++[A.2]++(bL (fun gs k=>dj (mP p) gs A.2 (nth R.2 k)) R.1 R.2.length).2⟩:=by rw[hR,hA,sB];rfl
    rw[←hA,←hR]at Cp
    have ha:=Cp.ha;have hb:=Cp.hb
    have oP:=hs.len;have nN:=hs.ol;have Lg:=ha.len
    have Qf:=hb.len;have Qe:=hb.wid
    have hqb:=eZ.qb i aA
    have h1:dM (eP p mi (s.out) (s.dr) (bU p)) s.gs μ1:=hs.Lm hv PF (by omega)
    have uK:=vH (eP p mi (s.out) (s.dr) (bU p)) s.gs μ1 (ft p) (nth (iC p) i) h1 (hs.jZ eZ (List.prefix_refl _)) (hs.CT eZ (List.prefix_refl _) aA)
    have PK:aB (eP p mi (s.out) (s.dr) (bU p))=mP p:=rfl
    rw[PK,←hA]at uK
    refine bg (jE _ _ ?_)
    refine aD fun zC ij=>?_
    refine aW ?_
    refine ah (yk ·) ?_
    refine aZ hp ax hc rfl fun EI lD=>?_
    refine fW ?_
    refine pN (bH (eP p mi (s.out) (s.dr) (bU p)) (s.gs) μ1) ([.cells (ak (aK p)),eR]) (uK) ?_
    rintro _ _ ⟨μ2,dA,rfl,rfl⟩
    refine⟨rfl,?_⟩
    refine fW ?_
    refine lD _ _ ?_
    refine aZ hp ax hc rfl fun Bi jD=>?_
    refine fW ?_
    refine pN (bH (eP p mi (s.out) (s.dr) (bU p)) (A.1) μ2) ([.cells (ak (aK p)),eR]) (BU (eP p mi (s.out) (s.dr) (bU p)) A.1 μ2 6 i 0 A.2 (by show s.out.length≤_;omega) (by show s.dr.length≤_;omega)) ?_
    rintro _ _ ⟨_,rfl,rfl⟩
    refine⟨rfl,?_⟩
    refine fW ?_
    refine jD _ _ ?_
    refine bC hp (τ':=aF [(1,.op 8 0),(2,.op 9 0),(3,.d (iD 0)),(4,.op 0 0),(7,.d (iD (ft p))),(14,.d (iD i)),(16,.d (iD A.2)),(89,.d (ae (iC p))),(90,.d (iD p.aE.length)),(91,.d (iD i))]) (H':=bH (eP p mi (s.out++[⟨6,i,0⟩]) (s.dr++[A.2]) (bU p)) (A.1) μ2++[.cells (ak (aK p)),eR]) ?_ ?_
    ·refine oW [0,1,2,3,4,5,6,7,8,9] ?_
     refine oV ?_
     exact VD
    have h2:dM (eP p mi (s.out++[⟨6,i,0⟩]) (s.dr++[A.2]) (bU p)) A.1 μ2:=⟨dA,ha.gi,gL,by omega⟩
    have uL:=hs.qY (o:=s.out++[⟨6,i,0⟩]) (d:=s.dr++[A.2]) hv ha.pre h2 (eZ.qd i aA).1 (by omega)
    rw[←hR]at uL
    refine aZ hp ax hc rfl fun CZ kr=>?_
    refine WX ?_
    refine pN (bH (eP p mi (s.out++[⟨6,i,0⟩]) (s.dr++[A.2]) (bU p)) (A.1) μ2) ([.cells (ak (aK p)),eR]) (uL.Ii (nC.agg _)) ?_
    rintro _ _ ⟨μ3,nP,rfl,rfl⟩
    refine⟨rfl,?_⟩
    refine WX ?_
    refine kr _ _ ?_
    refine aW ?_
    refine cU hp (fun τ' H' mm=>∃(k:Nat) (μ3:Mp),(k≤R.2.length∧ir (mP p) (bL (fun gs k=>dj (mP p) gs A.2 (nth R.2 k)) R.1 k).1 μ3)∧mm=R.2.length - k∧H'=bH (eP p mi (s.out++[⟨6,i,0⟩]++cZ 7 i k) (s.dr++[A.2]++(bL (fun gs k=>dj (mP p) gs A.2 (nth R.2 k)) R.1 k).2) (bU p)) ((bL (fun gs k=>dj (mP p) gs A.2 (nth R.2 k)) R.1 k).1) μ3++[.cells (ak (aK p)),eR]∧τ'=aF [(1,.op 8 0),(2,.op 9 0),(3,.d (iD 0)),(4,.op 0 0),(7,.d (iD (ft p))),(14,.d (iD i)),(16,.d (iD A.2)),(89,.d (ae (iC p))),(90,.d (iD p.aE.length)),(91,.d (iD i)),(111,.d (ae R.2)),(112,.d (iD R.2.length)),(113,.d (iD k))]) (R.2.length) ?_ ⟨0,μ3,⟨cF _,nP⟩,rfl,rfl,rfl⟩ ?_
    ·refine oW [0,1,2,3,4,5,6,7,8,9] ?_
     refine oV ?_
     refine qf ?_;simp[bH,bO,eP,ak,aK,iD,ae,eR,bL,cZ]
    rintro τ' H' mm ⟨k,μ3,⟨bM,hn7⟩,rfl,rfl,rfl⟩
    refine ah (fW ·) ?_
    refine aD fun Lp pt=>?_
    refine bf rfl (fun ht=>?_) (fun ht=>?_)
    ·have sJ:k<R.2.length:=by simp at ht;omega
     have pq:Bs (mP p) (1*k) k R.1 (bL (fun gs k=>dj (mP p) gs A.2 (nth R.2 k)) R.1 k):=kz hb.gi fun j hj fH hp hg=>rK nL hg (ha.nd.pre (hb.pre.trans hp)) (hb.at hp (by omega))
     have wA:bL (fun gs k=>dj (mP p) gs A.2 (nth R.2 k)) R.1 (k+1)=((dj (mP p) (bL (fun gs k=>dj (mP p) gs A.2 (nth R.2 k)) R.1 k).1 A.2 (nth R.2 k)).1,(bL (fun gs k=>dj (mP p) gs A.2 (nth R.2 k)) R.1 k).2++[(dj (mP p) (bL (fun gs k=>dj (mP p) gs A.2 (nth R.2 k)) R.1 k).1 A.2 (nth R.2 k)).2]):=rfl
     generalize bL (fun gs k=>dj (mP p) gs A.2 (nth R.2 k)) R.1 k=M at *
     have hMl:=pq.len;have Qj:=pq.wid
     have hwl:(s.out++[(⟨6,i,0⟩:aT)]++cZ 7 i k).length=s.out.length+1+k:=by rw[List.length_append,List.length_append,dD];rfl
     have qe:(s.dr++[A.2]++M.2).length=s.dr.length+1+k:=by rw[List.length_append,List.length_append,Qj];rfl
     have h3:dM (eP p mi (s.out++[⟨6,i,0⟩]++cZ 7 i k) (s.dr++[A.2]++M.2) (bU p)) M.1 μ3:=⟨hn7,pq.gi,gL,by omega⟩
     refine bg (pt _ _ ?_)
     refine aD fun Iq ns=>?_
     refine aW ?_
     refine ah (yk ·) ?_
     refine bT hp ax hc rfl fun QV sR=>?_
     refine fW ?_
     refine pN (bH (eP p mi (s.out++[⟨6,i,0⟩]++cZ 7 i k) (s.dr++[A.2]++M.2) (bU p)) (M.1) μ3) ([.cells (ak (aK p)),eR]) (vH (eP p mi (s.out++[⟨6,i,0⟩]++cZ 7 i k) (s.dr++[A.2]++M.2) (bU p)) M.1 μ3 A.2 (nth R.2 k) h3 (ha.nd.pre (hb.pre.trans pq.pre)) (hb.at pq.pre (by omega))) ?_
     rintro _ _ ⟨μ4,p8,rfl,rfl⟩
     refine⟨rfl,?_⟩
     refine fW ?_
     refine pN (bH (eP p mi (s.out++[⟨6,i,0⟩]++cZ 7 i k) (s.dr++[A.2]++M.2) (bU p)) ((dj (mP p) M.1 A.2 (nth R.2 k)).1) μ4) ([.cells (ak (aK p)),eR]) (BU (eP p mi (s.out++[⟨6,i,0⟩]++cZ 7 i k) (s.dr++[A.2]++M.2) (bU p)) _ μ4 7 i k _ (by show(s.out++[(⟨6,i,0⟩:aT)]++cZ 7 i k).length≤_;omega) (by show(s.dr++[A.2]++M.2).length≤_;omega)) ?_
     rintro _ _ ⟨_,rfl,rfl⟩
     refine⟨rfl,?_⟩
     refine fW ?_
     refine sR _ _ (ns _ _ ?_)
     refine bT hp ax hc rfl fun Ip oz=>?_
     refine fW ?_
     refine oz _ _ ⟨_,_,_,?_,⟨k+1,μ4,⟨by omega,by rw[wA];exact p8⟩,rfl,rfl,rfl⟩,?_⟩
     ·first|omega|(simp only[List.length_cons];omega)|(dsimp only;omega)
     ·refine oW [0,1,2,3,4,5,6,7,8,9] ?_
      refine oV ?_
      refine qf ?_;rw[wA,vP];simp[bH,bO,eP,ak,aK,iD,ae,eR,aB,mP]
    ·have jV:k=R.2.length:=by simp at ht;omega
     subst jV
     refine cJ (ij _ _ ?_)
     refine bT hp ax hc rfl fun Io np=>?_
     refine fW ?_
     refine np _ _ ⟨_,_,_,?_,⟨i+1,μ3,⟨by omega,by rw[ej];exact hn7⟩,rfl,rfl,rfl⟩,?_⟩
     ·first|omega|(simp only[List.length_cons];omega)|(dsimp only;omega)
     ·refine oW [0,1,2,3,4,5,6,7,8,9] ?_
      refine oV ?_
      refine qf ?_;rw[ej]
   ·have zm:i=p.aE.length:=by simp at ht;omega
    subst zm
    refine cJ (nv _ _ ?_)
    refine aD fun EH lC=>?_
    refine ah (fW ·) ?_
    refine aW ?_
    refine cU hp (fun τ' H' mm=>∃(i:Nat) (μ1:Mp),(i≤p.au.length∧ir (mP p) (eu p i).gs μ1)∧mm=p.au.length - i∧H'=bH (eP p mi ((eu p i).out) ((eu p i).dr) (bU p)) ((eu p i).gs) μ1++[.cells (ak (aK p)),eR]∧τ'=aF [(1,.op 8 0),(2,.op 9 0),(3,.d (iD 0)),(4,.op 0 0),(7,.d (iD (ft p))),(129,.d (.fs (p.au.flatMap pb) p.au.length)),(130,.d (iD p.au.length)),(131,.d (iD i))]) (p.au.length) ?_ ⟨0,μ1,⟨cF _,PF⟩,rfl,rfl,rfl⟩ ?_
    ·refine oW [0,1,2,3,4,5,6,7,8,9] ?_
     refine oV ?_
     refine qf ?_;simp[bH,bO,eP,ak,aK,iD,ae,eR,eu]
    rintro τ' H' mm ⟨i,μ1,⟨hi4,hn8⟩,rfl,rfl,rfl⟩
    refine ah (fW ·) ?_
    refine aD fun K46 QB=>?_
    refine bf rfl (fun ht=>?_) (fun ht=>?_)
    ·have aA:i<p.au.length:=by simp at ht;omega
     have hs:=ub eZ i hi4
     have Cy:=jj1 eZ i hi4
     have uK:=EU (p:=p) (show i+1≤p.au.length by omega)
     rw[tS]at uK
     have nM:=eZ.ct.m i (by simpa[aR]using aA)
     rw[show nth (aR p).au i=((nth p.au i).words,(nth p.au i).w) from tE aA]at nM
     simp only at nM
     obtain⟨s,sB⟩:∃s,s=eu p i:=⟨_,rfl⟩
     rw[←sB]at hs hn8 Cy
     rw[←sB]
     obtain⟨N,hN⟩:∃N,N=dW p (bU p) s.gs (nth p.au i).en:=⟨_,rfl⟩
     obtain⟨A,hA⟩:∃A,A=dj (mP p) N.1 (ft p) (nth N.2 0):=⟨_,rfl⟩
     obtain⟨J,hJ⟩:∃J,J=dW p (bU p) A.1 (nth p.au i).ad:=⟨_,rfl⟩
     obtain⟨V,hV⟩:∃V,V=dW p (bU p) J.1 (nth p.au i).da:=⟨_,rfl⟩
     have ej:eu p (i+1)=⟨V.1,s.out++[⟨8,i,0⟩]++cZ 9 i 3++cZ 10 i V.2.length,s.dr++[A.2]++jg J.2 (nth p.au i).words++V.2⟩:=by rw[hV,hJ,hA,hN,sB];rfl
     obtain⟨he,ha,hd,hw⟩:=Bx eZ aA hs hN hA hJ hV
     have oP:=hs.len;have nN:=hs.ol
     have hel:=he.len;have Lg:=ha.len;have qe:=hd.len;have hwl:=hw.len
     have hew:=he.wid;have hdw:=hd.wid;have AS:=hw.wid
     have hJw:=fv eZ.ct (eZ.ma i aA)
     have h1:dM (eP p mi (s.out) (s.dr) (bU p)) s.gs μ1:=hs.Lm hv hn8 (by omega)
     have c1:=hs.qY (o:=s.out) (d:=s.dr) hv (List.prefix_refl _) h1 (eZ.me i aA).1 (by omega)
     rw[←hN]at c1
     have c2:=fun μ (h2:dM (eP p mi (s.out) (s.dr) (bU p)) N.1 μ)=>vH (eP p mi (s.out) (s.dr) (bU p)) N.1 μ (ft p) (nth N.2 0) h2 (hs.jZ eZ he.pre) (he.nd 0 (by decide))
     have PK:aB (eP p mi (s.out) (s.dr) (bU p))=mP p:=rfl
     rw[PK,←hA]at c2
     refine bg (QB _ _ ?_)
     refine aD fun CY jC=>?_
     refine aW ?_
     refine ah (fW ·) ?_
     refine aZ hp ax hc rfl fun K49 jW=>?_
     refine yk ?_
     refine pN (bH (eP p mi (s.out) (s.dr) (bU p)) (s.gs) μ1) ([.cells (ak (aK p)),eR,.cells (ak (j9 (nth p.au i)))]) (c1) ?_
     rintro _ _ ⟨μ2,dA,rfl,rfl⟩
     refine⟨rfl,?_⟩
     have h2:dM (eP p mi (s.out) (s.dr) (bU p)) N.1 μ2:=⟨dA,he.gi,gL,by omega⟩
     refine yk ?_
     refine pN (bH (eP p mi (s.out) (s.dr) (bU p)) (N.1) μ2) ([.cells (ak (aK p)),eR,.cells (ak (j9 (nth p.au i)))]) (c2 μ2 h2) ?_
     rintro _ _ ⟨μ3,nP,rfl,rfl⟩
     refine⟨rfl,?_⟩
     refine yk ?_
     refine pN (bH (eP p mi (s.out) (s.dr) (bU p)) (A.1) μ3) ([.cells (ak (aK p)),eR,.cells (ak (j9 (nth p.au i)))]) (BU (eP p mi (s.out) (s.dr) (bU p)) A.1 μ3 8 i 0 A.2 (by show s.out.length≤_;omega) (by show s.dr.length≤_;omega)) ?_
     rintro _ _ ⟨_,rfl,rfl⟩
     refine⟨rfl,?_⟩
     refine yk ?_
     refine jW _ _ ?_
     refine aD fun K50 CO=>?_
     have h3:dM (eP p mi (s.out++[⟨8,i,0⟩]) (s.dr++[A.2]) (bU p)) A.1 μ3:=⟨nP,ha.gi,gL,by omega⟩
     have c3:=hs.qY (o:=s.out++[⟨8,i,0⟩]) (d:=s.dr++[A.2]) hv (he.pre.trans ha.pre) h3 (eZ.ma i aA) (by omega)
     rw[←hJ]at c3
     have c4:=jjm J.2 (nth p.au i).words (by omega) (by omega)
     refine jP ax hp hc mixed rfl [(0,[]),(1,[]),(2,[]),(4,[]),(5,[]),(7,[]),(3,[5]),(6,[])] [[],[],[1],[0,1,2],[],[4],[0,1,2,3,4,5],[]] 0 (by kernel_rfl) fun K51 wR=>?_
     refine NR ?_
     refine tm (S:=bH (eP p mi (s.out++[⟨8,i,0⟩]) (s.dr++[A.2]) (bU p)) (A.1) μ3) (T:=[.cells (ak (aK p)),eR,.cells (ak (j9 (nth p.au i)))]) (c3) rfl (cn rfl) (by first|rfl|(simp[AV.aj,AV.allI,bo,bq,bp,aL,aO,bn,br,bH,bO,eP,eR,eF,jT,gm,j9];done)|(intro o ho;simp at ho;done)) (fun t=>fL (by first|rfl|(simp[AV.aj,AV.allI,bo,bq,bp,aL,aO,bn,br,bH,bO,eP,eR,eF,jT,gm,j9];done)|(intro o ho;simp at ho;done)) t) (fun t=>fL (by first|rfl|(simp[AV.aj,AV.allI,bo,bq,bp,aL,aO,bn,br,bH,bO,eP,eR,eF,jT,gm,j9];done)|(intro o ho;simp at ho;done)) t) (by first|rfl|(simp[AV.aj,AV.allI,bo,bq,bp,aL,aO,bn,br,bH,bO,eP,eR,eF,jT,gm,j9];done)|(intro o ho;simp at ho;done)) (by first|rfl|(simp[AV.aj,AV.allI,bo,bq,bp,aL,aO,bn,br,bH,bO,eP,eR,eF,jT,gm,j9];done)|(intro o ho;simp at ho;done)) (by first|rfl|(simp[AV.aj,AV.allI,bo,bq,bp,aL,aO,bn,br,bH,bO,eP,eR,eF,jT,gm,j9];done)|(intro o ho;simp at ho;done)) ?_
     rintro _ _ ⟨μ4,p8,rfl,rfl⟩
     refine⟨rfl,?_⟩
     refine NR ?_
     refine qy (c4) rfl ?_
     refine NR ?_
     refine wR _ _ ?_
     refine aW ?_
     refine cU hp (fun τ' H' mm=>∃(k:Nat),(k≤3)∧mm=3 - k∧H'=bH (eP p mi (s.out++[⟨8,i,0⟩]++cZ 9 i k) (s.dr++[A.2]++(jg J.2 (nth p.au i).words).take k) (bU p)) (J.1) μ4++[.cells (ak (aK p)),eR,.cells (ak (j9 (nth p.au i)))]∧τ'=aF [(1,.op 8 0),(2,.op 9 0),(3,.d (iD 0)),(4,.op 0 0),(7,.d (iD (ft p))),(129,.d (.fs (p.au.flatMap pb) p.au.length)),(130,.d (iD p.au.length)),(131,.d (iD i)),(19,.d (iD i)),(20,.op 10 0),(154,.d (.agg ((jg J.2 (nth p.au i).words).map iD))),(155,.d (iD k))]) (3) ?_ ⟨0,by omega,rfl,rfl,rfl⟩ ?_
     ·refine oW [0,1,2,3,4,5,6,7,8,9,10] ?_
      refine oV ?_
      refine qf ?_;simp[bH,bO,eP,ak,aK,iD,ae,eR,cZ,j9]
     rintro τ' H' mm ⟨k,hk6,rfl,rfl,rfl⟩
     refine ah (fW ·) ?_
     refine aD fun K53 QA=>?_
     refine bf rfl (fun ht=>?_) (fun ht=>?_)
     ·have Hj:k<3:=by simp at ht;omega
      have CF:=va J.2 (nth p.au i).words
      have hwl6:(s.out++[(⟨8,i,0⟩:aT)]++cZ 9 i k).length=s.out.length+1+k:=by rw[List.length_append,List.length_append,dD];rfl
      have hdl6:(s.dr++[A.2]++(jg J.2 (nth p.au i).words).take k).length=s.dr.length+1+k:=by simp[CF];omega
      have hgk:((jg J.2 (nth p.au i).words).map iD)[k]? =some (iD (nth (jg J.2 (nth p.au i).words) k)):=db (by omega)
      refine bg (QA _ _ ?_)
      refine aD fun K54 lB=>?_
      refine aW ?_
      refine aZ hp ax hc rfl fun K55 CN=>?_
      simp -dsimp -implicitDefEqProofs (disch:=first|assumption|omega|(simp only[aH,aQ,bc,lP,u9,mW,mV]<;>omega)|decide) only[aN,↓reduceIte,Nat.reduceEqDiff,Nat.reduceAdd,D.fix,Int.reduceToNat,Nat.reduceMul,Nat.reduceBNe,Nat.reduceBEq,ch,bH,bO,aK,aY,List.cons_append,List.nil_append,dI,eR,eP,eF,tZ,qk,jT,pY,mS,gm,xI,qj,j9,nS,sD,hgk,Option.map_some,bw]
      refine CN _ _ ?_
      refine bT hp ax hc rfl fun K56 CM=>?_
      refine fW ?_
      refine pN (bH (eP p mi (s.out++[⟨8,i,0⟩]++cZ 9 i k) (s.dr++[A.2]++(jg J.2 (nth p.au i).words).take k) (bU p)) (J.1) μ4) ([.cells (ak (aK p)),eR,.cells (ak (j9 (nth p.au i)))]) (BU (eP p mi (s.out++[⟨8,i,0⟩]++cZ 9 i k) (s.dr++[A.2]++(jg J.2 (nth p.au i).words).take k) (bU p)) J.1 μ4 9 i k (nth (jg J.2 (nth p.au i).words) k) (by show(s.out++[(⟨8,i,0⟩:aT)]++cZ 9 i k).length≤_;omega) (by show(s.dr++[A.2]++(jg J.2 (nth p.au i).words).take k).length≤_;omega)) ?_
      rintro _ _ ⟨_,rfl,rfl⟩
      refine⟨rfl,?_⟩
      refine fW ?_
      refine CM _ _ (lB _ _ ?_)
      refine bT hp ax hc rfl fun K57 CL=>?_
      refine fW ?_
      refine CL _ _ ⟨_,_,_,?_,⟨k+1,by omega,rfl,rfl,rfl⟩,?_⟩
      ·first|omega|(simp only[List.length_cons];omega)|(dsimp only;omega)
      ·refine oW [0,1,2,3,4,5,6,7,8,9,10] ?_
       refine oV ?_
       refine qf ?_;rw[vQ (show k<(jg J.2 (nth p.au i).words).length by omega),vP];simp[bH,bO,eP,ak,aK,iD,ae,eR,j9]
     ·have jV:k=3:=by simp at ht;omega
      subst jV
      have hta:(jg J.2 (nth p.au i).words).take 3=jg J.2 (nth p.au i).words:=ui (by rw[va];exact bJ _)
      rw[hta]
      have h5:dM (eP p mi (s.out++[⟨8,i,0⟩]++cZ 9 i 3) (s.dr++[A.2]++jg J.2 (nth p.au i).words) (bU p)) J.1 μ4:=⟨p8,hd.gi,gL,by omega⟩
      have c5:=hs.qY (o:=s.out++[⟨8,i,0⟩]++cZ 9 i 3) (d:=s.dr++[A.2]++jg J.2 (nth p.au i).words) hv (he.pre.trans (ha.pre.trans hd.pre)) h5 (eZ.md i aA).1 (by omega)
      rw[←hV]at c5
      refine cJ (CO _ _ ?_)
      refine aZ hp ax hc rfl fun K58 Qz=>?_
      refine fW ?_
      refine pN (bH (eP p mi (s.out++[⟨8,i,0⟩]++cZ 9 i 3) (s.dr++[A.2]++jg J.2 (nth p.au i).words) (bU p)) (J.1) μ4) ([.cells (ak (aK p)),eR,.cells (ak (j9 (nth p.au i)))]) (c5) ?_
      rintro _ _ ⟨μ5,PG,rfl,rfl⟩
      refine⟨rfl,?_⟩
      refine fW ?_
      refine Qz _ _ ?_
      refine aW ?_
      refine cU hp (fun τ' H' mm=>∃(k:Nat),(k≤V.2.length)∧mm=V.2.length - k∧H'=bH (eP p mi (s.out++[⟨8,i,0⟩]++cZ 9 i 3++cZ 10 i k) (s.dr++[A.2]++jg J.2 (nth p.au i).words++V.2.take k) (bU p)) (V.1) μ5++[.cells (ak (aK p)),eR]∧τ'=aF [(1,.op 8 0),(2,.op 9 0),(3,.d (iD 0)),(4,.op 0 0),(7,.d (iD (ft p))),(129,.d (.fs (p.au.flatMap pb) p.au.length)),(130,.d (iD p.au.length)),(131,.d (iD i)),(19,.d (iD i)),(168,.d (ae V.2)),(169,.d (iD V.2.length)),(170,.d (iD k))]) (V.2.length) ?_ ⟨0,cF _,rfl,rfl,rfl⟩ ?_
      ·refine oW [0,1,2,3,4,5,6,7,8,9] ?_
       refine oV ?_
       refine qf ?_;simp[bH,bO,eP,ak,aK,iD,ae,eR,cZ]
      rintro τ' H' mm ⟨k,hk7,rfl,rfl,rfl⟩
      refine ah (fW ·) ?_
      refine aD fun K60 wQ=>?_
      refine bf rfl (fun ht=>?_) (fun ht=>?_)
      ·have sJ:k<V.2.length:=by simp at ht;omega
       have CF:=va J.2 (nth p.au i).words
       have hwl7:(s.out++[(⟨8,i,0⟩:aT)]++cZ 9 i 3++cZ 10 i k).length=s.out.length+4+k:=by rw[List.length_append,List.length_append,List.length_append,dD,dD];rfl
       have hdl7:(s.dr++[A.2]++jg J.2 (nth p.au i).words++V.2.take k).length=s.dr.length+4+k:=by simp[CF];omega
       refine bg (wQ _ _ ?_)
       refine aD fun K61 CK=>?_
       refine aW ?_
       refine ah (yk ·) ?_
       refine bT hp ax hc rfl fun K63 wP=>?_
       refine fW ?_
       refine pN (bH (eP p mi (s.out++[⟨8,i,0⟩]++cZ 9 i 3++cZ 10 i k) (s.dr++[A.2]++jg J.2 (nth p.au i).words++V.2.take k) (bU p)) (V.1) μ5) ([.cells (ak (aK p)),eR]) (BU (eP p mi (s.out++[⟨8,i,0⟩]++cZ 9 i 3++cZ 10 i k) (s.dr++[A.2]++jg J.2 (nth p.au i).words++V.2.take k) (bU p)) V.1 μ5 10 i k (nth V.2 k) (by show(s.out++[(⟨8,i,0⟩:aT)]++cZ 9 i 3++cZ 10 i k).length≤_;omega) (by show(s.dr++[A.2]++jg J.2 (nth p.au i).words++V.2.take k).length≤_;omega)) ?_
       rintro _ _ ⟨_,rfl,rfl⟩
       refine⟨rfl,?_⟩
       refine fW ?_
       refine wP _ _ (CK _ _ ?_)
       refine bT hp ax hc rfl fun K64 Qx=>?_
       refine fW ?_
       refine Qx _ _ ⟨_,_,_,?_,⟨k+1,by omega,rfl,rfl,rfl⟩,?_⟩
       ·first|omega|(simp only[List.length_cons];omega)|(dsimp only;omega)
       ·refine oW [0,1,2,3,4,5,6,7,8,9] ?_
        refine oV ?_
        refine qf ?_;rw[vQ sJ,vP 10 (i:Int) k];simp[bH,bO,eP,ak,aK,iD,ae,eR]
      ·have jV:k=V.2.length:=by simp at ht;omega
       subst jV
       refine cJ (jC _ _ ?_)
       refine bT hp ax hc rfl fun K65 CJ=>?_
       refine fW ?_
       refine CJ _ _ ⟨_,_,_,?_,⟨i+1,μ5,⟨by omega,by rw[ej];exact PG⟩,rfl,rfl,rfl⟩,?_⟩
       ·first|omega|(simp only[List.length_cons];omega)|(dsimp only;omega)
       ·refine oW [0,1,2,3,4,5,6,7,8,9] ?_
        refine oV ?_
        refine qf ?_;rw[ej,List.take_length]
    ·have zm:i=p.au.length:=by simp at ht;omega
     subst zm
     have hm:=ub eZ _ (bJ p.au.length)
     have PJ:=hm.len
     have hcM:=EU (p:=p) (bJ p.au.length)
     refine cJ (lC _ _ ?_)
     refine aD fun K66 Qw=>?_
     refine dO ax hc mixed rfl (q:=0) (by kernel_rfl) (by kernel_rfl) fun K67 Qv=>?_
     refine fW ?_
     refine Qv _ _ ?_
     refine bf rfl (fun ht=>?_) (fun ht=>?_)
     ·have pr:600<2+(aU p).length+(eu p p.au.length).gs.length:=by simp at ht;omega
      refine ah (fW ·) ?_
      refine aM ?_
      try dsimp only[cC,cI]
      refine SS rfl ?_
      refine WW ?_
      show ai _ _=_
      refine VC ?_
      unfold EO;rw[if_pos (show 600<2+(aU p).length+(kh p).gates.length from pr)];rfl
     ·have pr:¬600<2+(aU p).length+(eu p p.au.length).gs.length:=by simp at ht;omega
      refine bg (Qw _ _ ?_)
      refine ah (fW ·) ?_
      refine aM ?_
      try dsimp only[cC,cI]
      refine SS rfl ?_
      refine WW ?_
      show ai _ _=_
      refine VC ?_
      unfold EO;rw[if_neg (show ¬600<2+(aU p).length+(kh p).gates.length from pr)];simp only[jcm,L6];rfl
end Go.Proofs.YtapjobndmmkanaaGreat
