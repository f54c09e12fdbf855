/- netlist's builder: input wires, outputs. -/
import Derived.Test.YtapjobndmmkanaaGreatQr
import Derived.Test.YtapjobndmmkanaaGreatYd
import Derived.Test.YtapjobndmmkanaaGreatPl
set_option linter.unusedVariables false
set_option linter.unusedSimpArgs false
set_option maxRecDepth 100000
set_option maxHeartbeats 4000000
namespace Go.Proofs.YtapjobndmmkanaaGreat
open Go.Proofs.Tryz
open Go Go.RowKit
theorem FD{a b c:Int}:Value.agg #[.int .i64 a,.int .i64 b,.int .i64 c]=wV ⟨a,b,c⟩:=rfl
def WiK(e:BE)(gs:Gs)(μ:Mp)(ins:List aB)(x:AV)(S':ak):Prop:=∃mi,o7 ins mi∧x= .dc []∧S'=bH ⟨e.p,ins,mi,e.out,e.dr,e.dZ⟩ gs μ
theorem DC{kind i:Int}{n:Nat}{w:aB}(h:w∈bK kind i n):w.kind=kind∧w.i=i∧∃k:Nat,k<n∧w.bit=k:=by
 obtain⟨k,hk,rfl⟩:=kV.1 h
 exact⟨rfl,rfl,k,qk.1 hk,rfl⟩
theorem XS{p q:Prop}(hq:q)(h:p=q:=by
 conv=>lhs;simp -dsimp -implicitDefEqProofs (disch:=first|assumption|omega|(simp only[aK,aT,bx,cX]<;>omega)|decide) only[aP,↓reduceIte,Nat.reduceEqDiff,Nat.reduceAdd,D.fix,Int.reduceToNat,Nat.reduceMul,Nat.reduceBNe,Nat.reduceBEq,bR,bH,bO,aD,bE,cn]):p:=h.mpr hq
theorem Wn{m:List Nat}{τ τ':Fr}{H H':ak}(h2:H=H')(h:fm τ τ':=by
 repeat (first|exact bT _|refine bM ?_ (by first|rfl|(simp[aR,aT,bx,cX];done)|simp[aR,aT,bx,cX, *]))):Rt m τ H τ' H':=Rt.end h h2
theorem Oz{p q:Prop}(hq:q)(h:p=q:=by
 conv=>lhs;simp -dsimp -implicitDefEqProofs (disch:=first|assumption|omega|(simp only[aK,aT,bx,cX]<;>omega)|decide) only[aP,↓reduceIte,Nat.reduceEqDiff,Nat.reduceAdd,D.fix,Int.reduceToNat,Nat.reduceMul,Nat.reduceBNe,Nat.reduceBEq,bR,bH,bO,aD,bE,cn,bw]):p:=h.mpr hq
theorem NP{p q:Prop}(hq:q)(h:p=q:=by
 conv=>lhs;simp only[cD,Nat.reduceAdd,↓reduceIte,Nat.reduceEqDiff,bR,bH,bO,aD,bE,cn]):p:=h.mpr hq
theorem Jr(e:BE)(gs:Gs)(μ:Mp)(kind i:Int)(w:Nat)(hm:o7 e.ins e.mi)(lY:∀k:Nat,¬(⟨kind,i,(k:Int)⟩:aB)∈e.ins)(k0:0≤kind)(k1:kind≤100)(i0:0≤i)(i1:i≤1000)(hl:e.ins.length+w≤100000):cM prog [0,2,3,4,5,6,7] 137 [.op 0 0,.d (iD kind),.d (iD i),.d (iD w)] (bH e gs μ) (WiK e gs μ (e.ins++bK kind i w)):=by
 refine fV (fn:=f137) (by kernel_rfl) func137 rfl (bN rfl) fun c hc hp=>?_
 refine B8 ?_
 refine Jt hp ?_
 refine aj (XS ·) ?_
 refine aW ?_
 refine c9 hp (fun τ' H' mm=>∃(k:Nat) (mi:Mp),(k≤w∧o7 (e.ins++bK kind i k) mi)∧mm=w - k∧H'=bH ⟨e.p,e.ins++bK kind i k,mi,e.out,e.dr,e.dZ⟩ gs μ∧τ'=aG [(0,.op 0 0),(1,.d (iD kind)),(2,.d (iD i)),(10,.d (iD w)),(11,.d (iD k))]) (w) ?_ ⟨0,e.mi,⟨cy _,by simpa[bK]using hm⟩,rfl,rfl,rfl⟩ ?_
 ·refine Wn ?_
  refine NP ?_;simp[bH,bO,bK]
 rintro τ' H' mm ⟨k,mi,⟨hk,Bt⟩,rfl,rfl,rfl⟩
 refine aj (Oz ·) ?_
 refine aH fun K3 bS=>?_
 refine aX rfl (fun ht=>?_) (fun ht=>?_)
 ·have aA:k<w:=by simp at ht;omega
  have ll:(e.ins++bK kind i k).length=e.ins.length+k:=by rw[List.length_append,cX]
  have lZ:pU prog AL (wV ⟨kind,i,(k:Int)⟩):=Fw (a:=kind) (b:=i) (c:=(k:Int)) (nP (by omega) (by omega)) (nP (by omega) (by omega)) (nP (by omega) (by omega))
  have lX:¬(⟨kind,i,(k:Int)⟩:aB)∈e.ins++bK kind i k:=fun hh=>by
   rcases pr.1 hh with hh|hh
   ·exact lY k hh
   ·obtain⟨_,_,j,hj,he⟩:=DC hh
    simp only at he;omega
  have C1:=Bt.add lZ lX
  have ou:e.ins++bK kind i (k+1)=(e.ins++bK kind i k)++[⟨kind,i,(k:Int)⟩]:=by rw[xh,List.append_assoc]
  rw[←ou]at C1
  have wM:((2+(e.ins++bK kind i k).length:Nat):Int)=2+(e.ins++bK kind i k).length:=by omega
  rw[wM]at C1
  generalize hI:e.ins++bK kind i k=I at *
  refine bB (bS _ _ ?_)
  refine aH fun K4 dD=>?_
  refine aW ?_
  refine aj (XS ·) ?_
  refine aj (Oz ·) ?_
  refine jN ax hp hc mixed rfl [(0,[]),(1,[]),(2,[]),(3,[]),(4,[]),(5,[]),(6,[]),(7,[]),(8,[]),(9,[]),(10,[]),(11,[]),(12,[])] [[],[0],[0,1],[0,1,2],[],[],[5],[5,6],[5,6,7],[5,6,7,8],[5,6,7,8,9],[5,6,7,8,9,10],[0,1,2,3,4,5,6,7,8,9,10,11]] 0 (by kernel_rfl) fun K7 de=>?_
  simp -dsimp -implicitDefEqProofs (disch:=first|assumption|omega|(simp only[aK,aT,bx,cX]<;>omega)|decide) only[aP,↓reduceIte,Nat.reduceEqDiff,Nat.reduceAdd,D.fix,Int.reduceToNat,Nat.reduceMul,Nat.reduceBNe,Nat.reduceBEq,mz,bR,bH,bO,aD,bE,cn,FD,Hj J6 lZ Bt.ok,bw]
  refine de _ _ ?_
  refine y6 ax hp hc mixed rfl [(0,[]),(1,[]),(2,[]),(3,[]),(4,[]),(5,[]),(6,[]),(7,[]),(8,[]),(9,[]),(10,[]),(11,[]),(12,[])] [[],[],[1],[1,2],[1,2,3],[1,2,3,4],[],[6],[1,2,3,4,5,6,7],[0,1,2,3,4,5,6,7,8],[0,1,2,3,4,5,6,7,8,9],[0,1,2,3,4,5,6,7,8,9,10],[0,1,2,3,4,5,6,7,8,9,10,11]] 1 (by kernel_rfl) fun K8 dC=>?_
  simp -dsimp -implicitDefEqProofs (disch:=first|assumption|omega|(simp only[aK,aT,bx,cX]<;>omega)|decide) only[aP,↓reduceIte,Nat.reduceEqDiff,Nat.reduceAdd,D.fix,Int.reduceToNat,Nat.reduceMul,Nat.reduceBNe,Nat.reduceBEq,mz,bR,bH,bO,aD,bE,cn,bw]
  refine dC _ _ (dD _ _ ?_)
  refine bA hp ax hc rfl fun K9 cJ=>?_
  refine Oz ?_
  refine cJ _ _ ⟨_,_,_,?_,⟨k+1,_,⟨by omega,C1⟩,rfl,rfl,rfl⟩,?_⟩
  ·first|omega|(simp only[List.length_cons];omega)|(dsimp only;omega)
  ·refine Rt.trans (Rt.gc (keep:=[0,10,2,3,4,5,6,7]) (by decide) (by decide) (by simp[eS,dg])) ?_
   refine Wn ?_
   refine NP ?_;rw[ou];simp[bH,bO,aD,cn,au,iD]
 ·have cf:k=w:=by simp at ht;omega
  refine cL ?_
  try dsimp only[fb,fc]
  refine⟨aG [],bH ⟨e.p,e.ins++bK kind i k,mi,e.out,e.dr,e.dZ⟩ gs μ,?_,?_⟩
  ·refine Rt.trans (Rt.gc (keep:=[0,1,2,3,4,5,6,7]) (by decide) (by decide) (by simp[eS,dg])) ?_
   refine Rt.end (bT _) ?_
   first|rfl|(simp only[cD,Nat.reduceAdd,↓reduceIte,Nat.reduceEqDiff,bR,bH,bO,aD,bE,cn];first|done|rfl)
  refine JA rfl ?_
  show ∃_,_
  subst cf;exact⟨mi,Bt,rfl,rfl⟩
def DrK(e:BE)(gs:Gs)(μ:Mp)(w:aB)(n:Int)(x:AV)(S':ak):Prop:=∃z:Unit,x= .dc []∧S'=bH ⟨e.p,e.ins,e.mi,e.out++[w],e.dr++[n],e.dZ⟩ gs μ
theorem XR{p q:Prop}(hq:q)(h:p=q:=by
 conv=>lhs;simp -dsimp -implicitDefEqProofs (disch:=first|assumption|omega|(simp only[aK,aT,bx]<;>omega)|decide) only[aP,↓reduceIte,Nat.reduceEqDiff,Nat.reduceAdd,D.fix,Int.reduceToNat,Nat.reduceMul,Nat.reduceBNe,Nat.reduceBEq,bR,bH,bO,aD,bE,cn,bw]):p:=h.mpr hq
theorem Ca(e:BE)(gs:Gs)(μ:Mp)(kind i b n:Int)(ho:e.out.length≤100000)(hd:e.dr.length≤100000):cM prog [0,1,2,5,6,7] 93 [.op 0 0,.d (iD kind),.d (iD i),.d (iD b),.d (iD n)] (bH e gs μ) (DrK e gs μ ⟨kind,i,b⟩ n):=by
 refine fV (fn:=f93) (by kernel_rfl) func93 rfl (bN rfl) fun c hc hp=>?_
 refine DE ?_
 refine Jt hp ?_
 refine aj (XR ·) ?_
 refine jX (XR ·) ?_
 try dsimp only[fb,fc]
 refine⟨aG [],bH ⟨e.p,e.ins,e.mi,e.out++[⟨kind,i,b⟩],e.dr++[n],e.dZ⟩ gs μ,?_,?_⟩
 ·refine Rt.trans (Rt.gc (keep:=[0,1,2,9,11,5,6,7]) (by decide) (by decide) (by simp[eS,dg])) ?_
  refine Rt.end (bT _) ?_
  refine NP ?_;simp[bH,bO,aD,cn,au,iD]
 refine JA rfl ?_
 show ∃_,_
 exact⟨(),rfl,rfl⟩
theorem NO{p:Pr}:∀{n:Nat} {w:aB},w∈eW p n→w.kind=1∧w.i<n
  |0,w,h=>by simp[eW]at h
  |n+1,w,h=>by
    rw[eW]at h
    rcases pr.1 h with h|h
    · have:=NO h;exact⟨this.1,by omega⟩
    · have:=DC h;exact⟨this.1,by rw[this.2.1];omega⟩
theorem Kw{p:Pr}:∀{n:Nat} {w:aB},w∈eJ p n→w.kind=1∨((w.kind=2∨w.kind=3)∧w.i<n)
  |0,w,h=>.inl (NO h).1
  |n+1,w,h=>by
    rw[eJ]at h
    rcases pr.1 h with h|h
    · rcases pr.1 h with h|h
      · rcases Kw h with h|h
        · exact .inl h
        · exact .inr ⟨h.1,by omega⟩
      · have:=DC h;exact .inr ⟨.inl this.1,by rw[this.2.1];omega⟩
    · have:=DC h;exact .inr ⟨.inr this.1,by rw[this.2.1];omega⟩
theorem Wm{p:Pr}:∀{n:Nat} {w:aB},w∈fq p n→w.kind≤3∨(w.kind=4∧w.i<n)
  |0,w,h=>by
    rcases Kw h with h|h
    · left;omega
    · left;have:=h.1;omega
  |n+1,w,h=>by
    rw[fq]at h
    rcases pr.1 h with h|h
    · rcases Wm h with h|h
      · exact .inl h
      · exact .inr ⟨h.1,by omega⟩
    · have:=DC h;exact .inr ⟨this.1,by rw[this.2.1];omega⟩
theorem yl9{p:Pr}:∀{n:Nat},(eW p n).length≤(eW p (n+1)).length:=by intro n;rw[eW];simp
theorem jmt{p:Pr}:∀{k n:Nat},k≤n→(eW p k).length≤(eW p n).length
  | k, 0, h => by have : k = 0 := by omega
                  subst this;exact bm _
  |k,n+1,h=>by
    by_cases e:k=n+1
    · subst e;exact bm _
    · exact Nat.le_trans (jmt (n:=n) (by omega)) yl9
theorem Qf{p:Pr}:∀{k n:Nat},k≤n→(eJ p k).length≤(eJ p n).length
  | k, 0, h => by have : k = 0 := by omega
                  subst this;exact bm _
  |k,n+1,h=>by
    by_cases e:k=n+1
    · subst e;exact bm _
    · refine Nat.le_trans (Qf (n:=n) (by omega)) ?_
      rw[eJ];simp only[List.length_append];omega
theorem Qe{p:Pr}:∀{k n:Nat},k≤n→(fq p k).length≤(fq p n).length
  | k, 0, h => by have : k = 0 := by omega
                  subst this;exact bm _
  |k,n+1,h=>by
    by_cases e:k=n+1
    · subst e;exact bm _
    · refine Nat.le_trans (Qe (n:=n) (by omega)) ?_
      rw[fq];simp only[List.length_append];omega
def InK(p:Pr)(gs:Gs)(μ:Mp)(out:List aB)(dr:List Int)(dZ:List (List Int))(x:AV)(S':ak):Prop:=∃mi,o7 (dN p) mi∧x= .dc []∧S'=bH ⟨p,dN p,mi,out,dr,dZ⟩ gs μ
theorem pe{p q:Prop}(hq:q)(h:p=q:=by
  conv=>lhs;simp -dsimp -implicitDefEqProofs (disch:=first|assumption|omega|(simp only[aK,aT,bx,cX,dK,dT,dS]<;>omega)|decide) only[aP,↓reduceIte,Nat.reduceEqDiff,Nat.reduceAdd,D.fix,Int.reduceToNat,Nat.reduceMul,Nat.reduceBNe,Nat.reduceBEq,bR,bH,bO,aD,bE,n9,pk,lA,mb,iy,fZ,nS,sD,bw]):p:=h.mpr hq
theorem Ep{m:List Nat}{τ τ':Fr}{H H':ak}(h2:H=H')(h:fm τ τ':=by
  repeat (first|exact bT _|refine bM ?_ (by first|rfl|(simp[aR,aT,bx,cX,dK,dT,dS];done)|simp[aR,aT,bx,cX,dK,dT,dS, *]))):Rt m τ H τ' H':=Rt.end h h2
theorem Kv{P:Program}{sm:List Nat}{N:Nat}{τ:Fr}{H:ak}{f:FuncId}{args:List AV}{K0 KK:AV→ak→Prop}{ks:List Nat}(S T:ak)(h:cM P ks f args S K0)(hK:∀x S',K0 x S'→S'.length=S.length∧KK x (S'++T))(hH:H=S++T:=by
  rfl) (hm:sm.all (aJ ks S.length)=true:=by
  first|rfl|(simp[AV.ah,AV.allI,bc,bg,bf,aJ,aN,aY,aZ,bH,bO,iy,fZ];done)|(intro o ho;simp at ho;done)) (hτ:∀t,(τ t).allI (aJ ks S.length)=true:=by
  exact fun t=>fU (by first|rfl|(simp[AV.ah,AV.allI,bc,bg,bf,aJ,aN,aY,aZ,bH,bO,iy,fZ];done)|(intro o ho;simp at ho;done)) t) (ha:AV.ah (aN S.length) args=true:=by
  first|rfl|(simp[AV.ah,AV.allI,bc,bg,bf,aJ,aN,aY,aZ,bH,bO,iy,fZ];done)|(intro o ho;simp at ho;done)) (hS:∀o∈S,o.allI (aN S.length)=true:=by
  first|rfl|(simp[AV.ah,AV.allI,bc,bg,bf,aJ,aN,aY,aZ,bH,bO,iy,fZ];done)|(intro o ho;simp at ho;done)) (hT:∀o∈T,o.allI (aJ ks S.length)=true:=by
  first|rfl|(simp[AV.ah,AV.allI,bc,bg,bf,aJ,aN,aY,aZ,bH,bO,iy,fZ];done)|(intro o ho;simp at ho;done)):kC P sm N H τ (.d (.val (.func (.func f) #[] #[]))) args true (tg KK):=r7 h hH hm hτ ha hS hT hK
theorem Ku(k:List Nat){m:List Nat}{τ τ1:Fr}{H H1:ak}(h:Rt m (fun t=>c7 k (τ t)) (dg k H) τ1 H1)(a:∀i∈m,k[i]? =some i:=by decide)(b:k.Nodup:=by decide)(c:∀i∈k,i<H.length:=by
  simp[eS,dg]):Rt m τ H τ1 H1:=Rt.trans (Rt.gc a b c) h
theorem Cn{p q:Prop}(hq:q)(h:p=q:=by
  conv=>lhs;simp only[cD,Nat.reduceAdd,↓reduceIte,Nat.reduceEqDiff,bR,bH,bO,aD,bE,n9,pk,lA,mb,iy,fZ,nS,sD]):p:=h.mpr hq
theorem jmu(p:Pr)(gs:Gs)(μ:Mp)(out:List aB)(dr:List Int)(dZ:List (List Int))(gb:(dN p).length≤1000)(hr:p.ag.length≤100)(kX:p.ae.length≤100)(hq:p.ao.length≤100):cM prog [0,2,3,4,5,6,7] 90 [.op 0 0] (bH ⟨p,[],([],0),out,dr,dZ⟩ gs μ) (InK p gs μ out dr dZ):=by
  refine fV (fn:=f90) (by kernel_rfl) func90 rfl (bN rfl) fun c hc hp=>?_
  refine Mn ?_
  refine Jt hp ?_
  have hq0:=Qe (p:=p) (cy p.ao.length)
  have ht0:=Qf (p:=p) (cy p.ae.length)
  rw[fq]at hq0
  rw[eJ]at ht0
  unfold dN at gb
  refine aH fun K1 rE=>?_
  refine aj (pe ·) ?_
  refine aW ?_
  refine c9 hp (fun τ' H' mm=>∃(k:Nat) (mi:Mp),(k≤p.ag.length∧o7 (eW p k) mi)∧mm=p.ag.length - k∧H'=bH ⟨p,eW p k,mi,out,dr,dZ⟩ gs μ∧τ'=aG [(0,.op 0 0),(11,.d (.fs (p.ag.flatMap lH) p.ag.length)),(12,.d (iD p.ag.length)),(13,.d (iD k))]) (p.ag.length) ?_ ⟨0,([],0),⟨cy _,o7.nil⟩,rfl,rfl,rfl⟩ ?_
  · refine Ep ?_
    refine Cn ?_;simp[bH,bO,eW,aD]
  rintro τ' H' mm ⟨k,mi,⟨hk,Bt⟩,rfl,rfl,rfl⟩
  refine aj (pe ·) ?_
  refine aH fun K4 dD=>?_
  refine aX rfl (fun ht=>?_) (fun ht=>?_)
  · have aA:k<p.ag.length:=by simp at ht;omega
    have hmo:=jmt (p:=p) (show k+1≤p.ag.length by omega)
    have dY:eW p (k+1)=eW p k++bK 1 k (nth p.ag k).w:=rfl
    have uw:(eW p (k+1)).length=(eW p k).length+(nth p.ag k).w:=by rw[dY,List.length_append,cX]
    refine bB (dD _ _ ?_)
    refine aH fun K5 fA=>?_
    refine aW ?_
    refine aj (pe ·) ?_
    refine bA hp ax hc rfl fun K7 de=>?_
    refine pe ?_
    refine Kv (bH ⟨p,eW p k,mi,out,dr,dZ⟩ gs μ) ([.cells (au (iy (nth p.ag k)))]) (Jr ⟨p,eW p k,mi,out,dr,dZ⟩ gs μ 1 k (nth p.ag k).w Bt (fun j hh=>by have:=(NO hh).2;simp only at this;omega) (by omega) (by omega) (by omega) (by omega) (by simp only;omega)) ?_
    rintro _ _ ⟨DY,QY,rfl,rfl⟩
    refine⟨rfl,?_⟩
    refine pe ?_
    refine de _ _ (fA _ _ ?_)
    refine bA hp ax hc rfl fun K8 dC=>?_
    refine pe ?_
    refine dC _ _ ⟨_,_,_,?_,⟨k+1,DY,⟨by omega,by rw[dY];exact QY⟩,rfl,rfl,rfl⟩,?_⟩
    · first|omega|(simp only[List.length_cons];omega)|(dsimp only;omega)
    · refine Ku [0,1,2,3,4,5,6,7] ?_
      refine Ep ?_
      refine Cn ?_;rw[dY]
  · have cf:k=p.ag.length:=by simp at ht;omega
    subst cf
    refine cL (rE _ _ ?_)
    refine aH fun K9 cJ=>?_
    refine aj (pe ·) ?_
    refine aW ?_
    refine c9 hp (fun τ' H' mm=>∃(k:Nat) (mi:Mp),(k≤p.ae.length∧o7 (eJ p k) mi)∧mm=p.ae.length - k∧H'=bH ⟨p,eJ p k,mi,out,dr,dZ⟩ gs μ∧τ'=aG [(0,.op 0 0),(28,.d (.fs (p.ae.flatMap oW) p.ae.length)),(29,.d (iD p.ae.length)),(30,.d (iD k))]) (p.ae.length) ?_ ⟨0,mi,⟨cy _,Bt⟩,rfl,rfl,rfl⟩ ?_
    · refine Ep ?_
      refine Cn ?_;simp[bH,bO,eJ,aD]
    rintro τ' H' mm ⟨k,mi,⟨mZ,HZ⟩,rfl,rfl,rfl⟩
    refine aj (pe ·) ?_
    refine aH fun nk cU=>?_
    refine aX rfl (fun ht=>?_) (fun ht=>?_)
    · have aA:k<p.ae.length:=by simp at ht;omega
      have hmo:=Qf (p:=p) (show k+1≤p.ae.length by omega)
      have dY:eJ p (k+1)=(eJ p k++bK 2 k (nth p.ae k).w)++bK 3 k 1:=rfl
      have uw:(eJ p (k+1)).length=(eJ p k).length+(nth p.ae k).w+1:=by rw[dY,List.length_append,List.length_append,cX,cX]
      have hsl2:(eJ p k++bK 2 k (nth p.ae k).w).length=(eJ p k).length+(nth p.ae k).w:=by rw[List.length_append,cX]
      refine bB (cU _ _ ?_)
      refine aH fun rN dQ=>?_
      refine aW ?_
      refine aj (pe ·) ?_
      refine bC hp ax hc rfl fun tG ea=>?_
      refine pe ?_
      refine Kv (bH ⟨p,eJ p k,mi,out,dr,dZ⟩ gs μ) ([.cells (au (fZ (nth p.ae k)))]) (Jr ⟨p,eJ p k,mi,out,dr,dZ⟩ gs μ 2 k (nth p.ae k).w HZ (fun j hh=>by have:=Kw hh;simp only at this;omega) (by omega) (by omega) (by omega) (by omega) (by simp only;omega)) ?_
      rintro _ _ ⟨DY,hm4,rfl,rfl⟩
      refine⟨rfl,?_⟩
      refine pe ?_
      refine ea _ _ ?_
      refine bA hp ax hc rfl fun pM df=>?_
      refine pe ?_
      refine Kv (bH ⟨p,eJ p k++bK 2 k (nth p.ae k).w,DY,out,dr,dZ⟩ gs μ) ([.cells (au (fZ (nth p.ae k)))]) (Jr ⟨p,eJ p k++bK 2 k (nth p.ae k).w,DY,out,dr,dZ⟩ gs μ 3 k 1 hm4 (fun j hh=>by rcases pr.1 hh with hh|hh;(have:=Kw hh;simp only at this;omega);(have:=(DC hh).1;simp only at this;omega)) (by omega) (by omega) (by omega) (by omega) (by simp only;omega)) ?_
      rintro _ _ ⟨mi3,hm5,rfl,rfl⟩
      refine⟨rfl,?_⟩
      refine pe ?_
      refine df _ _ (dQ _ _ ?_)
      refine bA hp ax hc rfl fun tF eh=>?_
      refine pe ?_
      refine eh _ _ ⟨_,_,_,?_,⟨k+1,mi3,⟨by omega,by rw[dY];exact hm5⟩,rfl,rfl,rfl⟩,?_⟩
      · first|omega|(simp only[List.length_cons];omega)|(dsimp only;omega)
      · refine Ku [0,1,2,3,4,5,6,7] ?_
        refine Ep ?_
        refine Cn ?_;rw[dY]
    · have cf:k=p.ae.length:=by simp at ht;omega
      subst cf
      refine cL (cJ _ _ ?_)
      refine aj (pe ·) ?_
      refine aW ?_
      refine c9 hp (fun τ' H' mm=>∃(k:Nat) (mi:Mp),(k≤p.ao.length∧o7 (fq p k) mi)∧mm=p.ao.length - k∧H'=bH ⟨p,fq p k,mi,out,dr,dZ⟩ gs μ∧τ'=aG [(0,.op 0 0),(49,.d (iD p.ao.length)),(50,.d (iD k))]) (p.ao.length) ?_ ⟨0,mi,⟨cy _,HZ⟩,rfl,rfl,rfl⟩ ?_
      · refine Ep ?_
        refine Cn ?_;simp[bH,bO,fq,aD]
      rintro τ' H' mm ⟨k,mi,⟨Ia,hm6⟩,rfl,rfl,rfl⟩
      refine aj (pe ·) ?_
      refine aH fun uK eG=>?_
      refine aX rfl (fun ht=>?_) (fun ht=>?_)
      · have aA:k<p.ao.length:=by simp at ht;omega
        have hmo:=Qe (p:=p) (show k+1≤p.ao.length by omega)
        have dY:fq p (k+1)=fq p k++bK 4 k 1:=rfl
        have uw:(fq p (k+1)).length=(fq p k).length+1:=by rw[dY,List.length_append,cX]
        refine bB (eG _ _ ?_)
        refine aH fun yU ib=>?_
        refine aW ?_
        refine bC hp ax hc rfl fun wS fB=>?_
        simp -dsimp -implicitDefEqProofs (disch:=first|assumption|omega|(simp only[aK,aT,bx,cX,dK,dT,dS]<;>omega)|decide) only[aP,↓reduceIte,Nat.reduceEqDiff,Nat.reduceAdd,D.fix,Int.reduceToNat,Nat.reduceMul,Nat.reduceBNe,Nat.reduceBEq,bR,bH,bO,aD,bE,n9,pk,lA,mb,iy,fZ,nS,sD]
        refine fB _ _ ?_
        refine bA hp ax hc rfl fun yd gw=>?_
        refine pe ?_
        refine Kv (bH ⟨p,fq p k,mi,out,dr,dZ⟩ gs μ) ([]) (Jr ⟨p,fq p k,mi,out,dr,dZ⟩ gs μ 4 k 1 hm6 (fun j hh=>by have:=Wm hh;simp only at this;omega) (by omega) (by omega) (by omega) (by omega) (by simp only;omega)) ?_
        rintro _ _ ⟨DY,hm7,rfl,rfl⟩
        refine⟨rfl,?_⟩
        refine pe ?_
        refine gw _ _ (ib _ _ ?_)
        refine bA hp ax hc rfl fun BL iF=>?_
        refine pe ?_
        refine iF _ _ ⟨_,_,_,?_,⟨k+1,DY,⟨by omega,by rw[dY];exact hm7⟩,rfl,rfl,rfl⟩,?_⟩
        · first|omega|(simp only[List.length_cons];omega)|(dsimp only;omega)
        · refine Ku [0,1,2,3,4,5,6,7] ?_
          refine Ep ?_
          refine Cn ?_;rw[dY]
      · have cf:k=p.ao.length:=by simp at ht;omega
        subst cf
        refine cL ?_
        try dsimp only[fb,fc]
        refine⟨aG [],bH ⟨p,dN p,mi,out,dr,dZ⟩ gs μ,?_,?_⟩
        · refine Ku [0,1,2,3,4,5,6,7] ?_
          refine Rt.end (bT _) ?_
          refine Cn ?_;simp[bH,bO,dN,aD,sD]
        refine JA rfl ?_
        show ∃_,_
        exact⟨mi,hm6,rfl,rfl⟩
end Go.Proofs.YtapjobndmmkanaaGreat
