/- Depths, by package netlist and by the reference, of any net whose gates and driven nodes are in place. -/
import Derived.Test.YtapjobndmmkanaaGreatQr
import Derived.Test.YtapjobndmmkanaaGreatLd
import Derived.Test.YtapjobndmmkanaaGreatTa
set_option linter.unusedVariables false
set_option linter.unusedSimpArgs false
set_option maxRecDepth 100000
set_option maxHeartbeats 4000000
namespace Go.Proofs.YtapjobndmmkanaaGreat
open Go.Proofs.Tryz
open Go Go.RowKit
theorem yf1{n:Net}(h:zB n)(hd:n.aP.length≤1000):uS n:=by
 have hl:=h.len
 unfold qK at hl
 have hg:∀k,k<n.gates.length→nD (2+n.ins.length+k) (nth n.gates k)∧rh (nth n.gates k):=fun k hk=>by
  have g:=h.g k hk
  simp only[mN,fY,mZ]at g
  obtain⟨⟨o1,o2⟩,⟨⟨ga,gb⟩,gc⟩,gn⟩:=g
  have e:((2+n.ins.length+k:Nat):Int)=2+(n.ins.length:Int)+k:=by omega
  simp only[eK,if_true,fY,mZ]at ga
  have hn:0≤(nth n.gates k).n∧(nth n.gates k).n≤63∧((nth n.gates k).op≠7→(nth n.gates k).n=0):=by
   rcases Ro (g:=nth n.gates k)with h|h|h|h|h<;>first|(rw[gn]at h;simp at h;done)|skip
   ·exact⟨h.1,h.2.1,fun e=>absurd h.2.2.2.1 e⟩
   ·exact⟨by omega,by omega,fun _=>h.1⟩
  rcases xp o1 o2 with⟨k1,k2⟩|⟨k1,k3,k2⟩|⟨k1,k2⟩<;>rw[k2]at gb gc
  ·have b0:(nth n.gates k).b=0:=by simpa[eK]using gb
   have c0:(nth n.gates k).c=0:=by simpa[eK]using gc
   exact⟨⟨o1,o2,ga.1,by omega,by omega,by omega,by omega,by omega,hn.1,by omega⟩,⟨fun _=>c0,fun _=>b0,hn.2.2,hn.2.1⟩⟩
  ·have b0:0≤(nth n.gates k).b∧(nth n.gates k).b<2+(n.ins.length:Int)+k:=by simpa[eK]using gb
   have c0:(nth n.gates k).c=0:=by simpa[eK]using gc
   exact⟨⟨o1,o2,ga.1,by omega,b0.1,by omega,by omega,by omega,hn.1,by omega⟩,⟨fun _=>c0,fun e=>by omega,hn.2.2,hn.2.1⟩⟩
  ·have b0:0≤(nth n.gates k).b∧(nth n.gates k).b<2+(n.ins.length:Int)+k:=by simpa[eK]using gb
   have c0:0≤(nth n.gates k).c∧(nth n.gates k).c<2+(n.ins.length:Int)+k:=by simpa[eK]using gc
   exact⟨⟨o1,o2,ga.1,by omega,b0.1,by omega,c0.1,by omega,hn.1,by omega⟩,⟨fun e=>by omega,fun e=>by omega,hn.2.2,hn.2.1⟩⟩
 refine⟨by omega,h.d0,fun k hk=>(hg k hk).1,fun g mL=>?_,fun k hk=>?_,hd⟩
 ·obtain⟨k,hk,rfl⟩:=List.getElem_of_mem mL
  rw[←o7 hk];exact(hg k hk).2
 ·have:=(h.wo k (by rw[h.d0];exact hk)).2
  simp only[eK,qK,if_true,fY,mZ]at this
  have e:((2+n.ins.length+n.gates.length:Nat):Int)=2+(n.ins.length:Int)+n.gates.length:=by omega
  exact⟨this.1,by rw[e];exact of_decide_eq_true this.2⟩
theorem te{p q:Prop}(hq:q)(h:p=q:=by
 conv=>lhs;simp -dsimp -implicitDefEqProofs (disch:=first|assumption|omega|(simp only[aH,aQ,bc,kW,List.length_replicate,List.length_take]<;>omega)|decide) only[aN,↓reduceIte,Nat.reduceEqDiff,Nat.reduceAdd,D.fix,Int.reduceToNat,Nat.reduceMul,Nat.reduceBNe,Nat.reduceBEq,dt,dp,bQ,bt,aY,bw]):p:=h.mpr hq
theorem Xi{p q:Prop}(hq:q)(h:p=q:=by
 conv=>lhs;simp -dsimp -implicitDefEqProofs (disch:=first|assumption|omega|(simp only[aH,aQ,bc,kW,List.length_replicate,List.length_take]<;>omega)|decide) only[aN,↓reduceIte,Nat.reduceEqDiff,Nat.reduceAdd,D.fix,Int.reduceToNat,Nat.reduceMul,Nat.reduceBNe,Nat.reduceBEq,dt,dp,bQ,bt,aY]):p:=h.mpr hq
theorem Jp{m:List Nat}{τ τ':Fr}{H H':av}(h2:H=H')(h:fw τ τ':=by
 repeat (first|exact cw _|refine cg ?_ (by first|rfl|(simp[aX,aQ,bc,kW,List.length_replicate,List.length_take];done)|simp[aX,aQ,bc,kW,List.length_replicate,List.length_take, *]))):Rt m τ H τ' H':=Rt.end h h2
theorem ym{p q r:Prop}(e:r)(hq:q)(h:r→p=q:=by
 intro hY
 conv=>lhs;simp -dsimp -implicitDefEqProofs (disch:=first|assumption|omega|(simp only[aH,aQ,bc,kW,List.length_replicate,List.length_take]<;>omega)|decide) only[aN,↓reduceIte,Nat.reduceEqDiff,Nat.reduceAdd,D.fix,Int.reduceToNat,Nat.reduceMul,Nat.reduceBNe,Nat.reduceBEq,dt,dp,bQ,bt,aY,bw,hY]):p:=(h e).mpr hq
theorem Jo{p q:Prop}(hq:q)(h:p=q:=by
 conv=>lhs;simp only[cP,Nat.reduceAdd,↓reduceIte,Nat.reduceEqDiff,dt,dp,bQ,bt,aY]):p:=h.mpr hq
theorem ji8(n:Net)(h:uS n):dq prog 75 [dt n] (.d (ae (nR n))):=by
 have hlen:=h.len
 refine fh (fn:=f75) (by kernel_rfl) func75 rfl (cn rfl) fun c hc hp=>?_
 refine dY (τ':=aF [(0,.d (dt n))]) (by repeat (first|exact cw _|refine cg ?_ (by first|rfl|(simp[aX,aQ,bc,kW,List.length_replicate,List.length_take];done)|simp[aX,aQ,bc,kW,List.length_replicate,List.length_take, *]))) ?_
 refine ah (te ·) ?_
 refine aZ hp ax hc rfl fun K2 bS=>?_
 simp -dsimp -implicitDefEqProofs (disch:=first|assumption|omega|(simp only[aH,aQ,bc,kW,List.length_replicate,List.length_take]<;>omega)|decide) only[aN,↓reduceIte,Nat.reduceEqDiff,Nat.reduceAdd,D.fix,Int.reduceToNat,Nat.reduceMul,Nat.reduceBNe,Nat.reduceBEq,dt,dp,bQ,bt,aY,jol,bw]
 refine bS _ _ ?_
 refine aD fun K3 cm=>?_
 refine ah (Xi ·) ?_
 refine aW ?_
 refine cU hp (fun τ' H' mm=>∃(k:Nat),(k≤n.gates.length)∧mm=n.gates.length - k∧H'=[.cells (ak (dp n)),.cells (ak ((lH (List.replicate (2+n.ins.length) 0) (n.gates.take k)).map iD))]∧τ'=aF [(1,.op 0 0),(3,.os 1 1 0 (2+n.ins.length+k)),(4,.d (iD k))]) (n.gates.length) ?_ ⟨0,cF _,rfl,rfl,rfl⟩ ?_
 ·refine Jp ?_
  refine Jo ?_;simp[lH,ak,iD];omega
 rintro τ' H' mm ⟨k,hk,rfl,rfl,rfl⟩
 refine aD fun K5 dx=>?_
 refine ah (te ·) ?_
 refine bf rfl (fun ht=>?_) (fun ht=>?_)
 ·have aA:k<n.gates.length:=by simp at ht;omega
  have hg:=OB h.g2 aA
  have hv:=h.gv _ (ll aA)
  obtain⟨l,hl⟩:∃l,l=lH (List.replicate (2+n.ins.length) 0) (n.gates.take k):=⟨_,rfl⟩
  have ke:l.length=2+n.ins.length+k:=by rw[hl,kW,List.length_replicate,List.length_take];omega
  have cd:=jc8 (List.replicate (2+n.ins.length) 0) aA
  rw[←hl]at cd
  have h0:=Xp n k
  have x6:=KM n k
  rw[←hl]at h0 x6
  rw[←hl]
  clear hl
  have a0:=hg.a0;have a1:=hg.a1;have b0:=hg.b0;have b1:=hg.b1;have c0:=hg.c0;have c1:=hg.c1
  have rA:=x6 (nth n.gates k).a.toNat
  have rB:=x6 (nth n.gates k).b.toNat
  have rC:=x6 (nth n.gates k).c.toNat
  have gA:(l.map iD)[(nth n.gates k).a.toNat]? =some (iD (nth l (nth n.gates k).a.toNat)):=db (by omega)
  have gB:(l.map iD)[(nth n.gates k).b.toNat]? =some (iD (nth l (nth n.gates k).b.toNat)):=db (by omega)
  have gC:(l.map iD)[(nth n.gates k).c.toNat]? =some (iD (nth l (nth n.gates k).c.toNat)):=db (by omega)
  have nk:=Dd hg.o1 hg.o2
  refine bg (dx _ _ ?_)
  refine aD fun K7 cL=>?_
  refine aW ?_
  refine aZ hp ax hc rfl fun K8 dP=>?_
  simp -dsimp -implicitDefEqProofs (disch:=first|assumption|omega|(simp only[aH,aQ,bc,kW,List.length_replicate,List.length_take]<;>omega)|decide) only[aN,↓reduceIte,Nat.reduceEqDiff,Nat.reduceAdd,D.fix,Int.reduceToNat,Nat.reduceMul,Nat.reduceBNe,Nat.reduceBEq,dt,dp,bQ,bt,aY,ve,qA,bw]
  refine dP _ _ ?_
  refine dO ax hc mixed rfl (q:=0) (by kernel_rfl) (by kernel_rfl) fun K9 cX=>?_
  rcases xp hg.o1 hg.o2 with⟨k1,k2⟩|⟨k1,k3,k2⟩|⟨k1,k2⟩
  ·rw[k2]at nk
   have Hn:py l (nth n.gates k)=nth l (nth n.gates k).a.toNat+1:=by unfold py;rw[hv.b k1,hv.c (by omega),Int.toNat_zero,h0];omega
   refine ym gA ?_
   refine bx (nk) rfl ?_
   refine ym gA ?_
   refine cX _ _ ?_
   refine aD fun j4 bW=>?_
   refine ah (te ·) ?_
   refine bf rfl (fun ht=>?_) (fun ht=>?_)
   ·simp at ht
   ·refine bg (bW _ _ ?_)
    refine aD fun lK bN=>?_
    refine ah (te ·) ?_
    refine bf rfl (fun ht=>?_) (fun ht=>?_)
    ·simp at ht
    ·refine bg (bN _ _ ?_)
     refine fj (te ·) (cL _ _ ?_)
     refine bT hp ax hc rfl fun sY eG=>?_
     refine te ?_
     refine eG _ _ ⟨_,_,_,?_,⟨k+1,by omega,rfl,rfl,rfl⟩,?_⟩
     ·first|omega|(simp only[List.length_cons];omega)|(dsimp only;omega)
     ·refine Rt.trans (Rt.gc (keep:=[0,4]) (by decide) (by decide) (by simp[eJ,dg])) ?_
      refine Jp ?_
      refine Jo ?_;rw[cd,Hn];simp[iD]
  ·rw[k2]at nk
   have Hn:py l (nth n.gates k)=max (nth l (nth n.gates k).a.toNat) (nth l (nth n.gates k).b.toNat)+1:=by unfold py;rw[hv.c k3,Int.toNat_zero,h0];omega
   refine ym gA ?_
   refine bx (nk) rfl ?_
   refine ym gA ?_
   refine cX _ _ ?_
   refine aD fun pE dB=>?_
   refine ah (te ·) ?_
   refine bf rfl (fun ht=>?_) (fun ht=>?_)
   ·refine fj (ym gB ·) (dB _ _ ?_)
    refine aD fun rY eN=>?_
    refine ah (te ·) ?_
    refine bf rfl (fun ht=>?_) (fun ht=>?_)
    ·simp at ht
    ·refine bg (eN _ _ ?_)
     refine fj (te ·) (cL _ _ ?_)
     refine bT hp ax hc rfl fun yi ik=>?_
     refine te ?_
     refine ik _ _ ⟨_,_,_,?_,⟨k+1,by omega,rfl,rfl,rfl⟩,?_⟩
     ·first|omega|(simp only[List.length_cons];omega)|(dsimp only;omega)
     ·refine Rt.trans (Rt.gc (keep:=[0,4]) (by decide) (by decide) (by simp[eJ,dg])) ?_
      refine Jp ?_
      refine Jo ?_;rw[cd,Hn];simp[iD]
   ·simp at ht
  ·rw[k2]at nk
   have Hn:py l (nth n.gates k)=max (max (nth l (nth n.gates k).a.toNat) (nth l (nth n.gates k).b.toNat)) (nth l (nth n.gates k).c.toNat)+1:=by unfold py;omega
   refine ym gA ?_
   refine bx (nk) rfl ?_
   refine ym gA ?_
   refine cX _ _ ?_
   refine aD fun vA fM=>?_
   refine ah (te ·) ?_
   refine bf rfl (fun ht=>?_) (fun ht=>?_)
   ·refine fj (ym gB ·) (fM _ _ ?_)
    refine aD fun EJ lE=>?_
    refine ah (te ·) ?_
    refine bf rfl (fun ht=>?_) (fun ht=>?_)
    ·refine fj (ym gC ·) (lE _ _ ?_)
     refine fj (te ·) (cL _ _ ?_)
     refine bT hp ax hc rfl fun Bj jE=>?_
     refine te ?_
     refine jE _ _ ⟨_,_,_,?_,⟨k+1,by omega,rfl,rfl,rfl⟩,?_⟩
     ·first|omega|(simp only[List.length_cons];omega)|(dsimp only;omega)
     ·refine Rt.trans (Rt.gc (keep:=[0,4]) (by decide) (by decide) (by simp[eJ,dg])) ?_
      refine Jp ?_
      refine Jo ?_;rw[cd,Hn];simp[iD]
    ·simp at ht
   ·simp at ht
 ·have bM:k=n.gates.length:=by simp at ht;omega
  subst bM
  refine cJ (cm _ _ ?_)
  refine ah (Xi ·) ?_
  refine aM ?_
  show ai _ _=_
  simp (disch:=first|assumption|omega|(simp only[aH,aQ,bc,kW,List.length_replicate,List.length_take]<;>omega)|decide) only[fA,Nat.reduceAdd,D.fix,↓reduceIte,Nat.reduceEqDiff,dt,dp,bQ,bt,aY]
  rw[List.take_length];simp[nR,kW,ae]
theorem Gx{p q:Prop}(hq:q)(h:p=q:=by
 conv=>lhs;simp -dsimp -implicitDefEqProofs (disch:=first|assumption|omega|(simp only[aH,aQ,bc]<;>omega)|decide) only[aN,↓reduceIte,Nat.reduceEqDiff,Nat.reduceAdd,D.fix,Int.reduceToNat,Nat.reduceMul,Nat.reduceBNe,Nat.reduceBEq,dt,dp,bQ,bt,bw]):p:=h.mpr hq
theorem Xh{p q:Prop}(hq:q)(h:p=q:=by
 conv=>lhs;simp -dsimp -implicitDefEqProofs (disch:=first|assumption|omega|(simp only[aH,aQ,bc]<;>omega)|decide) only[aN,↓reduceIte,Nat.reduceEqDiff,Nat.reduceAdd,D.fix,Int.reduceToNat,Nat.reduceMul,Nat.reduceBNe,Nat.reduceBEq,dt,dp,bQ,bt]):p:=h.mpr hq
theorem VO{m:List Nat}{τ τ':Fr}{H H':av}(h2:H=H')(h:fw τ τ':=by
 repeat (first|exact cw _|refine cg ?_ (by first|rfl|(simp[aX,aQ,bc];done)|simp[aX,aQ,bc, *]))):Rt m τ H τ' H':=Rt.end h h2
theorem VN{p:Prop}(h:p:=by
 first|rfl|(simp only[cP,Nat.reduceAdd,↓reduceIte,Nat.reduceEqDiff,dt,dp,bQ,bt];first|done|rfl)):p:=h
theorem LY(n:Net)(h:uS n):dq prog 17 [dt n] (.d (iD (M3 n))):=by
 have hlen:=h.len
 have qe:=h.dl
 have ke:(nR n).length=2+n.ins.length+n.gates.length:=by unfold nR;rw[kW,List.length_replicate]
 have x6:∀j,0≤nth (nR n) j∧nth (nR n) j≤((n.gates.length:Nat):Int):=fun j=>by
  have:=KM n n.gates.length j
  rwa[List.take_length]at this
 refine fh (fn:=f17) (by kernel_rfl) func17 rfl (cn rfl) fun c hc hp=>?_
 refine dY (τ':=aF [(0,.d (dt n))]) (by repeat (first|exact cw _|refine cg ?_ (by first|rfl|(simp[aX,aQ,bc];done)|simp[aX,aQ,bc, *]))) ?_
 refine ah (Gx ·) ?_
 refine aZ hp ax hc rfl fun K2 bS=>?_
 refine Gx ?_
 refine bx (ji8 n h) rfl ?_
 refine Gx ?_
 refine bS _ _ ?_
 refine aD fun K3 cm=>?_
 refine ah (Xh ·) ?_
 refine aW ?_
 refine cU hp (fun τ' H' mm=>∃(k:Nat),(k≤n.aP.length)∧mm=n.aP.length - k∧H'=[.cells (ak (dp n))]∧τ'=aF [(1,.op 0 0),(3,.d (ae (nR n))),(4,.d (iD (ED (nR n) (n.aP.take k)))),(5,.d (iD k))]) (n.aP.length) ?_ ⟨0,cF _,rfl,rfl,rfl⟩ ?_
 ·refine VO ?_
  exact VN
 rintro τ' H' mm ⟨k,hk,rfl,rfl,rfl⟩
 refine aD fun K5 dx=>?_
 refine ah (Gx ·) ?_
 refine bf rfl (fun ht=>?_) (fun ht=>?_)
 ·have aA:k<n.aP.length:=by simp at ht;omega
  have hdk:=h.d2 k aA
  have cd:=jc9 (nR n) aA
  have gD:(n.aP.map iD)[k]? =some (iD (nth n.aP k)):=db aA
  have gZ:((nR n).map iD)[(nth n.aP k).toNat]? =some (iD (nth (nR n) (nth n.aP k).toNat)):=db (by omega)
  refine bg (dx _ _ ?_)
  refine aD fun K7 cL=>?_
  refine aW ?_
  refine bT hp ax hc rfl fun K8 dP=>?_
  simp -dsimp -implicitDefEqProofs (disch:=first|assumption|omega|(simp only[aH,aQ,bc]<;>omega)|decide) only[aN,↓reduceIte,Nat.reduceEqDiff,Nat.reduceAdd,D.fix,Int.reduceToNat,Nat.reduceMul,Nat.reduceBNe,Nat.reduceBEq,dt,dp,bQ,bt,gD,gZ,bw]
  refine dP _ _ (cL _ _ ?_)
  refine bT hp ax hc rfl fun K9 cX=>?_
  refine Gx ?_
  refine cX _ _ ⟨_,_,_,?_,⟨k+1,by omega,rfl,rfl,rfl⟩,?_⟩
  ·first|omega|(simp only[List.length_cons];omega)|(dsimp only;omega)
  ·refine VO ?_
   exact VN
 ·have bM:k=n.aP.length:=by simp at ht;omega
  subst bM
  refine cJ (cm _ _ ?_)
  refine ah (Xh ·) ?_
  refine aM ?_
  show ai _ _=_
  simp (disch:=first|assumption|omega|(simp only[aH,aQ,bc]<;>omega)|decide) only[fA,Nat.reduceAdd,D.fix,↓reduceIte,Nat.reduceEqDiff,dt,dp,bQ,bt]
  rw[List.take_length];rfl
end Go.Proofs.YtapjobndmmkanaaGreat
