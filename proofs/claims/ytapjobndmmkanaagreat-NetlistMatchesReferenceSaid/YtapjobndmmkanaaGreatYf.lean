/- netlist's builder: multiplexers. -/
import Derived.Test.YtapjobndmmkanaaGreatQr
import Derived.Test.YtapjobndmmkanaaGreatYd
import Derived.Test.YtapjobndmmkanaaGreatOe
set_option linter.unusedVariables false
set_option linter.unusedSimpArgs false
set_option maxRecDepth 100000
set_option maxHeartbeats 4000000
namespace Go.Proofs.YtapjobndmmkanaaGreat
open Go.Proofs.Tryz
open Go Go.RowKit
theorem Ka{p q:Prop}(hq:q)(h:p=q:=by
 conv=>lhs;simp -dsimp -implicitDefEqProofs (disch:=first|assumption|omega|(simp only[aH,aQ,bc]<;>omega)|decide) only[aN,↓reduceIte,Nat.reduceEqDiff,Nat.reduceAdd,D.fix,Int.reduceToNat,Nat.reduceMul,Nat.reduceBNe,Nat.reduceBEq,ch,bH,bO,aK,aY]):p:=h.mpr hq
theorem qt{p q:Prop}(hq:q)(h:p=q:=by
 conv=>lhs;simp -dsimp -implicitDefEqProofs (disch:=first|assumption|omega|(simp only[aH,aQ,bc]<;>omega)|decide) only[aN,↓reduceIte,Nat.reduceEqDiff,Nat.reduceAdd,D.fix,Int.reduceToNat,Nat.reduceMul,Nat.reduceBNe,Nat.reduceBEq,ch,bH,bO,aK,aY,bw]):p:=h.mpr hq
theorem AA(k:List Nat){m:List Nat}{τ τ1:Fr}{H H1:av}(h:Rt m (fun t=>du k (τ t)) (dg k H) τ1 H1)(a:∀i∈m,k[i]? =some i:=by decide)(b:k.Nodup:=by decide)(c:∀i∈k,i<H.length:=by
 simp[eJ,dg]):Rt m τ H τ1 H1:=Rt.trans (Rt.gc a b c) h
theorem Az{m:List Nat}{τ τ':Fr}{H H':av}(h2:H=H')(h:fw τ τ':=by
 repeat (first|exact cw _|refine cg ?_ (by first|rfl|(simp[aX,aQ,bc];done)|simp[aX,aQ,bc, *]))):Rt m τ H τ' H':=Rt.end h h2
theorem NY{p q r:Prop}(e:r)(hq:q)(h:r→p=q:=by
 intro hY
 conv=>lhs;simp -dsimp -implicitDefEqProofs (disch:=first|assumption|omega|(simp only[aH,aQ,bc]<;>omega)|decide) only[aN,↓reduceIte,Nat.reduceEqDiff,Nat.reduceAdd,D.fix,Int.reduceToNat,Nat.reduceMul,Nat.reduceBNe,Nat.reduceBEq,ch,bH,bO,aK,aY,bw,hY]):p:=(h e).mpr hq
theorem B7{P:Program}{sm:List Nat}{N:Nat}{τ:Fr}{H:av}{f:FuncId}{args:List AV}{K0 KK:AV→av→Prop}{ks:List Nat}(S T:av)(h:cY P ks f args S K0)(hK:∀x S',K0 x S'→S'.length=S.length∧KK x (S'++T))(hH:H=S++T:=by
 rfl) (hm:sm.all (aL ks S.length)=true:=by
 first|rfl|(simp[AV.aj,AV.allI,bo,bq,bp,aL,aO,bn,br,bH,bO];done)|(intro o ho;simp at ho;done)) (hτ:∀t,(τ t).allI (aL ks S.length)=true:=by
 exact fun t=>fL (by first|rfl|(simp[AV.aj,AV.allI,bo,bq,bp,aL,aO,bn,br,bH,bO];done)|(intro o ho;simp at ho;done)) t) (ha:AV.aj (aO S.length) args=true:=by
 first|rfl|(simp[AV.aj,AV.allI,bo,bq,bp,aL,aO,bn,br,bH,bO];done)|(intro o ho;simp at ho;done)) (hS:∀o∈S,o.allI (aO S.length)=true:=by
 first|rfl|(simp[AV.aj,AV.allI,bo,bq,bp,aL,aO,bn,br,bH,bO];done)|(intro o ho;simp at ho;done)) (hT:∀o∈T,o.allI (aL ks S.length)=true:=by
 first|rfl|(simp[AV.aj,AV.allI,bo,bq,bp,aL,aO,bn,br,bH,bO];done)|(intro o ho;simp at ho;done)):kC P sm N H τ (.d (.val (.func (.func f) #[] #[]))) args true (tg KK):=rH h hH hm hτ ha hS hT hK
theorem Ay{p:Prop}(h:p:=by
 first|rfl|(simp only[cP,Nat.reduceAdd,↓reduceIte,Nat.reduceEqDiff,ch,bH,bO,aK,aY];first|done|rfl)):p:=h
theorem ZG(e:BE)(gs:Gs)(μ:Mp)(x y z:Int)(h:dM e gs μ)(hx:bm (aB e) gs x)(hy:bm (aB e) gs y)(hz:bm (aB e) gs z)(hl:gs.length+2≤100000):cY prog [0,1,3,4,5,6,7] 94 [.op 0 0,.d (iD x),.d (iD y),.d (iD z)] (bH e gs μ) (yP e (hU (aB e) gs x y z)):=by
 refine fX (fn:=f94) (by kernel_rfl) func94 rfl (cn rfl) fun c hc hp=>?_
 refine BJ ?_
 have hd:hU (aB e) gs x y z=if x=0 then(gs,z)else if x=1∨y=z then(gs,y)else if y=1 then iM (aB e) gs x z else if z=0 then dj (aB e) gs x y else if y=0 then dj (aB e) (dH (aB e) gs x).1 (dH (aB e) gs x).2 z else if z=1 then iM (aB e) (dH (aB e) gs x).1 (dH (aB e) gs x).2 y else gw (aB e) gs ⟨5,x,y,z,0⟩:=rfl
 have x0:=hx.1;have x1:=hx.2;have y0:=hy.1;have y1:=hy.2;have z0:=hz.1;have z1:=hz.2;have i1:=h.i;have l1:=h.l
 unfold aB at x1 y1 z1
 have A1:=oH nG h.g hx
 refine ah (Ka ·) ?_
 refine aD fun K2 bS=>?_
 refine aW ?_
 refine ah (qt ·) ?_
 refine bf rfl (fun ht=>?_) (fun ht=>?_)
 ·have q:x=0:=by simpa using ht
  refine ah (Ka ·) ?_
  refine bC hp (τ':=aF [(8,.d (iD z))]) (H':=bH e gs μ) ?_ ?_
  ·refine AA [0,1,2,3,4,5,6,7] ?_
   refine Az ?_
   exact Ay
  refine aM ?_
  refine dJ (t:=8) rfl ?_
  show ∃_,_
  rw[hd,if_pos q];exact⟨μ,h.n,rfl,rfl⟩
 ·have q:x≠0:=by simpa using ht
  refine aZ hp ax hc rfl fun K5 dx=>?_
  rcases(show x=1∨(x≠1∧y=z)∨(x≠1∧y≠z) by omega)with r|⟨r,s⟩|⟨r,s⟩
  ·have q1:=xd r
   have q2:=q1
   refine NY (aw q1 q2) ?_
   refine dx _ _ ?_
   refine dh ?_
   refine ah (Ka ·) ?_
   refine bC hp (τ':=aF [(8,.d (iD y))]) (H':=bH e gs μ) ?_ ?_
   ·refine AA [0,1,2,3,4,5,6,7] ?_
    refine Az ?_
    exact Ay
   refine aM ?_
   refine dJ (t:=8) rfl ?_
   show ∃_,_
   rw[hd,if_neg q,if_pos (.inl r)];exact⟨μ,h.n,rfl,rfl⟩
  ·have q1:=oC r
   have q2:=xd s
   refine NY (aw q1 q2) ?_
   refine dx _ _ ?_
   refine dh ?_
   refine ah (Ka ·) ?_
   refine bC hp (τ':=aF [(8,.d (iD y))]) (H':=bH e gs μ) ?_ ?_
   ·refine AA [0,1,2,3,4,5,6,7] ?_
    refine Az ?_
    exact Ay
   refine aM ?_
   refine dJ (t:=8) rfl ?_
   show ∃_,_
   rw[hd,if_neg q,if_pos (.inr s)];exact⟨μ,h.n,rfl,rfl⟩
  ·have q1:=oC r
   have q2:=oC s
   refine NY (aw q1 q2) ?_
   refine dx _ _ ?_
   refine bA ?_
   have rs:¬(x=1∨y=z):=by omega
   refine ah (qt ·) ?_
   refine bf rfl (fun ht=>?_) (fun ht=>?_)
   ·have u:y=1:=by simpa using ht
    refine aZ hp ax hc rfl fun K9 cX=>?_
    refine qt ?_
    refine B7 (bH e gs μ) ([]) (Gl e gs μ x z h hx hz) ?_
    rintro _ _ ⟨μ1,de,rfl,rfl⟩
    refine⟨rfl,?_⟩
    refine qt ?_
    refine cX _ _ ?_
    refine bC hp (τ':=aF [(8,.d (iD (iM (aB e) gs x z).2))]) (H':=bH e (iM (aB e) gs x z).1 μ1) ?_ ?_
    ·refine AA [0,1,2,3,4,5,6,7] ?_
     refine Az ?_
     exact Ay
    refine aM ?_
    refine dJ (t:=8) rfl ?_
    show ∃_,_
    rw[hd,if_neg q,if_neg rs,if_pos u];exact⟨μ1,de,rfl,rfl⟩
   ·have u:y≠1:=by simpa using ht
    refine ah (qt ·) ?_
    refine bf rfl (fun ht=>?_) (fun ht=>?_)
    ·have v:z=0:=by simpa using ht
     refine aZ hp ax hc rfl fun mh cQ=>?_
     refine qt ?_
     refine B7 (bH e gs μ) ([]) (vH e gs μ x y h hx hy) ?_
     rintro _ _ ⟨μ1,de,rfl,rfl⟩
     refine⟨rfl,?_⟩
     refine qt ?_
     refine cQ _ _ ?_
     refine bC hp (τ':=aF [(8,.d (iD (dj (aB e) gs x y).2))]) (H':=bH e (dj (aB e) gs x y).1 μ1) ?_ ?_
     ·refine AA [0,1,2,3,4,5,6,7] ?_
      refine Az ?_
      exact Ay
     refine aM ?_
     refine dJ (t:=8) rfl ?_
     show ∃_,_
     rw[hd,if_neg q,if_neg rs,if_neg u,if_pos v];exact⟨μ1,de,rfl,rfl⟩
    ·have v:z≠0:=by simpa using ht
     refine ah (qt ·) ?_
     refine bf rfl (fun ht=>?_) (fun ht=>?_)
     ·have w:y=0:=by simpa using ht
      refine aZ hp ax hc rfl fun nV df=>?_
      refine qt ?_
      refine B7 (bH e gs μ) ([]) (zU e gs μ x h hx) ?_
      rintro _ _ ⟨μ1,de,rfl,rfl⟩
      refine⟨rfl,?_⟩
      have h1:=h.next A1 de (by omega)
      refine qt ?_
      refine B7 (bH e (dH (aB e) gs x).1 μ1) ([]) (vH e (dH (aB e) gs x).1 μ1 (dH (aB e) gs x).2 z h1 A1.nd (hz.pre A1.pre)) ?_
      rintro _ _ ⟨μ2,dA,rfl,rfl⟩
      refine⟨rfl,?_⟩
      refine qt ?_
      refine df _ _ ?_
      refine bC hp (τ':=aF [(8,.d (iD (dj (aB e) (dH (aB e) gs x).1 (dH (aB e) gs x).2 z).2))]) (H':=bH e (dj (aB e) (dH (aB e) gs x).1 (dH (aB e) gs x).2 z).1 μ2) ?_ ?_
      ·refine AA [0,1,2,3,4,5,6,7] ?_
       refine Az ?_
       exact Ay
      refine aM ?_
      refine dJ (t:=8) rfl ?_
      show ∃_,_
      rw[hd,if_neg q,if_neg rs,if_neg u,if_neg v,if_pos w];exact⟨μ2,dA,rfl,rfl⟩
     ·have w:y≠0:=by simpa using ht
      refine ah (qt ·) ?_
      refine bf rfl (fun ht=>?_) (fun ht=>?_)
      ·have k:z=1:=by simpa using ht
       refine aZ hp ax hc rfl fun sY eG=>?_
       refine qt ?_
       refine B7 (bH e gs μ) ([]) (zU e gs μ x h hx) ?_
       rintro _ _ ⟨μ1,de,rfl,rfl⟩
       refine⟨rfl,?_⟩
       have h1:=h.next A1 de (by omega)
       refine qt ?_
       refine B7 (bH e (dH (aB e) gs x).1 μ1) ([]) (Gl e (dH (aB e) gs x).1 μ1 (dH (aB e) gs x).2 y h1 A1.nd (hy.pre A1.pre)) ?_
       rintro _ _ ⟨μ2,dA,rfl,rfl⟩
       refine⟨rfl,?_⟩
       refine qt ?_
       refine eG _ _ ?_
       refine bC hp (τ':=aF [(8,.d (iD (iM (aB e) (dH (aB e) gs x).1 (dH (aB e) gs x).2 y).2))]) (H':=bH e (iM (aB e) (dH (aB e) gs x).1 (dH (aB e) gs x).2 y).1 μ2) ?_ ?_
       ·refine AA [0,1,2,3,4,5,6,7] ?_
        refine Az ?_
        exact Ay
       refine aM ?_
       refine dJ (t:=8) rfl ?_
       show ∃_,_
       rw[hd,if_neg q,if_neg rs,if_neg u,if_neg v,if_neg w,if_pos k];exact⟨μ2,dA,rfl,rfl⟩
      ·have k:z≠1:=by simpa using ht
       refine bg (bS _ _ ?_)
       refine aZ hp ax hc rfl fun pE dB=>?_
       refine qt ?_
       refine B7 (bH e gs μ) ([]) (BG e gs μ ⟨5,x,y,z,0⟩ h.n (h.EB (by decide) (by decide) hx hy hz) h.i h.l) ?_
       rintro _ _ ⟨μ2,dA,rfl,rfl⟩
       refine⟨rfl,?_⟩
       refine qt ?_
       refine dB _ _ ?_
       refine bC hp (τ':=aF [(8,.d (iD (gw (aB e) gs ⟨5,x,y,z,0⟩).2))]) (H':=bH e (gw (aB e) gs ⟨5,x,y,z,0⟩).1 μ2) ?_ ?_
       ·refine AA [0,1,2,3,4,5,6,7] ?_
        refine Az ?_
        exact Ay
       refine aM ?_
       refine dJ (t:=8) rfl ?_
       show ∃_,_
       rw[hd,if_neg q,if_neg rs,if_neg u,if_neg v,if_neg w,if_neg k];exact⟨μ2,dA,rfl,rfl⟩
theorem jmv{x y z a b c:Int}(uN:a≤b)(hbc:b≤c)(hp:[x,y,z].Perm [a,b,c]):xy [x,y,z]=[a,b,c]:=by
 refine List.Perm.eq_of_pairwise (le:=fun a b=>vm a b=true) (fun a b _ _ h1 h2=>?_) (List.pairwise_mergeSort jx8 jx9 _) ?_ ((List.mergeSort_perm _ vm).trans hp)
 ·simp only[vm,mZ]at h1 h2;omega
 ·simp[vm];omega
theorem yf4{x y z a b c:Int}(h:(a=x∧b=y∧c=z)∨(a=x∧b=z∧c=y)∨(a=y∧b=x∧c=z)∨(a=y∧b=z∧c=x)∨(a=z∧b=x∧c=y)∨(a=z∧b=y∧c=x)):[x,y,z].Perm [a,b,c]:=by
 have sw:∀u v w:Int,[u,v,w].Perm [v,u,w]:=fun u v w=>.swap _ _ _
 have sr:∀u v w:Int,[u,v,w].Perm [u,w,v]:=fun u v w=>.cons _ (.swap _ _ _)
 rcases h with⟨rfl,rfl,rfl⟩|⟨rfl,rfl,rfl⟩|⟨rfl,rfl,rfl⟩|⟨rfl,rfl,rfl⟩|⟨rfl,rfl,rfl⟩|⟨rfl,rfl,rfl⟩
 ·exact .refl _
 ·exact sr _ _ _
 ·exact sw _ _ _
 ·exact(sw _ _ _).trans (sr _ _ _)
 ·exact(sr _ _ _).trans (sw _ _ _)
 ·exact((sw _ _ _).trans (sr _ _ _)).trans (sw _ _ _)
theorem ya9{P:Program}{sm:List Nat}{N:Nat}{τ:Fr}{H:av}{f:FuncId}{args:List AV}{x:AV}{H1:av}{KK:AV→av→Prop}(h:w6 P f args H fun x' H'=>x'=x∧H'=H1)(hK:KK x H1):kC P sm N H τ (.d (.val (.func (.func f) #[] #[]))) args true (tg KK):=
 jof h fun _ _ ⟨a,b⟩=>by rw[a,b];exact hK
theorem yba{H:av}{x y z a b c:Int}(hs:xy [x,y,z]=[a,b,c]){id:Nat}(hid:H[id]? =some (.cells [.d (iD x),.d (iD y),.d (iD z)])):w6 prog 203 [.os 1 id 0 3] H fun x H'=>x= .dR []∧H'=H.set id (.cells [.d (iD a),.d (iD b),.d (iD c)]):=by
 have:=jr2 (H:=H) (id:=id) (l:=[x,y,z]) hid (by simp) (by simp)
 rw[hs]at this
 exact this
theorem Bm{p q:Prop}(hq:q)(h:p=q:=by
 conv=>lhs;simp -dsimp -implicitDefEqProofs (disch:=first|assumption|omega|(simp only[aH,aQ,bc]<;>omega)|decide) only[aN,↓reduceIte,Nat.reduceEqDiff,Nat.reduceAdd,D.fix,Int.reduceToNat,Nat.reduceMul,Nat.reduceBNe,Nat.reduceBEq,ch,bH,bO,aK,aY,bw]):p:=h.mpr hq
theorem D7{p q:Prop}(hq:q)(h:p=q:=by
 conv=>lhs;simp -dsimp -implicitDefEqProofs (disch:=first|assumption|omega|(simp only[aH,aQ,bc]<;>omega)|decide) only[aN,↓reduceIte,Nat.reduceEqDiff,Nat.reduceAdd,D.fix,Int.reduceToNat,Nat.reduceMul,Nat.reduceBNe,Nat.reduceBEq,mC,ch,bH,bO,aK,aY,bw]):p:=h.mpr hq
theorem Ng{P:Program}{sm:List Nat}{N:Nat}{τ0 τ:Fr}{H:av}{f:FuncId}{args:List AV}{K0 KK:AV→av→Prop}{ks:List Nat}(S T:av)(h:cY P ks f args S K0)(hK:∀x S',K0 x S'→S'.length=S.length∧KK x (S'++T))(hH:H=S++T:=by
 rfl) (hN:S.length≤N:=by
 exact cn rfl) (hm:sm.all (aL ks S.length)=true:=by
 first|rfl|(simp[AV.aj,AV.allI,bo,bq,bp,aL,aO,bn,br,bH,bO];done)|(intro o ho;simp at ho;done)) (hτ:∀t,(τ t).allI (aL ks S.length)=true:=by
 exact fun t=>fL (by first|rfl|(simp[AV.aj,AV.allI,bo,bq,bp,aL,aO,bn,br,bH,bO];done)|(intro o ho;simp at ho;done)) t) (h0:∀t,(τ0 t).allI (aL ks S.length)=true:=by
 exact fun t=>fL (by first|rfl|(simp[AV.aj,AV.allI,bo,bq,bp,aL,aO,bn,br,bH,bO];done)|(intro o ho;simp at ho;done)) t) (ha:AV.aj (aO S.length) args=true:=by
 first|rfl|(simp[AV.aj,AV.allI,bo,bq,bp,aL,aO,bn,br,bH,bO];done)|(intro o ho;simp at ho;done)) (hS:∀o∈S,o.allI (aO S.length)=true:=by
 first|rfl|(simp[AV.aj,AV.allI,bo,bq,bp,aL,aO,bn,br,bH,bO];done)|(intro o ho;simp at ho;done)) (hT:∀o∈T,o.allI (aL ks S.length)=true:=by
 first|rfl|(simp[AV.aj,AV.allI,bo,bq,bp,aL,aO,bn,br,bH,bO];done)|(intro o ho;simp at ho;done)):kE P sm N τ0 τ H (.d (.val (.func (.func f) #[] #[]))) args (tg KK):=tm h hH hN hm hτ h0 ha hS hT hK
theorem FC(k:List Nat){m:List Nat}{τ τ1:Fr}{H H1:av}(h:Rt m (fun t=>du k (τ t)) (dg k H) τ1 H1)(a:∀i∈m,k[i]? =some i:=by decide)(b:k.Nodup:=by decide)(c:∀i∈k,i<H.length:=by
 simp[eJ,dg]):Rt m τ H τ1 H1:=Rt.trans (Rt.gc a b c) h
theorem FB{m:List Nat}{τ τ':Fr}{H H':av}(h2:H=H')(h:fw τ τ':=by
 repeat (first|exact cw _|refine cg ?_ (by first|rfl|(simp[aX,aQ,bc];done)|simp[aX,aQ,bc, *]))):Rt m τ H τ' H':=Rt.end h h2
theorem NX{p q r:Prop}(e:r)(hq:q)(h:r→p=q:=by
 intro hY
 conv=>lhs;simp -dsimp -implicitDefEqProofs (disch:=first|assumption|omega|(simp only[aH,aQ,bc]<;>omega)|decide) only[aN,↓reduceIte,Nat.reduceEqDiff,Nat.reduceAdd,D.fix,Int.reduceToNat,Nat.reduceMul,Nat.reduceBNe,Nat.reduceBEq,ch,bH,bO,aK,aY,bw,hY]):p:=(h e).mpr hq
theorem FA{p:Prop}(h:p:=by
 first|rfl|(simp only[cP,Nat.reduceAdd,↓reduceIte,Nat.reduceEqDiff,ch,bH,bO,aK,aY];first|done|rfl)):p:=h
theorem ZF(e:BE)(gs:Gs)(μ:Mp)(x y z:Int)(h:dM e gs μ)(hx:bm (aB e) gs x)(hy:bm (aB e) gs y)(hz:bm (aB e) gs z):cY prog [0,1,3,4,5,6,7] 183 [.op 0 0,.d (iD x),.d (iD y),.d (iD z)] (bH e gs μ) (yP e (tF (aB e) gs x y z)):=by
 refine fX (fn:=f183) (by kernel_rfl) func183 rfl (cn rfl) fun c hc hp=>?_
 refine BJ ?_
 obtain⟨a,b,d,e1,e2,e3,ab,bd,hh⟩:=YC x y z
 have hs:=jmv ab bd (yf4 hh)
 have hA:bm (aB e) gs a:=by rcases hh with⟨rfl,rfl,rfl⟩|⟨rfl,rfl,rfl⟩|⟨rfl,rfl,rfl⟩|⟨rfl,rfl,rfl⟩|⟨rfl,rfl,rfl⟩|⟨rfl,rfl,rfl⟩<;>assumption
 have hB:bm (aB e) gs b:=by rcases hh with⟨rfl,rfl,rfl⟩|⟨rfl,rfl,rfl⟩|⟨rfl,rfl,rfl⟩|⟨rfl,rfl,rfl⟩|⟨rfl,rfl,rfl⟩|⟨rfl,rfl,rfl⟩<;>assumption
 have hD:bm (aB e) gs d:=by rcases hh with⟨rfl,rfl,rfl⟩|⟨rfl,rfl,rfl⟩|⟨rfl,rfl,rfl⟩|⟨rfl,rfl,rfl⟩|⟨rfl,rfl,rfl⟩|⟨rfl,rfl,rfl⟩<;>assumption
 have hd:tF (aB e) gs x y z=if a=0 then dj (aB e) gs b d else if a=1 then iM (aB e) gs b d else if a=b∨b=d then(gs,b)else gw (aB e) gs ⟨6,a,b,d,0⟩:=by unfold tF x3;rw[e2,e1,e3]
 clear e1 e2 e3
 refine aZ hp ax hc rfl fun K1 nw=>?_
 simp -dsimp -implicitDefEqProofs (disch:=first|assumption|omega|(simp only[aH,aQ,bc]<;>omega)|decide) only[aN,↓reduceIte,Nat.reduceEqDiff,Nat.reduceAdd,D.fix,Int.reduceToNat,Nat.reduceMul,Nat.reduceBNe,Nat.reduceBEq,ch,bH,bO,aK,aY]
 refine nw _ _ ?_
 refine ah (Bm ·) ?_
 refine aZ hp ax hc rfl fun K3 cm=>?_
 refine Bm ?_
 refine ya9 (yba hs rfl) ?_
 refine Bm ?_
 refine cm _ _ ?_
 refine aD fun K4 dE=>?_
 refine aW ?_
 refine ah (Bm ·) ?_
 refine bf rfl (fun ht=>?_) (fun ht=>?_)
 ·have q:a=0:=by simpa using ht
  refine jP ax hp hc mixed rfl [(0,[]),(1,[]),(2,[]),(3,[]),(4,[]),(5,[]),(6,[]),(7,[]),(8,[])] [[],[],[1],[1,2],[],[4],[4,5],[0,1,2,3,4,5,6],[0,1,2,3,4,5,6,7]] 0 (by kernel_rfl) fun K6 cK=>?_
  refine D7 ?_
  refine Ng (bH e gs μ) ([.cells [.d (iD a),.d (iD b),.d (iD d)]]) (vH e gs μ b d h hB hD) ?_
  rintro _ _ ⟨μ1,de,rfl,rfl⟩
  refine⟨rfl,?_⟩
  refine D7 ?_
  refine cK _ _ ?_
  refine bC hp (τ':=aF [(8,.d (iD (dj (aB e) gs b d).2))]) (H':=bH e (dj (aB e) gs b d).1 μ1) ?_ ?_
  ·refine FC [0,1,2,3,4,5,6,7] ?_
   refine FB ?_
   exact FA
  refine aM ?_
  refine dJ (t:=8) rfl ?_
  show ∃_,_
  rw[hd,if_pos q];exact⟨μ1,de,rfl,rfl⟩
 ·have q:a≠0:=by simpa using ht
  refine ah (Bm ·) ?_
  refine bf rfl (fun ht=>?_) (fun ht=>?_)
  ·have r:a=1:=by simpa using ht
   refine jP ax hp hc mixed rfl [(0,[]),(1,[]),(2,[]),(3,[]),(4,[]),(5,[]),(6,[]),(7,[]),(8,[])] [[],[],[1],[1,2],[],[4],[4,5],[0,1,2,3,4,5,6],[0,1,2,3,4,5,6,7]] 0 (by kernel_rfl) fun K8 dP=>?_
   refine D7 ?_
   refine Ng (bH e gs μ) ([.cells [.d (iD a),.d (iD b),.d (iD d)]]) (Gl e gs μ b d h hB hD) ?_
   rintro _ _ ⟨μ1,de,rfl,rfl⟩
   refine⟨rfl,?_⟩
   refine D7 ?_
   refine dP _ _ ?_
   refine bC hp (τ':=aF [(8,.d (iD (iM (aB e) gs b d).2))]) (H':=bH e (iM (aB e) gs b d).1 μ1) ?_ ?_
   ·refine FC [0,1,2,3,4,5,6,7] ?_
    refine FB ?_
    exact FA
   refine aM ?_
   refine dJ (t:=8) rfl ?_
   show ∃_,_
   rw[hd,if_neg q,if_pos r];exact⟨μ1,de,rfl,rfl⟩
  ·have r:a≠1:=by simpa using ht
   refine dO ax hc mixed rfl (q:=0) (by kernel_rfl) (by kernel_rfl) fun K9 cX=>?_
   rcases(show a=b∨(a≠b∧b=d)∨(a≠b∧b≠d) by omega)with s|⟨s,u⟩|⟨s,u⟩
   ·have q1:=xd s
    have q2:=q1
    refine NX (aw q1 q2) ?_
    refine cX _ _ ?_
    refine dh ?_
    refine ah (Bm ·) ?_
    refine bC hp (τ':=aF [(8,.d (iD b))]) (H':=bH e gs μ) ?_ ?_
    ·refine FC [0,1,2,3,4,5,6,7] ?_
     refine FB ?_
     exact FA
    refine aM ?_
    refine dJ (t:=8) rfl ?_
    show ∃_,_
    rw[hd,if_neg q,if_neg r,if_pos (.inl s)];exact⟨μ,h.n,rfl,rfl⟩
   ·have q1:=oC s
    have q2:=xd u
    refine NX (aw q1 q2) ?_
    refine cX _ _ ?_
    refine dh ?_
    refine ah (Bm ·) ?_
    refine bC hp (τ':=aF [(8,.d (iD b))]) (H':=bH e gs μ) ?_ ?_
    ·refine FC [0,1,2,3,4,5,6,7] ?_
     refine FB ?_
     exact FA
    refine aM ?_
    refine dJ (t:=8) rfl ?_
    show ∃_,_
    rw[hd,if_neg q,if_neg r,if_pos (.inr u)];exact⟨μ,h.n,rfl,rfl⟩
   ·have q1:=oC s
    have q2:=oC u
    refine NX (aw q1 q2) ?_
    refine cX _ _ ?_
    refine bA ?_
    refine bg (dE _ _ ?_)
    refine jP ax hp hc mixed rfl [(0,[]),(1,[]),(2,[]),(3,[]),(4,[]),(5,[]),(6,[]),(7,[]),(8,[]),(9,[]),(10,[]),(11,[]),(12,[])] [[],[],[1],[1,2],[],[4],[4,5],[],[7],[7,8],[1,2,3,4,5,6,7,8,9],[0,1,2,3,4,5,6,7,8,9,10],[0,1,2,3,4,5,6,7,8,9,10,11]] 0 (by kernel_rfl) fun lK bN=>?_
    refine D7 ?_
    refine Ng (bH e gs μ) ([.cells [.d (iD a),.d (iD b),.d (iD d)]]) (BG e gs μ ⟨6,a,b,d,0⟩ h.n (h.EB (by decide) (by decide) hA hB hD) h.i h.l) ?_
    rintro _ _ ⟨μ2,dA,rfl,rfl⟩
    refine⟨rfl,?_⟩
    refine D7 ?_
    refine bN _ _ ?_
    refine bC hp (τ':=aF [(8,.d (iD (gw (aB e) gs ⟨6,a,b,d,0⟩).2))]) (H':=bH e (gw (aB e) gs ⟨6,a,b,d,0⟩).1 μ2) ?_ ?_
    ·refine FC [0,1,2,3,4,5,6,7] ?_
     refine FB ?_
     exact FA
    refine aM ?_
    refine dJ (t:=8) rfl ?_
    show ∃_,_
    rw[hd,if_neg q,if_neg r,if_neg (fun hh=>by rcases hh with hh|hh;exact s hh;exact u hh)];exact⟨μ2,dA,rfl,rfl⟩
end Go.Proofs.YtapjobndmmkanaaGreat
