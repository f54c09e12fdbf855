/- netlist's builder: multiplexers. -/
import Derived.Test.YtapjobndmmkanaaGreatQr
import Derived.Test.YtapjobndmmkanaaGreatYd
import Derived.Test.YtapjobndmmkanaaGreatOe
set_option linter.unusedVariables false
set_option linter.unusedSimpArgs false
set_option maxRecDepth 100000
set_option maxHeartbeats 4000000
namespace Go.Proofs.YtapjobndmmkanaaGreat
open Go.Proofs.Tryz
open Go Go.RowKit
theorem KZ{p q:Prop}(hq:q)(h:p=q:=by
 conv=>lhs;simp -dsimp -implicitDefEqProofs (disch:=first|assumption|omega|(simp only[aK,aT,bx]<;>omega)|decide) only[aP,↓reduceIte,Nat.reduceEqDiff,Nat.reduceAdd,D.fix,Int.reduceToNat,Nat.reduceMul,Nat.reduceBNe,Nat.reduceBEq,bR,bH,bO,aD,bE]):p:=h.mpr hq
theorem qC{p q:Prop}(hq:q)(h:p=q:=by
 conv=>lhs;simp -dsimp -implicitDefEqProofs (disch:=first|assumption|omega|(simp only[aK,aT,bx]<;>omega)|decide) only[aP,↓reduceIte,Nat.reduceEqDiff,Nat.reduceAdd,D.fix,Int.reduceToNat,Nat.reduceMul,Nat.reduceBNe,Nat.reduceBEq,bR,bH,bO,aD,bE,bw]):p:=h.mpr hq
theorem A4(k:List Nat){m:List Nat}{τ τ1:Fr}{H H1:ak}(h:Rt m (fun t=>c7 k (τ t)) (dg k H) τ1 H1)(a:∀i∈m,k[i]? =some i:=by decide)(b:k.Nodup:=by decide)(c:∀i∈k,i<H.length:=by
 simp[eS,dg]):Rt m τ H τ1 H1:=Rt.trans (Rt.gc a b c) h
theorem A3{m:List Nat}{τ τ':Fr}{H H':ak}(h2:H=H')(h:fm τ τ':=by
 repeat (first|exact bT _|refine bM ?_ (by first|rfl|(simp[aR,aT,bx];done)|simp[aR,aT,bx, *]))):Rt m τ H τ' H':=Rt.end h h2
theorem OE{p q r:Prop}(e:r)(hq:q)(h:r→p=q:=by
 intro hY
 conv=>lhs;simp -dsimp -implicitDefEqProofs (disch:=first|assumption|omega|(simp only[aK,aT,bx]<;>omega)|decide) only[aP,↓reduceIte,Nat.reduceEqDiff,Nat.reduceAdd,D.fix,Int.reduceToNat,Nat.reduceMul,Nat.reduceBNe,Nat.reduceBEq,bR,bH,bO,aD,bE,bw,hY]):p:=(h e).mpr hq
theorem Co{P:Program}{sm:List Nat}{N:Nat}{τ:Fr}{H:ak}{f:FuncId}{args:List AV}{K0 KK:AV→ak→Prop}{ks:List Nat}(S T:ak)(h:cM P ks f args S K0)(hK:∀x S',K0 x S'→S'.length=S.length∧KK x (S'++T))(hH:H=S++T:=by
 rfl) (hm:sm.all (aJ ks S.length)=true:=by
 first|rfl|(simp[AV.ah,AV.allI,bc,bg,bf,aJ,aN,aY,aZ,bH,bO];done)|(intro o ho;simp at ho;done)) (hτ:∀t,(τ t).allI (aJ ks S.length)=true:=by
 exact fun t=>fU (by first|rfl|(simp[AV.ah,AV.allI,bc,bg,bf,aJ,aN,aY,aZ,bH,bO];done)|(intro o ho;simp at ho;done)) t) (ha:AV.ah (aN S.length) args=true:=by
 first|rfl|(simp[AV.ah,AV.allI,bc,bg,bf,aJ,aN,aY,aZ,bH,bO];done)|(intro o ho;simp at ho;done)) (hS:∀o∈S,o.allI (aN S.length)=true:=by
 first|rfl|(simp[AV.ah,AV.allI,bc,bg,bf,aJ,aN,aY,aZ,bH,bO];done)|(intro o ho;simp at ho;done)) (hT:∀o∈T,o.allI (aJ ks S.length)=true:=by
 first|rfl|(simp[AV.ah,AV.allI,bc,bg,bf,aJ,aN,aY,aZ,bH,bO];done)|(intro o ho;simp at ho;done)):kC P sm N H τ (.d (.val (.func (.func f) #[] #[]))) args true (tg KK):=r7 h hH hm hτ ha hS hT hK
theorem AY{p:Prop}(h:p:=by
 first|rfl|(simp only[cD,Nat.reduceAdd,↓reduceIte,Nat.reduceEqDiff,bR,bH,bO,aD,bE];first|done|rfl)):p:=h
theorem jub(e:BE)(gs:Gs)(μ:Mp)(x y z:Int)(h:dx e gs μ)(hx:br (aw e) gs x)(hy:br (aw e) gs y)(hz:br (aw e) gs z)(hl:gs.length+2≤100000):cM prog [0,1,3,4,5,6,7] 94 [.op 0 0,.d (iD x),.d (iD y),.d (iD z)] (bH e gs μ) (zw e (jF (aw e) gs x y z)):=by
 refine fV (fn:=f94) (by kernel_rfl) func94 rfl (bN rfl) fun c hc hp=>?_
 refine B8 ?_
 have hd:jF (aw e) gs x y z=if x=0 then(gs,z)else if x=1∨y=z then(gs,y)else if y=1 then ko (aw e) gs x z else if z=0 then du (aw e) gs x y else if y=0 then du (aw e) (dW (aw e) gs x).1 (dW (aw e) gs x).2 z else if z=1 then ko (aw e) (dW (aw e) gs x).1 (dW (aw e) gs x).2 y else gX (aw e) gs ⟨5,x,y,z,0⟩:=rfl
 have x0:=hx.1;have x1:=hx.2;have y0:=hy.1;have y1:=hy.2;have z0:=hz.1;have z1:=hz.2;have i1:=h.i;have l1:=h.l
 unfold aw at x1 y1 z1
 have Bp:=oL nw h.g hx
 refine aj (KZ ·) ?_
 refine aH fun K2 bG=>?_
 refine aW ?_
 refine aj (qC ·) ?_
 refine aX rfl (fun ht=>?_) (fun ht=>?_)
 ·have q:x=0:=by simpa using ht
  refine aj (KZ ·) ?_
  refine bI hp (τ':=aG [(8,.d (iD z))]) (H':=bH e gs μ) ?_ ?_
  ·refine A4 [0,1,2,3,4,5,6,7] ?_
   refine A3 ?_
   exact AY
  refine bh ?_
  refine c8 (t:=8) rfl ?_
  show ∃_,_
  rw[hd,if_pos q];exact⟨μ,h.n,rfl,rfl⟩
 ·have q:x≠0:=by simpa using ht
  refine bC hp ax hc rfl fun K5 fA=>?_
  rcases(show x=1∨(x≠1∧y=z)∨(x≠1∧y≠z) by omega)with r|⟨r,s⟩|⟨r,s⟩
  ·have q1:=yi r
   have q2:=q1
   refine OE (aL q1 q2) ?_
   refine fA _ _ ?_
   refine jW ?_
   refine aj (KZ ·) ?_
   refine bI hp (τ':=aG [(8,.d (iD y))]) (H':=bH e gs μ) ?_ ?_
   ·refine A4 [0,1,2,3,4,5,6,7] ?_
    refine A3 ?_
    exact AY
   refine bh ?_
   refine c8 (t:=8) rfl ?_
   show ∃_,_
   rw[hd,if_neg q,if_pos (.inl r)];exact⟨μ,h.n,rfl,rfl⟩
  ·have q1:=oH r
   have q2:=yi s
   refine OE (aL q1 q2) ?_
   refine fA _ _ ?_
   refine jW ?_
   refine aj (KZ ·) ?_
   refine bI hp (τ':=aG [(8,.d (iD y))]) (H':=bH e gs μ) ?_ ?_
   ·refine A4 [0,1,2,3,4,5,6,7] ?_
    refine A3 ?_
    exact AY
   refine bh ?_
   refine c8 (t:=8) rfl ?_
   show ∃_,_
   rw[hd,if_neg q,if_pos (.inr s)];exact⟨μ,h.n,rfl,rfl⟩
  ·have q1:=oH r
   have q2:=oH s
   refine OE (aL q1 q2) ?_
   refine fA _ _ ?_
   refine eC ?_
   have rs:¬(x=1∨y=z):=by omega
   refine aj (qC ·) ?_
   refine aX rfl (fun ht=>?_) (fun ht=>?_)
   ·have u:y=1:=by simpa using ht
    refine bC hp ax hc rfl fun K9 cJ=>?_
    refine qC ?_
    refine Co (bH e gs μ) ([]) (G3 e gs μ x z h hx hz) ?_
    rintro _ _ ⟨μ1,cZ,rfl,rfl⟩
    refine⟨rfl,?_⟩
    refine qC ?_
    refine cJ _ _ ?_
    refine bI hp (τ':=aG [(8,.d (iD (ko (aw e) gs x z).2))]) (H':=bH e (ko (aw e) gs x z).1 μ1) ?_ ?_
    ·refine A4 [0,1,2,3,4,5,6,7] ?_
     refine A3 ?_
     exact AY
    refine bh ?_
    refine c8 (t:=8) rfl ?_
    show ∃_,_
    rw[hd,if_neg q,if_neg rs,if_pos u];exact⟨μ1,cZ,rfl,rfl⟩
   ·have u:y≠1:=by simpa using ht
    refine aj (qC ·) ?_
    refine aX rfl (fun ht=>?_) (fun ht=>?_)
    ·have v:z=0:=by simpa using ht
     refine bC hp ax hc rfl fun lz cm=>?_
     refine qC ?_
     refine Co (bH e gs μ) ([]) (xd e gs μ x y h hx hy) ?_
     rintro _ _ ⟨μ1,cZ,rfl,rfl⟩
     refine⟨rfl,?_⟩
     refine qC ?_
     refine cm _ _ ?_
     refine bI hp (τ':=aG [(8,.d (iD (du (aw e) gs x y).2))]) (H':=bH e (du (aw e) gs x y).1 μ1) ?_ ?_
     ·refine A4 [0,1,2,3,4,5,6,7] ?_
      refine A3 ?_
      exact AY
     refine bh ?_
     refine c8 (t:=8) rfl ?_
     show ∃_,_
     rw[hd,if_neg q,if_neg rs,if_neg u,if_pos v];exact⟨μ1,cZ,rfl,rfl⟩
    ·have v:z≠0:=by simpa using ht
     refine aj (qC ·) ?_
     refine aX rfl (fun ht=>?_) (fun ht=>?_)
     ·have w:y=0:=by simpa using ht
      refine bC hp ax hc rfl fun rN dQ=>?_
      refine qC ?_
      refine Co (bH e gs μ) ([]) (As e gs μ x h hx) ?_
      rintro _ _ ⟨μ1,cZ,rfl,rfl⟩
      refine⟨rfl,?_⟩
      have h1:=h.next Bp cZ (by omega)
      refine qC ?_
      refine Co (bH e (dW (aw e) gs x).1 μ1) ([]) (xd e (dW (aw e) gs x).1 μ1 (dW (aw e) gs x).2 z h1 Bp.nd (hz.pre Bp.pre)) ?_
      rintro _ _ ⟨μ2,db,rfl,rfl⟩
      refine⟨rfl,?_⟩
      refine qC ?_
      refine dQ _ _ ?_
      refine bI hp (τ':=aG [(8,.d (iD (du (aw e) (dW (aw e) gs x).1 (dW (aw e) gs x).2 z).2))]) (H':=bH e (du (aw e) (dW (aw e) gs x).1 (dW (aw e) gs x).2 z).1 μ2) ?_ ?_
      ·refine A4 [0,1,2,3,4,5,6,7] ?_
       refine A3 ?_
       exact AY
      refine bh ?_
      refine c8 (t:=8) rfl ?_
      show ∃_,_
      rw[hd,if_neg q,if_neg rs,if_neg u,if_neg v,if_pos w];exact⟨μ2,db,rfl,rfl⟩
     ·have w:y≠0:=by simpa using ht
      refine aj (qC ·) ?_
      refine aX rfl (fun ht=>?_) (fun ht=>?_)
      ·have k:z=1:=by simpa using ht
       refine bC hp ax hc rfl fun tG ea=>?_
       refine qC ?_
       refine Co (bH e gs μ) ([]) (As e gs μ x h hx) ?_
       rintro _ _ ⟨μ1,cZ,rfl,rfl⟩
       refine⟨rfl,?_⟩
       have h1:=h.next Bp cZ (by omega)
       refine qC ?_
       refine Co (bH e (dW (aw e) gs x).1 μ1) ([]) (G3 e (dW (aw e) gs x).1 μ1 (dW (aw e) gs x).2 y h1 Bp.nd (hy.pre Bp.pre)) ?_
       rintro _ _ ⟨μ2,db,rfl,rfl⟩
       refine⟨rfl,?_⟩
       refine qC ?_
       refine ea _ _ ?_
       refine bI hp (τ':=aG [(8,.d (iD (ko (aw e) (dW (aw e) gs x).1 (dW (aw e) gs x).2 y).2))]) (H':=bH e (ko (aw e) (dW (aw e) gs x).1 (dW (aw e) gs x).2 y).1 μ2) ?_ ?_
       ·refine A4 [0,1,2,3,4,5,6,7] ?_
        refine A3 ?_
        exact AY
       refine bh ?_
       refine c8 (t:=8) rfl ?_
       show ∃_,_
       rw[hd,if_neg q,if_neg rs,if_neg u,if_neg v,if_neg w,if_pos k];exact⟨μ2,db,rfl,rfl⟩
      ·have k:z≠1:=by simpa using ht
       refine bB (bG _ _ ?_)
       refine bC hp ax hc rfl fun pM df=>?_
       refine qC ?_
       refine Co (bH e gs μ) ([]) (B4 e gs μ ⟨5,x,y,z,0⟩ h.n (h.Fe (by decide) (by decide) hx hy hz) h.i h.l) ?_
       rintro _ _ ⟨μ2,db,rfl,rfl⟩
       refine⟨rfl,?_⟩
       refine qC ?_
       refine df _ _ ?_
       refine bI hp (τ':=aG [(8,.d (iD (gX (aw e) gs ⟨5,x,y,z,0⟩).2))]) (H':=bH e (gX (aw e) gs ⟨5,x,y,z,0⟩).1 μ2) ?_ ?_
       ·refine A4 [0,1,2,3,4,5,6,7] ?_
        refine A3 ?_
        exact AY
       refine bh ?_
       refine c8 (t:=8) rfl ?_
       show ∃_,_
       rw[hd,if_neg q,if_neg rs,if_neg u,if_neg v,if_neg w,if_neg k];exact⟨μ2,db,rfl,rfl⟩
theorem jpv{x y z a b c:Int}(vE:a≤b)(hbc:b≤c)(hp:[x,y,z].Perm [a,b,c]):yk [x,y,z]=[a,b,c]:=by
 refine List.Perm.eq_of_pairwise (le:=fun a b=>wy a b=true) (fun a b _ _ h1 h2=>?_) (List.pairwise_mergeSort yb5 yb6 _) ?_ ((List.mergeSort_perm _ wy).trans hp)
 ·simp only[wy,oU]at h1 h2;omega
 ·simp[wy];omega
theorem yll{x y z a b c:Int}(h:(a=x∧b=y∧c=z)∨(a=x∧b=z∧c=y)∨(a=y∧b=x∧c=z)∨(a=y∧b=z∧c=x)∨(a=z∧b=x∧c=y)∨(a=z∧b=y∧c=x)):[x,y,z].Perm [a,b,c]:=by
 have sw:∀u v w:Int,[u,v,w].Perm [v,u,w]:=fun u v w=>.swap _ _ _
 have sr:∀u v w:Int,[u,v,w].Perm [u,w,v]:=fun u v w=>.cons _ (.swap _ _ _)
 rcases h with⟨rfl,rfl,rfl⟩|⟨rfl,rfl,rfl⟩|⟨rfl,rfl,rfl⟩|⟨rfl,rfl,rfl⟩|⟨rfl,rfl,rfl⟩|⟨rfl,rfl,rfl⟩
 ·exact .refl _
 ·exact sr _ _ _
 ·exact sw _ _ _
 ·exact(sw _ _ _).trans (sr _ _ _)
 ·exact(sr _ _ _).trans (sw _ _ _)
 ·exact((sw _ _ _).trans (sr _ _ _)).trans (sw _ _ _)
theorem yf7{P:Program}{sm:List Nat}{N:Nat}{τ:Fr}{H:ak}{f:FuncId}{args:List AV}{x:AV}{H1:ak}{KK:AV→ak→Prop}(h:wU P f args H fun x' H'=>x'=x∧H'=H1)(hK:KK x H1):kC P sm N H τ (.d (.val (.func (.func f) #[] #[]))) args true (tg KK):=
 jrl h fun _ _ ⟨a,b⟩=>by rw[a,b];exact hK
theorem yf8{H:ak}{x y z a b c:Int}(hs:yk [x,y,z]=[a,b,c]){id:Nat}(hid:H[id]? =some (.cells [.d (iD x),.d (iD y),.d (iD z)])):wU prog 203 [.os 1 id 0 3] H fun x H'=>x= .dc []∧H'=H.set id (.cells [.d (iD a),.d (iD b),.d (iD c)]):=by
 have:=jvo (H:=H) (id:=id) (l:=[x,y,z]) hid (by simp) (by simp)
 rw[hs]at this
 exact this
theorem CI{p q:Prop}(hq:q)(h:p=q:=by
 conv=>lhs;simp -dsimp -implicitDefEqProofs (disch:=first|assumption|omega|(simp only[aK,aT,bx]<;>omega)|decide) only[aP,↓reduceIte,Nat.reduceEqDiff,Nat.reduceAdd,D.fix,Int.reduceToNat,Nat.reduceMul,Nat.reduceBNe,Nat.reduceBEq,bR,bH,bO,aD,bE,bw]):p:=h.mpr hq
theorem ED{p q:Prop}(hq:q)(h:p=q:=by
 conv=>lhs;simp -dsimp -implicitDefEqProofs (disch:=first|assumption|omega|(simp only[aK,aT,bx]<;>omega)|decide) only[aP,↓reduceIte,Nat.reduceEqDiff,Nat.reduceAdd,D.fix,Int.reduceToNat,Nat.reduceMul,Nat.reduceBNe,Nat.reduceBEq,mz,bR,bH,bO,aD,bE,bw]):p:=h.mpr hq
theorem NJ{P:Program}{sm:List Nat}{N:Nat}{τ0 τ:Fr}{H:ak}{f:FuncId}{args:List AV}{K0 KK:AV→ak→Prop}{ks:List Nat}(S T:ak)(h:cM P ks f args S K0)(hK:∀x S',K0 x S'→S'.length=S.length∧KK x (S'++T))(hH:H=S++T:=by
 rfl) (hN:S.length≤N:=by
 exact bN rfl) (hm:sm.all (aJ ks S.length)=true:=by
 first|rfl|(simp[AV.ah,AV.allI,bc,bg,bf,aJ,aN,aY,aZ,bH,bO];done)|(intro o ho;simp at ho;done)) (hτ:∀t,(τ t).allI (aJ ks S.length)=true:=by
 exact fun t=>fU (by first|rfl|(simp[AV.ah,AV.allI,bc,bg,bf,aJ,aN,aY,aZ,bH,bO];done)|(intro o ho;simp at ho;done)) t) (h0:∀t,(τ0 t).allI (aJ ks S.length)=true:=by
 exact fun t=>fU (by first|rfl|(simp[AV.ah,AV.allI,bc,bg,bf,aJ,aN,aY,aZ,bH,bO];done)|(intro o ho;simp at ho;done)) t) (ha:AV.ah (aN S.length) args=true:=by
 first|rfl|(simp[AV.ah,AV.allI,bc,bg,bf,aJ,aN,aY,aZ,bH,bO];done)|(intro o ho;simp at ho;done)) (hS:∀o∈S,o.allI (aN S.length)=true:=by
 first|rfl|(simp[AV.ah,AV.allI,bc,bg,bf,aJ,aN,aY,aZ,bH,bO];done)|(intro o ho;simp at ho;done)) (hT:∀o∈T,o.allI (aJ ks S.length)=true:=by
 first|rfl|(simp[AV.ah,AV.allI,bc,bg,bf,aJ,aN,aY,aZ,bH,bO];done)|(intro o ho;simp at ho;done)):kE P sm N τ0 τ H (.d (.val (.func (.func f) #[] #[]))) args (tg KK):=uL h hH hN hm hτ h0 ha hS hT hK
theorem Gj(k:List Nat){m:List Nat}{τ τ1:Fr}{H H1:ak}(h:Rt m (fun t=>c7 k (τ t)) (dg k H) τ1 H1)(a:∀i∈m,k[i]? =some i:=by decide)(b:k.Nodup:=by decide)(c:∀i∈k,i<H.length:=by
 simp[eS,dg]):Rt m τ H τ1 H1:=Rt.trans (Rt.gc a b c) h
theorem Ge{m:List Nat}{τ τ':Fr}{H H':ak}(h2:H=H')(h:fm τ τ':=by
 repeat (first|exact bT _|refine bM ?_ (by first|rfl|(simp[aR,aT,bx];done)|simp[aR,aT,bx, *]))):Rt m τ H τ' H':=Rt.end h h2
theorem OD{p q r:Prop}(e:r)(hq:q)(h:r→p=q:=by
 intro hY
 conv=>lhs;simp -dsimp -implicitDefEqProofs (disch:=first|assumption|omega|(simp only[aK,aT,bx]<;>omega)|decide) only[aP,↓reduceIte,Nat.reduceEqDiff,Nat.reduceAdd,D.fix,Int.reduceToNat,Nat.reduceMul,Nat.reduceBNe,Nat.reduceBEq,bR,bH,bO,aD,bE,bw,hY]):p:=(h e).mpr hq
theorem Gd{p:Prop}(h:p:=by
 first|rfl|(simp only[cD,Nat.reduceAdd,↓reduceIte,Nat.reduceEqDiff,bR,bH,bO,aD,bE];first|done|rfl)):p:=h
theorem juc(e:BE)(gs:Gs)(μ:Mp)(x y z:Int)(h:dx e gs μ)(hx:br (aw e) gs x)(hy:br (aw e) gs y)(hz:br (aw e) gs z):cM prog [0,1,3,4,5,6,7] 183 [.op 0 0,.d (iD x),.d (iD y),.d (iD z)] (bH e gs μ) (zw e (um (aw e) gs x y z)):=by
 refine fV (fn:=f183) (by kernel_rfl) func183 rfl (bN rfl) fun c hc hp=>?_
 refine B8 ?_
 obtain⟨a,b,d,e1,e2,e3,ab,bd,hh⟩:=Pa x y z
 have hs:=jpv ab bd (yll hh)
 have hA:br (aw e) gs a:=by rcases hh with⟨rfl,rfl,rfl⟩|⟨rfl,rfl,rfl⟩|⟨rfl,rfl,rfl⟩|⟨rfl,rfl,rfl⟩|⟨rfl,rfl,rfl⟩|⟨rfl,rfl,rfl⟩<;>assumption
 have hB:br (aw e) gs b:=by rcases hh with⟨rfl,rfl,rfl⟩|⟨rfl,rfl,rfl⟩|⟨rfl,rfl,rfl⟩|⟨rfl,rfl,rfl⟩|⟨rfl,rfl,rfl⟩|⟨rfl,rfl,rfl⟩<;>assumption
 have hD:br (aw e) gs d:=by rcases hh with⟨rfl,rfl,rfl⟩|⟨rfl,rfl,rfl⟩|⟨rfl,rfl,rfl⟩|⟨rfl,rfl,rfl⟩|⟨rfl,rfl,rfl⟩|⟨rfl,rfl,rfl⟩<;>assumption
 have hd:um (aw e) gs x y z=if a=0 then du (aw e) gs b d else if a=1 then ko (aw e) gs b d else if a=b∨b=d then(gs,b)else gX (aw e) gs ⟨6,a,b,d,0⟩:=by unfold um Cy;rw[e2,e1,e3]
 clear e1 e2 e3
 refine bC hp ax hc rfl fun K1 rE=>?_
 simp -dsimp -implicitDefEqProofs (disch:=first|assumption|omega|(simp only[aK,aT,bx]<;>omega)|decide) only[aP,↓reduceIte,Nat.reduceEqDiff,Nat.reduceAdd,D.fix,Int.reduceToNat,Nat.reduceMul,Nat.reduceBNe,Nat.reduceBEq,bR,bH,bO,aD,bE]
 refine rE _ _ ?_
 refine aj (CI ·) ?_
 refine bC hp ax hc rfl fun K3 bS=>?_
 refine CI ?_
 refine yf7 (yf8 hs rfl) ?_
 refine CI ?_
 refine bS _ _ ?_
 refine aH fun K4 dD=>?_
 refine aW ?_
 refine aj (CI ·) ?_
 refine aX rfl (fun ht=>?_) (fun ht=>?_)
 ·have q:a=0:=by simpa using ht
  refine jN ax hp hc mixed rfl [(0,[]),(1,[]),(2,[]),(3,[]),(4,[]),(5,[]),(6,[]),(7,[]),(8,[])] [[],[],[1],[1,2],[],[4],[4,5],[0,1,2,3,4,5,6],[0,1,2,3,4,5,6,7]] 0 (by kernel_rfl) fun K6 cF=>?_
  refine ED ?_
  refine NJ (bH e gs μ) ([.cells [.d (iD a),.d (iD b),.d (iD d)]]) (xd e gs μ b d h hB hD) ?_
  rintro _ _ ⟨μ1,cZ,rfl,rfl⟩
  refine⟨rfl,?_⟩
  refine ED ?_
  refine cF _ _ ?_
  refine bI hp (τ':=aG [(8,.d (iD (du (aw e) gs b d).2))]) (H':=bH e (du (aw e) gs b d).1 μ1) ?_ ?_
  ·refine Gj [0,1,2,3,4,5,6,7] ?_
   refine Ge ?_
   exact Gd
  refine bh ?_
  refine c8 (t:=8) rfl ?_
  show ∃_,_
  rw[hd,if_pos q];exact⟨μ1,cZ,rfl,rfl⟩
 ·have q:a≠0:=by simpa using ht
  refine aj (CI ·) ?_
  refine aX rfl (fun ht=>?_) (fun ht=>?_)
  ·have r:a=1:=by simpa using ht
   refine jN ax hp hc mixed rfl [(0,[]),(1,[]),(2,[]),(3,[]),(4,[]),(5,[]),(6,[]),(7,[]),(8,[])] [[],[],[1],[1,2],[],[4],[4,5],[0,1,2,3,4,5,6],[0,1,2,3,4,5,6,7]] 0 (by kernel_rfl) fun K8 dC=>?_
   refine ED ?_
   refine NJ (bH e gs μ) ([.cells [.d (iD a),.d (iD b),.d (iD d)]]) (G3 e gs μ b d h hB hD) ?_
   rintro _ _ ⟨μ1,cZ,rfl,rfl⟩
   refine⟨rfl,?_⟩
   refine ED ?_
   refine dC _ _ ?_
   refine bI hp (τ':=aG [(8,.d (iD (ko (aw e) gs b d).2))]) (H':=bH e (ko (aw e) gs b d).1 μ1) ?_ ?_
   ·refine Gj [0,1,2,3,4,5,6,7] ?_
    refine Ge ?_
    exact Gd
   refine bh ?_
   refine c8 (t:=8) rfl ?_
   show ∃_,_
   rw[hd,if_neg q,if_pos r];exact⟨μ1,cZ,rfl,rfl⟩
  ·have r:a≠1:=by simpa using ht
   refine eN ax hc mixed rfl (q:=0) (by kernel_rfl) (by kernel_rfl) fun K9 cJ=>?_
   rcases(show a=b∨(a≠b∧b=d)∨(a≠b∧b≠d) by omega)with s|⟨s,u⟩|⟨s,u⟩
   ·have q1:=yi s
    have q2:=q1
    refine OD (aL q1 q2) ?_
    refine cJ _ _ ?_
    refine jW ?_
    refine aj (CI ·) ?_
    refine bI hp (τ':=aG [(8,.d (iD b))]) (H':=bH e gs μ) ?_ ?_
    ·refine Gj [0,1,2,3,4,5,6,7] ?_
     refine Ge ?_
     exact Gd
    refine bh ?_
    refine c8 (t:=8) rfl ?_
    show ∃_,_
    rw[hd,if_neg q,if_neg r,if_pos (.inl s)];exact⟨μ,h.n,rfl,rfl⟩
   ·have q1:=oH s
    have q2:=yi u
    refine OD (aL q1 q2) ?_
    refine cJ _ _ ?_
    refine jW ?_
    refine aj (CI ·) ?_
    refine bI hp (τ':=aG [(8,.d (iD b))]) (H':=bH e gs μ) ?_ ?_
    ·refine Gj [0,1,2,3,4,5,6,7] ?_
     refine Ge ?_
     exact Gd
    refine bh ?_
    refine c8 (t:=8) rfl ?_
    show ∃_,_
    rw[hd,if_neg q,if_neg r,if_pos (.inr u)];exact⟨μ,h.n,rfl,rfl⟩
   ·have q1:=oH s
    have q2:=oH u
    refine OD (aL q1 q2) ?_
    refine cJ _ _ ?_
    refine eC ?_
    refine bB (dD _ _ ?_)
    refine jN ax hp hc mixed rfl [(0,[]),(1,[]),(2,[]),(3,[]),(4,[]),(5,[]),(6,[]),(7,[]),(8,[]),(9,[]),(10,[]),(11,[]),(12,[])] [[],[],[1],[1,2],[],[4],[4,5],[],[7],[7,8],[1,2,3,4,5,6,7,8,9],[0,1,2,3,4,5,6,7,8,9,10],[0,1,2,3,4,5,6,7,8,9,10,11]] 0 (by kernel_rfl) fun nk cU=>?_
    refine ED ?_
    refine NJ (bH e gs μ) ([.cells [.d (iD a),.d (iD b),.d (iD d)]]) (B4 e gs μ ⟨6,a,b,d,0⟩ h.n (h.Fe (by decide) (by decide) hA hB hD) h.i h.l) ?_
    rintro _ _ ⟨μ2,db,rfl,rfl⟩
    refine⟨rfl,?_⟩
    refine ED ?_
    refine cU _ _ ?_
    refine bI hp (τ':=aG [(8,.d (iD (gX (aw e) gs ⟨6,a,b,d,0⟩).2))]) (H':=bH e (gX (aw e) gs ⟨6,a,b,d,0⟩).1 μ2) ?_ ?_
    ·refine Gj [0,1,2,3,4,5,6,7] ?_
     refine Ge ?_
     exact Gd
    refine bh ?_
    refine c8 (t:=8) rfl ?_
    show ∃_,_
    rw[hd,if_neg q,if_neg r,if_neg (fun hh=>by rcases hh with hh|hh;exact s hh;exact u hh)];exact⟨μ2,db,rfl,rfl⟩
end Go.Proofs.YtapjobndmmkanaaGreat
