/- netlist's builder: equality, order, complements of words. -/
import Derived.Test.YtapjobndmmkanaaGreatQr
import Derived.Test.YtapjobndmmkanaaGreatYf
import Derived.Test.YtapjobndmmkanaaGreatPl
set_option linter.unusedVariables false
set_option linter.unusedSimpArgs false
set_option maxRecDepth 100000
set_option maxHeartbeats 4000000
namespace Go.Proofs.YtapjobndmmkanaaGreat
open Go.Proofs.Tryz
open Go Go.RowKit
def eo(m:Nat)(gs:Gs)(x:List Int)(n:Nat):Prop:=∀k,k<n→br m gs (nth x k)
theorem eo.pre{m:Nat}{gs cW:Gs}{x:List Int}{n:Nat}(h:eo m gs x n)(hp:gs<+:cW):eo m cW x n:=fun k hk=>(h k hk).pre hp
theorem G2{p q:Prop}(hq:q)(h:p=q:=by
 conv=>lhs;simp -dsimp -implicitDefEqProofs (disch:=first|assumption|omega|(simp only[aK,aT,bx]<;>omega)|decide) only[aP,↓reduceIte,Nat.reduceEqDiff,Nat.reduceAdd,D.fix,Int.reduceToNat,Nat.reduceMul,Nat.reduceBNe,Nat.reduceBEq,bR,bH,bO,aD,bE]):p:=h.mpr hq
theorem Ai{p q:Prop}(hq:q)(h:p=q:=by
 conv=>lhs;simp -dsimp -implicitDefEqProofs (disch:=first|assumption|omega|(simp only[aK,aT,bx]<;>omega)|decide) only[aP,↓reduceIte,Nat.reduceEqDiff,Nat.reduceAdd,D.fix,Int.reduceToNat,Nat.reduceMul,Nat.reduceBNe,Nat.reduceBEq,bR,bH,bO,aD,bE,bw]):p:=h.mpr hq
theorem D5{m:List Nat}{τ τ':Fr}{H H':ak}(h2:H=H')(h:fm τ τ':=by
 repeat (first|exact bT _|refine bM ?_ (by first|rfl|(simp[aR,aT,bx];done)|simp[aR,aT,bx, *]))):Rt m τ H τ' H':=Rt.end h h2
theorem yW{p q:Prop}(hq:q)(h:p=q:=by
 conv=>lhs;simp -dsimp -implicitDefEqProofs (disch:=first|assumption|omega|(simp only[aK,aT,bx]<;>omega)|decide) only[aP,↓reduceIte,Nat.reduceEqDiff,Nat.reduceAdd,D.fix,Int.reduceToNat,Nat.reduceMul,Nat.reduceBNe,Nat.reduceBEq,bR,bH,bO,aD,bE,dm,bw]):p:=h.mpr hq
theorem D4{P:Program}{sm:List Nat}{N:Nat}{τ:Fr}{H:ak}{f:FuncId}{args:List AV}{K0 KK:AV→ak→Prop}{ks:List Nat}(S T:ak)(h:cM P ks f args S K0)(hK:∀x S',K0 x S'→S'.length=S.length∧KK x (S'++T))(hH:H=S++T:=by
 rfl) (hm:sm.all (aJ ks S.length)=true:=by
 first|rfl|(simp[AV.ah,AV.allI,bc,bg,bf,aJ,aN,aY,aZ,bH,bO];done)|(intro o ho;simp at ho;done)) (hτ:∀t,(τ t).allI (aJ ks S.length)=true:=by
 exact fun t=>fU (by first|rfl|(simp[AV.ah,AV.allI,bc,bg,bf,aJ,aN,aY,aZ,bH,bO];done)|(intro o ho;simp at ho;done)) t) (ha:AV.ah (aN S.length) args=true:=by
 first|rfl|(simp[AV.ah,AV.allI,bc,bg,bf,aJ,aN,aY,aZ,bH,bO];done)|(intro o ho;simp at ho;done)) (hS:∀o∈S,o.allI (aN S.length)=true:=by
 first|rfl|(simp[AV.ah,AV.allI,bc,bg,bf,aJ,aN,aY,aZ,bH,bO];done)|(intro o ho;simp at ho;done)) (hT:∀o∈T,o.allI (aJ ks S.length)=true:=by
 first|rfl|(simp[AV.ah,AV.allI,bc,bg,bf,aJ,aN,aY,aZ,bH,bO];done)|(intro o ho;simp at ho;done)):kC P sm N H τ (.d (.val (.func (.func f) #[] #[]))) args true (tg KK):=r7 h hH hm hτ ha hS hT hK
theorem J5(k:List Nat){m:List Nat}{τ τ1:Fr}{H H1:ak}(h:Rt m (fun t=>c7 k (τ t)) (dg k H) τ1 H1)(a:∀i∈m,k[i]? =some i:=by decide)(b:k.Nodup:=by decide)(c:∀i∈k,i<H.length:=by
 simp[eS,dg]):Rt m τ H τ1 H1:=Rt.trans (Rt.gc a b c) h
theorem J4{p q:Prop}(hq:q)(h:p=q:=by
 conv=>lhs;simp only[cD,Nat.reduceAdd,↓reduceIte,Nat.reduceEqDiff,bR,bH,bO,aD,bE]):p:=h.mpr hq
theorem Wu{p:Prop}(h:p:=by
 first|rfl|(simp only[cD,Nat.reduceAdd,↓reduceIte,Nat.reduceEqDiff,bR,bH,bO,aD,bE];first|done|rfl)):p:=h
theorem jpw(e:BE)(gs:Gs)(μ:Mp)(x y:List Int)(h:dx e gs μ)(hx:eo (aw e) gs x x.length)(hy:eo (aw e) gs y x.length)(qm:y.length=x.length)(hl:gs.length+3*x.length≤100000):cM prog [0,1,3,4,5,6,7] 149 [.op 0 0,.d (av x),.d (av y)] (bH e gs μ) (zw e (nR (aw e) gs x y x.length)):=by
 refine fV (fn:=f149) (by kernel_rfl) func149 rfl (bN rfl) fun c hc hp=>?_
 refine vY ?_
 refine aj (G2 ·) ?_
 refine aj (G2 ·) ?_
 refine aH fun K3 bS=>?_
 refine aj (Ai ·) ?_
 refine aW ?_
 refine c9 hp (fun τ' H' mm=>∃(k:Nat) (μ1:Mp),(k≤x.length∧ic (aw e) (nR (aw e) gs x y k).1 μ1)∧mm=x.length - k∧H'=bH e (nR (aw e) gs x y k).1 μ1∧τ'=aG [(0,.op 0 0),(2,.d (av y)),(7,.d (iD (nR (aw e) gs x y k).2)),(10,.d (av x)),(11,.d (iD x.length)),(12,.d (iD k))]) (x.length) ?_ ⟨0,μ,⟨cy _,h.n⟩,rfl,rfl,rfl⟩ ?_
 ·refine D5 ?_
  refine J4 ?_;rfl
 rintro τ' H' mm ⟨k,μ1,⟨hk,cZ⟩,rfl,rfl,rfl⟩
 have hr:=Ln nw h.g hx hy k hk
 have dY:nR (aw e) gs x y (k+1)=du (aw e) (dW (aw e) (iq (aw e) (nR (aw e) gs x y k).1 (nth x k) (nth y k)).1 (iq (aw e) (nR (aw e) gs x y k).1 (nth x k) (nth y k)).2).1 (nR (aw e) gs x y k).2 (dW (aw e) (iq (aw e) (nR (aw e) gs x y k).1 (nth x k) (nth y k)).1 (iq (aw e) (nR (aw e) gs x y k).1 (nth x k) (nth y k)).2).2:=rfl
 have jS:k=x.length→nR (aw e) gs x y x.length=nR (aw e) gs x y k:=fun e=>by rw[←e]
 generalize nR (aw e) gs x y k=s at *
 refine aj (Ai ·) ?_
 refine aH fun K6 cF=>?_
 refine aX rfl (fun ht=>?_) (fun ht=>?_)
 ·have aA:k<x.length:=by simp at ht;omega
  have tz:k<y.length:=by omega
  have h1:=h.next hr cZ (by omega)
  have jR:=hr.len
  have ra:=w7 nw h1.g ((hx k aA).pre hr.pre) ((hy k aA).pre hr.pre)
  have ral:=ra.len
  refine bB (cF _ _ ?_)
  refine aH fun K7 de=>?_
  refine aW ?_
  refine aj (yW ·) ?_
  refine bA hp ax hc rfl fun K9 cJ=>?_
  refine yW ?_
  refine D4 (bH e s.1 μ1) ([]) (LG e s.1 μ1 (nth x k) (nth y k) h1 ((hx k aA).pre hr.pre) ((hy k aA).pre hr.pre)) ?_
  rintro _ _ ⟨μ2,db,rfl,rfl⟩
  refine⟨rfl,?_⟩
  have h2:=h1.next ra db (by omega)
  have rb:=oL nw h2.g ra.nd
  have rbl:=rb.len
  refine yW ?_
  refine D4 (bH e (iq (aw e) s.1 (nth x k) (nth y k)).1 μ2) ([]) (As e _ μ2 _ h2 ra.nd) ?_
  rintro _ _ ⟨μ3,nK,rfl,rfl⟩
  refine⟨rfl,?_⟩
  have h3:=h2.next rb nK (by omega)
  refine yW ?_
  refine D4 (bH e (dW (aw e) (iq (aw e) s.1 (nth x k) (nth y k)).1 (iq (aw e) s.1 (nth x k) (nth y k)).2).1 μ3) ([]) (xd e _ μ3 s.2 _ h3 (hr.nd.pre (ra.pre.trans rb.pre)) rb.nd) ?_
  rintro _ _ ⟨μ4,qo,rfl,rfl⟩
  refine⟨rfl,?_⟩
  refine yW ?_
  refine cJ _ _ (de _ _ ?_)
  refine bA hp ax hc rfl fun kL bU=>?_
  refine Ai ?_
  refine bU _ _ ⟨_,_,_,?_,⟨k+1,μ4,⟨by omega,by rw[dY];exact qo⟩,rfl,rfl,rfl⟩,?_⟩
  ·first|omega|(simp only[List.length_cons];omega)|(dsimp only;omega)
  ·refine J5 [0,1,2,3,4,5,6,7] ?_
   refine D5 ?_
   refine J4 ?_;rw[dY]
 ·have cf:k=x.length:=by simp at ht;omega
  refine cL (bS _ _ ?_)
  refine aj (G2 ·) ?_
  refine bI hp (τ':=aG [(6,.d (iD s.2))]) (H':=bH e s.1 μ1) ?_ ?_
  ·refine J5 [0,1,2,3,4,5,6,7] ?_
   refine D5 ?_
   exact Wu
  refine bh ?_
  refine c8 (t:=6) rfl ?_
  show ∃_,_
  rw[jS cf];exact⟨μ1,cZ,rfl,rfl⟩
theorem jxg(e:BE)(gs:Gs)(μ:Mp)(x y:List Int)(h:dx e gs μ)(hx:eo (aw e) gs x x.length)(hy:eo (aw e) gs y x.length)(qm:y.length=x.length)(hl:gs.length+3*x.length≤99999):cM prog [0,1,3,4,5,6,7] 150 [.op 0 0,.d (av x),.d (av y)] (bH e gs μ) (zw e (dW (aw e) (nJ (aw e) gs x y x.length).1 (nJ (aw e) gs x y x.length).2)):=by
 refine fV (fn:=f150) (by kernel_rfl) func150 rfl (bN rfl) fun c hc hp=>?_
 refine vY ?_
 refine aj (G2 ·) ?_
 refine aj (G2 ·) ?_
 refine aH fun K3 bS=>?_
 refine aj (Ai ·) ?_
 refine aW ?_
 refine c9 hp (fun τ' H' mm=>∃(k:Nat) (μ1:Mp),(k≤x.length∧ic (aw e) (nJ (aw e) gs x y k).1 μ1)∧mm=x.length - k∧H'=bH e (nJ (aw e) gs x y k).1 μ1∧τ'=aG [(0,.op 0 0),(2,.d (av y)),(7,.d (iD (nJ (aw e) gs x y k).2)),(10,.d (av x)),(11,.d (iD x.length)),(12,.d (iD k))]) (x.length) ?_ ⟨0,μ,⟨cy _,h.n⟩,rfl,rfl,rfl⟩ ?_
 ·refine D5 ?_
  refine J4 ?_;rfl
 rintro τ' H' mm ⟨k,μ1,⟨hk,cZ⟩,rfl,rfl,rfl⟩
 have hr:=Hg nw h.g hx hy k hk
 have dY:nJ (aw e) gs x y (k+1)=um (aw e) (dW (aw e) (nJ (aw e) gs x y k).1 (nth y k)).1 (nth x k) (dW (aw e) (nJ (aw e) gs x y k).1 (nth y k)).2 (nJ (aw e) gs x y k).2:=rfl
 have jS:k=x.length→nJ (aw e) gs x y x.length=nJ (aw e) gs x y k:=fun e=>by rw[←e]
 generalize nJ (aw e) gs x y k=s at *
 have h1:=h.next hr cZ (by omega)
 have jR:=hr.len
 refine aj (Ai ·) ?_
 refine aH fun K6 cF=>?_
 refine aX rfl (fun ht=>?_) (fun ht=>?_)
 ·have aA:k<x.length:=by simp at ht;omega
  have tz:k<y.length:=by omega
  have rb:=oL nw h1.g ((hy k aA).pre hr.pre)
  have rbl:=rb.len
  refine bB (cF _ _ ?_)
  refine aH fun K7 de=>?_
  refine aW ?_
  refine aj (yW ·) ?_
  refine bA hp ax hc rfl fun K9 cJ=>?_
  refine yW ?_
  refine D4 (bH e s.1 μ1) ([]) (As e s.1 μ1 (nth y k) h1 ((hy k aA).pre hr.pre)) ?_
  rintro _ _ ⟨μ3,nK,rfl,rfl⟩
  refine⟨rfl,?_⟩
  have h3:=h1.next rb nK (by omega)
  refine yW ?_
  refine D4 (bH e (dW (aw e) s.1 (nth y k)).1 μ3) ([]) (juc e _ μ3 (nth x k) _ s.2 h3 ((hx k aA).pre (hr.pre.trans rb.pre)) rb.nd (hr.nd.pre rb.pre)) ?_
  rintro _ _ ⟨μ4,qo,rfl,rfl⟩
  refine⟨rfl,?_⟩
  refine yW ?_
  refine cJ _ _ (de _ _ ?_)
  refine bA hp ax hc rfl fun kL bU=>?_
  refine Ai ?_
  refine bU _ _ ⟨_,_,_,?_,⟨k+1,μ4,⟨by omega,by rw[dY];exact qo⟩,rfl,rfl,rfl⟩,?_⟩
  ·first|omega|(simp only[List.length_cons];omega)|(dsimp only;omega)
  ·refine J5 [0,1,2,3,4,5,6,7] ?_
   refine D5 ?_
   refine J4 ?_;rw[dY]
 ·have cf:k=x.length:=by simp at ht;omega
  refine cL (bS _ _ ?_)
  refine bC hp ax hc rfl fun lz cm=>?_
  refine Ai ?_
  refine D4 (bH e s.1 μ1) ([]) (As e s.1 μ1 s.2 h1 hr.nd) ?_
  rintro _ _ ⟨μ3,nK,rfl,rfl⟩
  refine⟨rfl,?_⟩
  refine Ai ?_
  refine cm _ _ ?_
  refine bI hp (τ':=aG [(6,.d (iD (dW (aw e) s.1 s.2).2))]) (H':=bH e (dW (aw e) s.1 s.2).1 μ3) ?_ ?_
  ·refine J5 [0,1,2,3,4,5,6,7] ?_
   refine D5 ?_
   exact Wu
  refine bh ?_
  refine c8 (t:=6) rfl ?_
  show ∃_,_
  rw[jS cf];exact⟨μ3,nK,rfl,rfl⟩
def vf(e:BE)(X:ak)(r:Re)(x:AV)(S':ak):Prop:=∃μ,ic (aw e) r.1 μ∧x= .d (iD r.2)∧S'=bH e r.1 μ++X
def bP:bq:=.cells [.op 0 0]
theorem G1{p q:Prop}(hq:q)(h:p=q:=by
 conv=>lhs;simp -dsimp -implicitDefEqProofs (disch:=first|assumption|omega|(simp only[aK,aT,bx]<;>omega)|decide) only[aP,↓reduceIte,Nat.reduceEqDiff,Nat.reduceAdd,D.fix,Int.reduceToNat,Nat.reduceMul,Nat.reduceBNe,Nat.reduceBEq,bR,bH,bO,aD,bE,bP,List.cons_append,List.nil_append,bw]):p:=h.mpr hq
theorem Wt{P:Program}{sm:List Nat}{N:Nat}{τ:Fr}{H:ak}{f:FuncId}{args:List AV}{K0 KK:AV→ak→Prop}{ks:List Nat}(S T:ak)(h:cM P ks f args S K0)(hK:∀x S',K0 x S'→S'.length=S.length∧KK x (S'++T))(hH:H=S++T:=by
 rfl) (hm:sm.all (aJ ks S.length)=true:=by
 first|rfl|(simp[AV.ah,AV.allI,bc,bg,bf,aJ,aN,aY,aZ,bH,bO,bP];done)|(intro o ho;simp at ho;done)) (hτ:∀t,(τ t).allI (aJ ks S.length)=true:=by
 exact fun t=>fU (by first|rfl|(simp[AV.ah,AV.allI,bc,bg,bf,aJ,aN,aY,aZ,bH,bO,bP];done)|(intro o ho;simp at ho;done)) t) (ha:AV.ah (aN S.length) args=true:=by
 first|rfl|(simp[AV.ah,AV.allI,bc,bg,bf,aJ,aN,aY,aZ,bH,bO,bP];done)|(intro o ho;simp at ho;done)) (hS:∀o∈S,o.allI (aN S.length)=true:=by
 first|rfl|(simp[AV.ah,AV.allI,bc,bg,bf,aJ,aN,aY,aZ,bH,bO,bP];done)|(intro o ho;simp at ho;done)) (hT:∀o∈T,o.allI (aJ ks S.length)=true:=by
 first|rfl|(simp[AV.ah,AV.allI,bc,bg,bf,aJ,aN,aY,aZ,bH,bO,bP];done)|(intro o ho;simp at ho;done)):kC P sm N H τ (.d (.val (.func (.func f) #[] #[]))) args true (tg KK):=r7 h hH hm hτ ha hS hT hK
theorem J3(k:List Nat){m:List Nat}{τ τ1:Fr}{H H1:ak}(h:Rt m (fun t=>c7 k (τ t)) (dg k H) τ1 H1)(a:∀i∈m,k[i]? =some i:=by decide)(b:k.Nodup:=by decide)(c:∀i∈k,i<H.length:=by
 simp[eS,dg]):Rt m τ H τ1 H1:=Rt.trans (Rt.gc a b c) h
theorem Gc{m:List Nat}{τ τ':Fr}{H H':ak}(h2:H=H')(h:fm τ τ':=by
 repeat (first|exact bT _|refine bM ?_ (by first|rfl|(simp[aR,aT,bx];done)|simp[aR,aT,bx, *]))):Rt m τ H τ' H':=Rt.end h h2
theorem Ws{p:Prop}(h:p:=by
 first|rfl|(simp only[cD,Nat.reduceAdd,↓reduceIte,Nat.reduceEqDiff,bR,bH,bO,aD,bE,bP,List.cons_append,List.nil_append];first|done|rfl)):p:=h
theorem jpx(e:BE)(gs:Gs)(μ:Mp)(i x:Int)(h:dx e gs μ)(hx:br (aw e) gs x):cM prog [0,1,3,4,5,6,7,8] 181 [.d (iD i),.d (iD x),.op 8 0] (bH e gs μ++[bP]) (vf e [bP] (dW (aw e) gs x)):=by
 refine fV (fn:=f181) (by kernel_rfl) func181 rfl (bN rfl) fun c hc hp=>?_
 refine vY ?_
 unfold bH bP
 refine bC hp ax hc rfl fun K1 rE=>?_
 simp -dsimp -implicitDefEqProofs (disch:=first|assumption|omega|(simp only[aK,aT,bx]<;>omega)|decide) only[aP,↓reduceIte,Nat.reduceEqDiff,Nat.reduceAdd,D.fix,Int.reduceToNat,Nat.reduceMul,Nat.reduceBNe,Nat.reduceBEq,bR,bH,bO,aD,bE,bP,List.cons_append,List.nil_append]
 refine rE _ _ ?_
 refine bC hp ax hc rfl fun K2 bG=>?_
 refine G1 ?_
 refine Wt (bH e gs μ) ([bP]) (As e gs μ x h hx) ?_
 rintro _ _ ⟨μ1,cZ,rfl,rfl⟩
 refine⟨rfl,?_⟩
 refine G1 ?_
 refine bG _ _ ?_
 refine bI hp (τ':=aG [(5,.d (iD (dW (aw e) gs x).2))]) (H':=bH e (dW (aw e) gs x).1 μ1++[bP]) ?_ ?_
 ·refine J3 [0,1,2,3,4,5,6,7,8] ?_
  refine Gc ?_
  exact Ws
 refine bh ?_
 refine c8 (t:=5) rfl ?_
 show ∃_,_
 exact⟨μ1,cZ,rfl,rfl⟩
def n8(m:Nat)(gs:Gs)(x:List Int)(k:Nat):Gs × List Int:=dh (fun gs i=>dW m gs (nth x i)) gs k
theorem jmj{m:Nat}{gs:Gs}{x:List Int}{k:Nat}:n8 m gs x (k+1)=((dW m (n8 m gs x k).1 (nth x k)).1,(n8 m gs x k).2++[(dW m (n8 m gs x k).1 (nth x k)).2]):=rfl
theorem jmk{m:Nat}{gs:Gs}{x:List Int}{n k:Nat}(h2:2≤m)(h:GI m gs)(hx:eo m gs x n)(hk:k≤n):Bs m (1*k) k gs (n8 m gs x k):=nB h fun j hj cW hp hg=>oL h2 hg ((hx j (by omega)).pre hp)
def zu(e:BE)(X:ak)(r:Gs × List Int)(x:AV)(S':ak):Prop:=∃μ,ic (aw e) r.1 μ∧x= .d (av r.2)∧S'=bH e r.1 μ++X
theorem X2{p q:Prop}(hq:q)(h:p=q:=by
 conv=>lhs;simp -dsimp -implicitDefEqProofs (disch:=first|assumption|omega|(simp only[aK,aT,bx]<;>omega)|decide) only[aP,↓reduceIte,Nat.reduceEqDiff,Nat.reduceAdd,D.fix,Int.reduceToNat,Nat.reduceMul,Nat.reduceBNe,Nat.reduceBEq,bR,bH,bO,aD,bE,cB,List.cons_append,List.nil_append,bP]):p:=h.mpr hq
theorem EC{p q:Prop}(hq:q)(h:p=q:=by
 conv=>lhs;simp -dsimp -implicitDefEqProofs (disch:=first|assumption|omega|(simp only[aK,aT,bx]<;>omega)|decide) only[aP,↓reduceIte,Nat.reduceEqDiff,Nat.reduceAdd,D.fix,Int.reduceToNat,Nat.reduceMul,Nat.reduceBNe,Nat.reduceBEq,bR,bH,bO,aD,bE,cB,List.cons_append,List.nil_append,bP,bw]):p:=h.mpr hq
theorem Wr{p q:Prop}(hq:q)(h:p=q:=by
 conv=>lhs;simp only[cD,Nat.reduceAdd,↓reduceIte,Nat.reduceEqDiff,bR,bH,bO,aD,bE,cB,List.cons_append,List.nil_append,bP]):p:=h.mpr hq
theorem jml(e:BE)(gs:Gs)(μ:Mp)(x:List Int)(h:dx e gs μ)(hx:eo (aw e) gs x x.length)(hl:gs.length+x.length≤100000)(vq:x.length≤1000):cM prog [0,1,3,4,5,6,7,8] 138 [.d (av x),.dk (.func 181) [] [.op 8 0]] (bH e gs μ++[bP]) (zu e [bP] (n8 (aw e) gs x x.length)):=by
 refine fV (fn:=f138) (by kernel_rfl) func138 rfl (bN rfl) fun c hc hp=>?_
 refine oc ?_
 unfold bH bP
 refine aj (X2 ·) ?_
 refine aj (EC ·) ?_
 refine aH fun K3 bS=>?_
 refine aj (EC ·) ?_
 refine aW ?_
 refine c9 hp (fun τ' H' mm=>∃(k:Nat) (μ1:Mp),(k≤x.length∧ic (aw e) (n8 (aw e) gs x k).1 μ1)∧mm=x.length - k∧H'=bH e (n8 (aw e) gs x k).1 μ1++[bP,cB (n8 (aw e) gs x k).2 x.length]∧τ'=aG [(1,.dk (.func 181) [] [.op 8 0]),(5,.os 1 9 0 x.length),(11,.d (av x)),(12,.d (iD x.length)),(13,.d (iD k))]) (x.length) ?_ ⟨0,μ,⟨cy _,h.n⟩,rfl,rfl,rfl⟩ ?_
 ·refine Gc ?_
  refine Wr ?_;simp[dh,cB,bH,bO,aD,iD,au,bP,n8]
 rintro τ' H' mm ⟨k,μ1,⟨hk,cZ⟩,rfl,rfl,rfl⟩
 have hb:=jmk nw h.g hx hk
 have dY:=@jmj (aw e) gs x k
 have jS:k=x.length→n8 (aw e) gs x x.length=n8 (aw e) gs x k:=fun e=>by rw[←e]
 generalize n8 (aw e) gs x k=s at *
 have hw:=hb.wid
 have pC:=hb.len
 have h1:dx e s.1 μ1:=⟨cZ,hb.gi,h.i,by have:=h.l;omega⟩
 refine aj (EC ·) ?_
 refine aH fun K6 cF=>?_
 refine aX rfl (fun ht=>?_) (fun ht=>?_)
 ·have aA:k<x.length:=by simp at ht;omega
  have cu:=xf hw aA (dW (aw e) s.1 (nth x k)).2
  refine bB (cF _ _ ?_)
  refine aH fun K7 de=>?_
  refine aW ?_
  refine bC hp ax hc rfl fun K8 dC=>?_
  simp -dsimp -implicitDefEqProofs (disch:=first|assumption|omega|(simp only[aK,aT,bx]<;>omega)|decide) only[aP,↓reduceIte,Nat.reduceEqDiff,Nat.reduceAdd,D.fix,Int.reduceToNat,Nat.reduceMul,Nat.reduceBNe,Nat.reduceBEq,bR,bH,bO,aD,bE,cB,List.cons_append,List.nil_append,bP,dm,bw]
  refine dC _ _ ?_
  refine bA hp ax hc rfl fun K9 cJ=>?_
  refine EC ?_
  refine Aw (S:=bH e s.1 μ1++[bP]) (T:=[cB s.2 x.length]) (jpx e s.1 μ1 k (nth x k) h1 ((hx k aA).pre hb.pre)) rfl (by first|rfl|(simp[AV.ah,AV.allI,bc,bg,bf,aJ,aN,aY,aZ,bH,bO,cB,bP];done)|(intro o ho;simp at ho;done)) (fun t=>fU (by first|rfl|(simp[AV.ah,AV.allI,bc,bg,bf,aJ,aN,aY,aZ,bH,bO,cB,bP];done)|(intro o ho;simp at ho;done)) t) (by first|rfl|(simp[AV.ah,AV.allI,bc,bg,bf,aJ,aN,aY,aZ,bH,bO,cB,bP];done)|(intro o ho;simp at ho;done)) (by first|rfl|(simp[AV.ah,AV.allI,bc,bg,bf,aJ,aN,aY,aZ,bH,bO,cB,bP];done)|(intro o ho;simp at ho;done)) (by first|rfl|(simp[AV.ah,AV.allI,bc,bg,bf,aJ,aN,aY,aZ,bH,bO,cB,bP];done)|(intro o ho;simp at ho;done)) ?_
  rintro _ _ ⟨μ2,db,rfl,rfl⟩
  refine⟨rfl,?_⟩
  refine EC ?_
  refine cJ _ _ (de _ _ ?_)
  refine bA hp ax hc rfl fun kL bU=>?_
  refine EC ?_
  refine bU _ _ ⟨_,_,_,?_,⟨k+1,μ2,⟨by omega,by rw[dY];exact db⟩,rfl,rfl,rfl⟩,?_⟩
  ·first|omega|(simp only[List.length_cons];omega)|(dsimp only;omega)
  ·refine J3 [0,1,2,3,4,5,6,7,8,9] ?_
   refine Gc ?_
   refine Wr ?_;rw[dY];dsimp only;rw[←cu];simp[bH,bO,aD,au,bP,n8]
 ·have cf:k=x.length:=by simp at ht;omega
  have hz:s.2++List.replicate (x.length - s.2.length) (0:Int)=s.2:=by rw[hw,cf,Nat.sub_self];simp
  rw[hz]
  refine cL (bS _ _ ?_)
  refine aj (X2 ·) ?_
  refine bI hp (τ':=aG [(4,.d (.fs (s.2.map iD) x.length))]) (H':=bH e s.1 μ1++[bP]) ?_ ?_
  ·refine Rt.trans (Rt.fz (id:=9) (l:=(s.2.map iD)) rfl) ?_
   refine Rt.trans (Rt.slot 4 (qL (iN (by simp[hw,cf])))) ?_
   refine J3 [0,1,2,3,4,5,6,7,8] ?_
   refine Gc ?_
   first|rfl|(simp only[cD,Nat.reduceAdd,↓reduceIte,Nat.reduceEqDiff,bR,bH,bO,aD,bE,cB,List.cons_append,List.nil_append,bP];first|done|rfl)
  refine bh ?_
  refine c8 (t:=4) rfl ?_
  show ∃_,_
  rw[jS cf];exact⟨μ1,cZ,by show AV.d (.fs (s.2.map iD) x.length)= .d (.fs (s.2.map iD) s.2.length);rw[hw,cf],rfl⟩
theorem jfb(e:BE)(gs:Gs)(μ:Mp)(x:List Int)(h:dx e gs μ)(hx:eo (aw e) gs x x.length)(hl:gs.length+x.length≤100000)(vq:x.length≤1000):cM prog [0,1,3,4,5,6,7] 147 [.op 0 0,.d (av x)] (bH e gs μ) (Gh e (n8 (aw e) gs x x.length)):=by
 refine fV (fn:=f147) (by kernel_rfl) func147 rfl (bN rfl) fun c hc hp=>?_
 refine oc ?_
 refine aj (G1 ·) ?_
 refine bC hp ax hc rfl fun K2 bG=>?_
 refine G1 ?_
 refine Wt (bH e gs μ++[bP]) ([]) (jml e gs μ x h hx hl vq) ?_
 rintro _ _ ⟨μ1,cZ,rfl,rfl⟩
 refine⟨rfl,?_⟩
 refine G1 ?_
 refine bG _ _ ?_
 refine bI hp (τ':=aG [(4,.d (av (n8 (aw e) gs x x.length).2))]) (H':=bH e (n8 (aw e) gs x x.length).1 μ1) ?_ ?_
 ·refine J3 [0,1,2,3,4,5,6,7] ?_
  refine Gc ?_
  exact Ws
 refine bh ?_
 refine c8 (t:=4) rfl ?_
 show ∃_,_
 exact⟨μ1,cZ,rfl,rfl⟩
def Gb(m:Nat)(x y:List Int)(k:Nat)(s:Sm):Sm:=
 let a:=iq m s.gs (nth x k) (nth y k)
 let b:=iq m a.1 a.2 s.c
 if k+1<x.length then(let d:=um m b.1 (nth x k) (nth y k) s.c;⟨d.1,d.2,s.l++[b.2]⟩)else⟨b.1,s.c,s.l++[b.2]⟩
theorem jp0{m:Nat}{gs:Gs}{x y:List Int}{c:Int}{k:Nat}:gO m gs x y c (k+1)=Gb m x y k (gO m gs x y c k):=rfl
def Ga(m:Nat)(x y:List Int)(k:Nat)(s:Sm):Int:=(iq m (iq m s.gs (nth x k) (nth y k)).1 (iq m s.gs (nth x k) (nth y k)).2 s.c).2
theorem ygh{m:Nat}{x y:List Int}{k:Nat}{s:Sm}:(Gb m x y k s).l=s.l++[Ga m x y k s]:=by
 unfold Gb Ga;dsimp only;split<;>rfl
def iu(x y:List Int)(q:Int):ak:=[bP,.cells [.d (av x)],.cells [.d (av y)],.cells [.d (iD q)]]
def SmK(e:BE)(x y:List Int)(r:Sm)(v:Int)(z:AV)(S':ak):Prop:=∃μ,ic (aw e) r.gs μ∧z= .d (iD v)∧S'=bH e r.gs μ++iu x y r.c
theorem OC{p q:Prop}(hq:q)(h:p=q:=by
 conv=>lhs;simp -dsimp -implicitDefEqProofs (disch:=first|assumption|omega|(simp only[aK,aT,bx]<;>omega)|decide) only[aP,↓reduceIte,Nat.reduceEqDiff,Nat.reduceAdd,D.fix,Int.reduceToNat,Nat.reduceMul,Nat.reduceBNe,Nat.reduceBEq,bR,bH,bO,aD,bE,bP,iu,List.cons_append,List.nil_append]):p:=h.mpr hq
theorem G0{p q:Prop}(hq:q)(h:p=q:=by
 conv=>lhs;simp -dsimp -implicitDefEqProofs (disch:=first|assumption|omega|(simp only[aK,aT,bx]<;>omega)|decide) only[aP,↓reduceIte,Nat.reduceEqDiff,Nat.reduceAdd,D.fix,Int.reduceToNat,Nat.reduceMul,Nat.reduceBNe,Nat.reduceBEq,mz,bR,bH,bO,aD,bE,bP,iu,List.cons_append,List.nil_append,dm,bw]):p:=h.mpr hq
theorem NI{P:Program}{sm:List Nat}{N:Nat}{τ0 τ:Fr}{H:ak}{f:FuncId}{args:List AV}{K0 KK:AV→ak→Prop}{ks:List Nat}(S T:ak)(h:cM P ks f args S K0)(hK:∀x S',K0 x S'→S'.length=S.length∧KK x (S'++T))(hH:H=S++T:=by
 rfl) (hN:S.length≤N:=by
 exact bN rfl) (hm:sm.all (aJ ks S.length)=true:=by
 first|rfl|(simp[AV.ah,AV.allI,bc,bg,bf,aJ,aN,aY,aZ,bH,bO,bP,iu];done)|(intro o ho;simp at ho;done)) (hτ:∀t,(τ t).allI (aJ ks S.length)=true:=by
 exact fun t=>fU (by first|rfl|(simp[AV.ah,AV.allI,bc,bg,bf,aJ,aN,aY,aZ,bH,bO,bP,iu];done)|(intro o ho;simp at ho;done)) t) (h0:∀t,(τ0 t).allI (aJ ks S.length)=true:=by
 exact fun t=>fU (by first|rfl|(simp[AV.ah,AV.allI,bc,bg,bf,aJ,aN,aY,aZ,bH,bO,bP,iu];done)|(intro o ho;simp at ho;done)) t) (ha:AV.ah (aN S.length) args=true:=by
 first|rfl|(simp[AV.ah,AV.allI,bc,bg,bf,aJ,aN,aY,aZ,bH,bO,bP,iu];done)|(intro o ho;simp at ho;done)) (hS:∀o∈S,o.allI (aN S.length)=true:=by
 first|rfl|(simp[AV.ah,AV.allI,bc,bg,bf,aJ,aN,aY,aZ,bH,bO,bP,iu];done)|(intro o ho;simp at ho;done)) (hT:∀o∈T,o.allI (aJ ks S.length)=true:=by
 first|rfl|(simp[AV.ah,AV.allI,bc,bg,bf,aJ,aN,aY,aZ,bH,bO,bP,iu];done)|(intro o ho;simp at ho;done)):kE P sm N τ0 τ H (.d (.val (.func (.func f) #[] #[]))) args (tg KK):=uL h hH hN hm hτ h0 ha hS hT hK
theorem Lg{p q:Prop}(hq:q)(h:p=q:=by
 conv=>lhs;simp -dsimp -implicitDefEqProofs (disch:=first|assumption|omega|(simp only[aK,aT,bx]<;>omega)|decide) only[aP,↓reduceIte,Nat.reduceEqDiff,Nat.reduceAdd,D.fix,Int.reduceToNat,Nat.reduceMul,Nat.reduceBNe,Nat.reduceBEq,bR,bH,bO,aD,bE,bP,iu,List.cons_append,List.nil_append,bw]):p:=h.mpr hq
theorem F9(k:List Nat){m:List Nat}{τ τ1:Fr}{H H1:ak}(h:Rt m (fun t=>c7 k (τ t)) (dg k H) τ1 H1)(a:∀i∈m,k[i]? =some i:=by decide)(b:k.Nodup:=by decide)(c:∀i∈k,i<H.length:=by
 simp[eS,dg]):Rt m τ H τ1 H1:=Rt.trans (Rt.gc a b c) h
theorem Ew{m:List Nat}{τ τ':Fr}{H H':ak}(h2:H=H')(h:fm τ τ':=by
 repeat (first|exact bT _|refine bM ?_ (by first|rfl|(simp[aR,aT,bx];done)|simp[aR,aT,bx, *]))):Rt m τ H τ' H':=Rt.end h h2
theorem NH{p:Prop}(h:p:=by
 first|rfl|(simp only[cD,Nat.reduceAdd,↓reduceIte,Nat.reduceEqDiff,bR,bH,bO,aD,bE,bP,iu,List.cons_append,List.nil_append];first|done|rfl)):p:=h
theorem jxj(e:BE)(μ:Mp)(x y:List Int)(k:Nat)(s:Sm)(h:dx e s.gs μ)(hk:k<x.length)(hky:k<y.length)(hx:br (aw e) s.gs (nth x k))(hy:br (aw e) s.gs (nth y k))(hq:br (aw e) s.gs s.c)(hl:s.gs.length+3≤100000)(vq:x.length≤1000):cM prog [0,1,3,4,5,6,7,8,9,10,11] 182 [.d (iD k),.d (iD (nth x k)),.op 8 0,.op 10 0,.op 11 0,.op 9 0] (bH e s.gs μ++iu x y s.c) (SmK e x y (Gb (aw e) x y k s) (Ga (aw e) x y k s)):=by
 refine fV (fn:=f182) (by kernel_rfl) func182 rfl (bN rfl) fun c hc hp=>?_
 refine jw9 ?_
 unfold bH iu bP
 obtain⟨A,eA⟩:∃A,A=iq (aw e) s.gs (nth x k) (nth y k):=⟨_,rfl⟩
 obtain⟨B,eB⟩:∃B,B=iq (aw e) A.1 A.2 s.c:=⟨_,rfl⟩
 obtain⟨M,eM⟩:∃M,M=um (aw e) B.1 (nth x k) (nth y k) s.c:=⟨_,rfl⟩
 have hR:Gb (aw e) x y k s=if k+1<x.length then⟨M.1,M.2,s.l++[B.2]⟩else⟨B.1,s.c,s.l++[B.2]⟩:=by rw[eM,eB,eA];rfl
 have hV:Ga (aw e) x y k s=B.2:=by rw[eB,eA];rfl
 have c1:=LG e s.gs μ (nth x k) (nth y k) h hx hy
 have r1:=w7 nw h.g hx hy
 rw[←eA]at c1 r1
 have l1:=r1.len
 refine aj (OC ·) ?_
 refine jN ax hp hc mixed rfl [(0,[]),(1,[]),(2,[]),(3,[]),(4,[]),(5,[]),(6,[]),(8,[]),(7,[0,8]),(9,[]),(10,[])] [[],[],[],[],[],[3,4],[3,4,5],[1,2,3,4,5,6],[],[0,1,2,3,4,5,6,7,8],[0,1,2,3,4,5,6,7,8,9]] 0 (by kernel_rfl) fun K2 bG=>?_
 refine G0 ?_
 refine NI (bH e s.gs μ) (iu x y s.c) (c1) ?_
 rintro _ _ ⟨μ1,cZ,rfl,rfl⟩
 refine⟨rfl,?_⟩
 have h1:=h.next r1 cZ (by omega)
 have c2:=LG e A.1 μ1 A.2 s.c h1 r1.nd (hq.pre r1.pre)
 have r2:=w7 nw h1.g r1.nd (hq.pre r1.pre)
 rw[←eB]at c2 r2
 have l2:=r2.len
 refine G0 ?_
 refine NI (bH e A.1 μ1) (iu x y s.c) (c2) ?_
 rintro _ _ ⟨μ2,db,rfl,rfl⟩
 refine⟨rfl,?_⟩
 have h2:=h1.next r2 db (by omega)
 have QN:=r1.pre.trans r2.pre
 refine G0 ?_
 refine bG _ _ ?_
 refine aH fun K3 bS=>?_
 refine aj (Lg ·) ?_
 refine aX rfl (fun ht=>?_) (fun ht=>?_)
 ·have aA:k+1<x.length:=by simp at ht;omega
  have c3:=juc e B.1 μ2 (nth x k) (nth y k) s.c h2 (hx.pre QN) (hy.pre QN) (hq.pre QN)
  rw[←eM]at c3
  refine y6 ax hp hc mixed rfl [(0,[]),(1,[]),(2,[]),(3,[]),(4,[]),(5,[]),(6,[]),(7,[]),(8,[])] [[],[],[],[],[2,3],[2,3,4],[],[0,1,2,3,4,5,6],[0,1,2,3,4,5,6,7]] 0 (by kernel_rfl) fun K5 fA=>?_
  refine G0 ?_
  refine NI (bH e B.1 μ2) (iu x y s.c) (c3) ?_
  rintro _ _ ⟨μ3,nK,rfl,rfl⟩
  refine⟨rfl,?_⟩
  refine G0 ?_
  refine fA _ _ (bS _ _ ?_)
  refine aj (OC ·) ?_
  refine bI hp (τ':=aG [(8,.d (iD B.2))]) (H':=bH e M.1 μ3++iu x y M.2) ?_ ?_
  ·refine F9 [0,1,2,3,4,5,6,7,8,9,10,11] ?_
   refine Ew ?_
   exact NH
  refine bh ?_
  refine c8 (t:=8) rfl ?_
  show ∃_,_
  rw[hR,hV,if_pos aA];exact⟨μ3,nK,rfl,rfl⟩
 ·have aA:¬k+1<x.length:=by simp at ht;omega
  refine bB (bS _ _ ?_)
  refine aj (OC ·) ?_
  refine bI hp (τ':=aG [(8,.d (iD B.2))]) (H':=bH e B.1 μ2++iu x y s.c) ?_ ?_
  ·refine F9 [0,1,2,3,4,5,6,7,8,9,10,11] ?_
   refine Ew ?_
   exact NH
  refine bh ?_
  refine c8 (t:=8) rfl ?_
  show ∃_,_
  rw[hR,hV,if_neg aA];exact⟨μ2,db,rfl,rfl⟩
theorem ylp{m:Nat}{gs:Gs}{x y:List Int}{c:Int}{n k:Nat}(h2:2≤m)(h:GI m gs)(hn:n=x.length)(hx:eo m gs x n)(hy:eo m gs y n)(hc:br m gs c)(hk:k≤n):Ss m (3*k) k gs (gO m gs x y c k):=by
 subst hn;exact Fx h2 h hx hy hc k hk
def SmX(e:BE)(x y:List Int)(r:Sm)(z:AV)(S':ak):Prop:=∃μ,ic (aw e) r.gs μ∧z= .d (av r.l)∧S'=bH e r.gs μ++iu x y r.c
theorem X1{p q:Prop}(hq:q)(h:p=q:=by
 conv=>lhs;simp -dsimp -implicitDefEqProofs (disch:=first|assumption|omega|(simp only[aK,aT,bx]<;>omega)|decide) only[aP,↓reduceIte,Nat.reduceEqDiff,Nat.reduceAdd,D.fix,Int.reduceToNat,Nat.reduceMul,Nat.reduceBNe,Nat.reduceBEq,bR,bH,bO,aD,bE,cB,List.cons_append,List.nil_append,bP,iu]):p:=h.mpr hq
theorem EB{p q:Prop}(hq:q)(h:p=q:=by
 conv=>lhs;simp -dsimp -implicitDefEqProofs (disch:=first|assumption|omega|(simp only[aK,aT,bx]<;>omega)|decide) only[aP,↓reduceIte,Nat.reduceEqDiff,Nat.reduceAdd,D.fix,Int.reduceToNat,Nat.reduceMul,Nat.reduceBNe,Nat.reduceBEq,bR,bH,bO,aD,bE,cB,List.cons_append,List.nil_append,bP,iu,bw]):p:=h.mpr hq
theorem Wq{p q:Prop}(hq:q)(h:p=q:=by
 conv=>lhs;simp only[cD,Nat.reduceAdd,↓reduceIte,Nat.reduceEqDiff,bR,bH,bO,aD,bE,cB,List.cons_append,List.nil_append,bP,iu]):p:=h.mpr hq
theorem jp2(e:BE)(gs:Gs)(μ:Mp)(x y:List Int)(q:Int)(h:dx e gs μ)(hx:eo (aw e) gs x x.length)(hy:eo (aw e) gs y x.length)(qm:y.length=x.length)(hq:br (aw e) gs q)(hl:gs.length+3*x.length≤99990)(vq:x.length≤1000):cM prog [0,1,3,4,5,6,7,8,9,10,11] 138 [.d (av x),.dk (.func 182) [] [.op 8 0,.op 10 0,.op 11 0,.op 9 0]] (bH e gs μ++iu x y q) (SmX e x y (gO (aw e) gs x y q x.length)):=by
 refine fV (fn:=f138) (by kernel_rfl) func138 rfl (bN rfl) fun c hc hp=>?_
 refine oc ?_
 unfold bH iu bP
 refine aj (X1 ·) ?_
 refine aj (EB ·) ?_
 refine aH fun K3 bS=>?_
 refine aj (EB ·) ?_
 refine aW ?_
 refine c9 hp (fun τ' H' mm=>∃(k:Nat) (μ1:Mp),(k≤x.length∧ic (aw e) (gO (aw e) gs x y q k).gs μ1)∧mm=x.length - k∧H'=bH e (gO (aw e) gs x y q k).gs μ1++[bP,.cells [.d (av x)],.cells [.d (av y)],.cells [.d (iD (gO (aw e) gs x y q k).c)],cB (gO (aw e) gs x y q k).l x.length]∧τ'=aG [(1,.dk (.func 182) [] [.op 8 0,.op 10 0,.op 11 0,.op 9 0]),(5,.os 1 12 0 x.length),(11,.d (av x)),(12,.d (iD x.length)),(13,.d (iD k))]) (x.length) ?_ ⟨0,μ,⟨cy _,h.n⟩,rfl,rfl,rfl⟩ ?_
 ·refine Ew ?_
  refine Wq ?_;simp[gO,cB,bH,bO,aD,iD,au,iu,bP]
 rintro τ' H' mm ⟨k,μ1,⟨hk,cZ⟩,rfl,rfl,rfl⟩
 have hb:=ylp nw h.g rfl hx hy hq hk
 have dY:=@jp0 (aw e) gs x y q k
 have jS:k=x.length→gO (aw e) gs x y q x.length=gO (aw e) gs x y q k:=fun e=>by rw[←e]
 generalize gO (aw e) gs x y q k=s at *
 have hw:s.l.length=k:=hb.bs.wid
 have pC:s.gs.length≤gs.length+3*k:=hb.bs.len
 have h1:dx e s.gs μ1:=⟨cZ,hb.bs.gi,h.i,by have:=h.l;omega⟩
 refine aj (EB ·) ?_
 refine aH fun K6 cF=>?_
 refine aX rfl (fun ht=>?_) (fun ht=>?_)
 ·have aA:k<x.length:=by simp at ht;omega
  have cu:=xf hw aA (Ga (aw e) x y k s)
  have hR:=@ygh (aw e) x y k s
  refine bB (cF _ _ ?_)
  refine aH fun K7 de=>?_
  refine aW ?_
  refine bC hp ax hc rfl fun K8 dC=>?_
  simp -dsimp -implicitDefEqProofs (disch:=first|assumption|omega|(simp only[aK,aT,bx]<;>omega)|decide) only[aP,↓reduceIte,Nat.reduceEqDiff,Nat.reduceAdd,D.fix,Int.reduceToNat,Nat.reduceMul,Nat.reduceBNe,Nat.reduceBEq,bR,bH,bO,aD,bE,cB,List.cons_append,List.nil_append,bP,iu,dm,bw]
  refine dC _ _ ?_
  refine bA hp ax hc rfl fun K9 cJ=>?_
  refine EB ?_
  refine Aw (S:=bH e s.gs μ1++iu x y s.c) (T:=[cB s.l x.length]) (jxj e μ1 x y k s h1 aA (by omega) ((hx k aA).pre hb.bs.pre) ((hy k aA).pre hb.bs.pre) hb.c (by omega) vq) rfl (by first|rfl|(simp[AV.ah,AV.allI,bc,bg,bf,aJ,aN,aY,aZ,bH,bO,cB,bP,iu];done)|(intro o ho;simp at ho;done)) (fun t=>fU (by first|rfl|(simp[AV.ah,AV.allI,bc,bg,bf,aJ,aN,aY,aZ,bH,bO,cB,bP,iu];done)|(intro o ho;simp at ho;done)) t) (by first|rfl|(simp[AV.ah,AV.allI,bc,bg,bf,aJ,aN,aY,aZ,bH,bO,cB,bP,iu];done)|(intro o ho;simp at ho;done)) (by first|rfl|(simp[AV.ah,AV.allI,bc,bg,bf,aJ,aN,aY,aZ,bH,bO,cB,bP,iu];done)|(intro o ho;simp at ho;done)) (by first|rfl|(simp[AV.ah,AV.allI,bc,bg,bf,aJ,aN,aY,aZ,bH,bO,cB,bP,iu];done)|(intro o ho;simp at ho;done)) ?_
  rintro _ _ ⟨μ2,db,rfl,rfl⟩
  refine⟨rfl,?_⟩
  refine EB ?_
  refine cJ _ _ (de _ _ ?_)
  refine bA hp ax hc rfl fun kL bU=>?_
  refine EB ?_
  refine bU _ _ ⟨_,_,_,?_,⟨k+1,μ2,⟨by omega,by rw[dY];exact db⟩,rfl,rfl,rfl⟩,?_⟩
  ·first|omega|(simp only[List.length_cons];omega)|(dsimp only;omega)
  ·refine F9 [0,1,2,3,4,5,6,7,8,9,10,11,12] ?_
   refine Ew ?_
   refine Wq ?_;rw[dY,hR,←cu];simp[bH,bO,aD,au,bP,iu,iD]
 ·have cf:k=x.length:=by simp at ht;omega
  have hz:s.l++List.replicate (x.length - s.l.length) (0:Int)=s.l:=by rw[hw,cf,Nat.sub_self];simp
  rw[hz]
  refine cL (bS _ _ ?_)
  refine aj (X1 ·) ?_
  refine bI hp (τ':=aG [(4,.d (.fs (s.l.map iD) x.length))]) (H':=bH e s.gs μ1++iu x y s.c) ?_ ?_
  ·refine Rt.trans (Rt.fz (id:=12) (l:=(s.l.map iD)) rfl) ?_
   refine Rt.trans (Rt.slot 4 (qL (iN (by simp[hw,cf])))) ?_
   refine F9 [0,1,2,3,4,5,6,7,8,9,10,11] ?_
   refine Ew ?_
   first|rfl|(simp only[cD,Nat.reduceAdd,↓reduceIte,Nat.reduceEqDiff,bR,bH,bO,aD,bE,cB,List.cons_append,List.nil_append,bP,iu];first|done|rfl)
  refine bh ?_
  refine c8 (t:=4) rfl ?_
  show ∃_,_
  rw[jS cf];exact⟨μ1,cZ,by show AV.d (.fs (s.l.map iD) x.length)= .d (.fs (s.l.map iD) s.l.length);rw[hw,cf],rfl⟩
theorem jud(e:BE)(gs:Gs)(μ:Mp)(x y:List Int)(q:Int)(h:dx e gs μ)(hx:eo (aw e) gs x x.length)(hy:eo (aw e) gs y x.length)(qm:y.length=x.length)(hq:br (aw e) gs q)(hl:gs.length+3*x.length≤99990)(vq:x.length≤1000):cM prog [0,1,3,4,5,6,7] 148 [.op 0 0,.d (av x),.d (av y),.d (iD q)] (bH e gs μ) (Gh e ((gO (aw e) gs x y q x.length).gs,(gO (aw e) gs x y q x.length).l)):=by
 refine fV (fn:=f148) (by kernel_rfl) func148 rfl (bN rfl) fun c hc hp=>?_
 refine B8 ?_
 refine aj (Lg ·) ?_
 refine bC hp ax hc rfl fun K2 bG=>?_
 refine Lg ?_
 refine r7 (S:=bH e gs μ++iu x y q) (T:=[]) (jp2 e gs μ x y q h hx hy qm hq hl vq) rfl (by first|rfl|(simp[AV.ah,AV.allI,bc,bg,bf,aJ,aN,aY,aZ,bH,bO,bP,iu];done)|(intro o ho;simp at ho;done)) (fun t=>fU (by first|rfl|(simp[AV.ah,AV.allI,bc,bg,bf,aJ,aN,aY,aZ,bH,bO,bP,iu];done)|(intro o ho;simp at ho;done)) t) (by first|rfl|(simp[AV.ah,AV.allI,bc,bg,bf,aJ,aN,aY,aZ,bH,bO,bP,iu];done)|(intro o ho;simp at ho;done)) (by first|rfl|(simp[AV.ah,AV.allI,bc,bg,bf,aJ,aN,aY,aZ,bH,bO,bP,iu];done)|(intro o ho;simp at ho;done)) (by first|rfl|(simp[AV.ah,AV.allI,bc,bg,bf,aJ,aN,aY,aZ,bH,bO,bP,iu];done)|(intro o ho;simp at ho;done)) ?_
 rintro _ _ ⟨μ1,cZ,rfl,rfl⟩
 refine⟨rfl,?_⟩
 refine Lg ?_
 refine bG _ _ ?_
 refine bI hp (τ':=aG [(8,.d (av (gO (aw e) gs x y q x.length).l))]) (H':=bH e (gO (aw e) gs x y q x.length).gs μ1) ?_ ?_
 ·refine F9 [0,1,2,3,4,5,6,7] ?_
  refine Ew ?_
  exact NH
 refine bh ?_
 refine c8 (t:=8) rfl ?_
 show ∃_,_
 exact⟨μ1,cZ,rfl,rfl⟩
end Go.Proofs.YtapjobndmmkanaaGreat
