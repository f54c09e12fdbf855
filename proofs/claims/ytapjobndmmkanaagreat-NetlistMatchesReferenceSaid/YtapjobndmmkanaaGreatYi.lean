/- netlist's builder: equality, order, complements of words. -/
import Derived.Test.YtapjobndmmkanaaGreatQr
import Derived.Test.YtapjobndmmkanaaGreatYf
import Derived.Test.YtapjobndmmkanaaGreatWf
set_option linter.unusedVariables false
set_option linter.unusedSimpArgs false
set_option maxRecDepth 100000
set_option maxHeartbeats 4000000
namespace Go.Proofs.YtapjobndmmkanaaGreat
open Go.Proofs.Tryz
open Go Go.RowKit
def eQ(m:Nat)(gs:Gs)(x:List Int)(n:Nat):Prop:=∀k,k<n→bm m gs (nth x k)
theorem eQ.pre{m:Nat}{gs fH:Gs}{x:List Int}{n:Nat}(h:eQ m gs x n)(hp:gs<+:fH):eQ m fH x n:=fun k hk=>(h k hk).pre hp
theorem Gk{p q:Prop}(hq:q)(h:p=q:=by
 conv=>lhs;simp -dsimp -implicitDefEqProofs (disch:=first|assumption|omega|(simp only[aH,aQ,bc]<;>omega)|decide) only[aN,↓reduceIte,Nat.reduceEqDiff,Nat.reduceAdd,D.fix,Int.reduceToNat,Nat.reduceMul,Nat.reduceBNe,Nat.reduceBEq,ch,bH,bO,aK,aY]):p:=h.mpr hq
theorem zK{p q:Prop}(hq:q)(h:p=q:=by
 conv=>lhs;simp -dsimp -implicitDefEqProofs (disch:=first|assumption|omega|(simp only[aH,aQ,bc]<;>omega)|decide) only[aN,↓reduceIte,Nat.reduceEqDiff,Nat.reduceAdd,D.fix,Int.reduceToNat,Nat.reduceMul,Nat.reduceBNe,Nat.reduceBEq,ch,bH,bO,aK,aY,bw]):p:=h.mpr hq
theorem DO{m:List Nat}{τ τ':Fr}{H H':av}(h2:H=H')(h:fw τ τ':=by
 repeat (first|exact cw _|refine cg ?_ (by first|rfl|(simp[aX,aQ,bc];done)|simp[aX,aQ,bc, *]))):Rt m τ H τ' H':=Rt.end h h2
theorem yl{p q:Prop}(hq:q)(h:p=q:=by
 conv=>lhs;simp -dsimp -implicitDefEqProofs (disch:=first|assumption|omega|(simp only[aH,aQ,bc]<;>omega)|decide) only[aN,↓reduceIte,Nat.reduceEqDiff,Nat.reduceAdd,D.fix,Int.reduceToNat,Nat.reduceMul,Nat.reduceBNe,Nat.reduceBEq,ch,bH,bO,aK,aY,db,bw]):p:=h.mpr hq
theorem DN{P:Program}{sm:List Nat}{N:Nat}{τ:Fr}{H:av}{f:FuncId}{args:List AV}{K0 KK:AV→av→Prop}{ks:List Nat}(S T:av)(h:cY P ks f args S K0)(hK:∀x S',K0 x S'→S'.length=S.length∧KK x (S'++T))(hH:H=S++T:=by
 rfl) (hm:sm.all (aL ks S.length)=true:=by
 first|rfl|(simp[AV.aj,AV.allI,bo,bq,bp,aL,aO,bn,br,bH,bO];done)|(intro o ho;simp at ho;done)) (hτ:∀t,(τ t).allI (aL ks S.length)=true:=by
 exact fun t=>fL (by first|rfl|(simp[AV.aj,AV.allI,bo,bq,bp,aL,aO,bn,br,bH,bO];done)|(intro o ho;simp at ho;done)) t) (ha:AV.aj (aO S.length) args=true:=by
 first|rfl|(simp[AV.aj,AV.allI,bo,bq,bp,aL,aO,bn,br,bH,bO];done)|(intro o ho;simp at ho;done)) (hS:∀o∈S,o.allI (aO S.length)=true:=by
 first|rfl|(simp[AV.aj,AV.allI,bo,bq,bp,aL,aO,bn,br,bH,bO];done)|(intro o ho;simp at ho;done)) (hT:∀o∈T,o.allI (aL ks S.length)=true:=by
 first|rfl|(simp[AV.aj,AV.allI,bo,bq,bp,aL,aO,bn,br,bH,bO];done)|(intro o ho;simp at ho;done)):kC P sm N H τ (.d (.val (.func (.func f) #[] #[]))) args true (tg KK):=rH h hH hm hτ ha hS hT hK
theorem Jm(k:List Nat){m:List Nat}{τ τ1:Fr}{H H1:av}(h:Rt m (fun t=>du k (τ t)) (dg k H) τ1 H1)(a:∀i∈m,k[i]? =some i:=by decide)(b:k.Nodup:=by decide)(c:∀i∈k,i<H.length:=by
 simp[eJ,dg]):Rt m τ H τ1 H1:=Rt.trans (Rt.gc a b c) h
theorem Jl{p q:Prop}(hq:q)(h:p=q:=by
 conv=>lhs;simp only[cP,Nat.reduceAdd,↓reduceIte,Nat.reduceEqDiff,ch,bH,bO,aK,aY]):p:=h.mpr hq
theorem VJ{p:Prop}(h:p:=by
 first|rfl|(simp only[cP,Nat.reduceAdd,↓reduceIte,Nat.reduceEqDiff,ch,bH,bO,aK,aY];first|done|rfl)):p:=h
theorem jmw(e:BE)(gs:Gs)(μ:Mp)(x y:List Int)(h:dM e gs μ)(hx:eQ (aB e) gs x x.length)(hy:eQ (aB e) gs y x.length)(mJ:y.length=x.length)(hl:gs.length+3*x.length≤100000):cY prog [0,1,3,4,5,6,7] 149 [.op 0 0,.d (ae x),.d (ae y)] (bH e gs μ) (yP e (j6 (aB e) gs x y x.length)):=by
 refine fX (fn:=f149) (by kernel_rfl) func149 rfl (cn rfl) fun c hc hp=>?_
 refine tr ?_
 refine ah (Gk ·) ?_
 refine ah (Gk ·) ?_
 refine aD fun K3 cm=>?_
 refine ah (zK ·) ?_
 refine aW ?_
 refine cU hp (fun τ' H' mm=>∃(k:Nat) (μ1:Mp),(k≤x.length∧ir (aB e) (j6 (aB e) gs x y k).1 μ1)∧mm=x.length - k∧H'=bH e (j6 (aB e) gs x y k).1 μ1∧τ'=aF [(0,.op 0 0),(2,.d (ae y)),(7,.d (iD (j6 (aB e) gs x y k).2)),(10,.d (ae x)),(11,.d (iD x.length)),(12,.d (iD k))]) (x.length) ?_ ⟨0,μ,⟨cF _,h.n⟩,rfl,rfl,rfl⟩ ?_
 ·refine DO ?_
  refine Jl ?_;rfl
 rintro τ' H' mm ⟨k,μ1,⟨hk,de⟩,rfl,rfl,rfl⟩
 have hr:=Kn nG h.g hx hy k hk
 have ej:j6 (aB e) gs x y (k+1)=dj (aB e) (dH (aB e) (fQ (aB e) (j6 (aB e) gs x y k).1 (nth x k) (nth y k)).1 (fQ (aB e) (j6 (aB e) gs x y k).1 (nth x k) (nth y k)).2).1 (j6 (aB e) gs x y k).2 (dH (aB e) (fQ (aB e) (j6 (aB e) gs x y k).1 (nth x k) (nth y k)).1 (fQ (aB e) (j6 (aB e) gs x y k).1 (nth x k) (nth y k)).2).2:=rfl
 have jV:k=x.length→j6 (aB e) gs x y x.length=j6 (aB e) gs x y k:=fun e=>by rw[←e]
 generalize j6 (aB e) gs x y k=s at *
 refine ah (zK ·) ?_
 refine aD fun K6 cK=>?_
 refine bf rfl (fun ht=>?_) (fun ht=>?_)
 ·have aA:k<x.length:=by simp at ht;omega
  have sJ:k<y.length:=by omega
  have h1:=h.next hr de (by omega)
  have p7:=hr.len
  have ra:=vJ nG h1.g ((hx k aA).pre hr.pre) ((hy k aA).pre hr.pre)
  have ral:=ra.len
  refine bg (cK _ _ ?_)
  refine aD fun K7 cL=>?_
  refine aW ?_
  refine ah (yl ·) ?_
  refine bT hp ax hc rfl fun K9 cX=>?_
  refine yl ?_
  refine DN (bH e s.1 μ1) ([]) (KJ e s.1 μ1 (nth x k) (nth y k) h1 ((hx k aA).pre hr.pre) ((hy k aA).pre hr.pre)) ?_
  rintro _ _ ⟨μ2,dA,rfl,rfl⟩
  refine⟨rfl,?_⟩
  have h2:=h1.next ra dA (by omega)
  have rb:=oH nG h2.g ra.nd
  have rbl:=rb.len
  refine yl ?_
  refine DN (bH e (fQ (aB e) s.1 (nth x k) (nth y k)).1 μ2) ([]) (zU e _ μ2 _ h2 ra.nd) ?_
  rintro _ _ ⟨μ3,nP,rfl,rfl⟩
  refine⟨rfl,?_⟩
  have h3:=h2.next rb nP (by omega)
  refine yl ?_
  refine DN (bH e (dH (aB e) (fQ (aB e) s.1 (nth x k) (nth y k)).1 (fQ (aB e) s.1 (nth x k) (nth y k)).2).1 μ3) ([]) (vH e _ μ3 s.2 _ h3 (hr.nd.pre (ra.pre.trans rb.pre)) rb.nd) ?_
  rintro _ _ ⟨μ4,p8,rfl,rfl⟩
  refine⟨rfl,?_⟩
  refine yl ?_
  refine cX _ _ (cL _ _ ?_)
  refine bT hp ax hc rfl fun j4 bW=>?_
  refine zK ?_
  refine bW _ _ ⟨_,_,_,?_,⟨k+1,μ4,⟨by omega,by rw[ej];exact p8⟩,rfl,rfl,rfl⟩,?_⟩
  ·first|omega|(simp only[List.length_cons];omega)|(dsimp only;omega)
  ·refine Jm [0,1,2,3,4,5,6,7] ?_
   refine DO ?_
   refine Jl ?_;rw[ej]
 ·have bM:k=x.length:=by simp at ht;omega
  refine cJ (cm _ _ ?_)
  refine ah (Gk ·) ?_
  refine bC hp (τ':=aF [(6,.d (iD s.2))]) (H':=bH e s.1 μ1) ?_ ?_
  ·refine Jm [0,1,2,3,4,5,6,7] ?_
   refine DO ?_
   exact VJ
  refine aM ?_
  refine dJ (t:=6) rfl ?_
  show ∃_,_
  rw[jV bM];exact⟨μ1,de,rfl,rfl⟩
theorem jts(e:BE)(gs:Gs)(μ:Mp)(x y:List Int)(h:dM e gs μ)(hx:eQ (aB e) gs x x.length)(hy:eQ (aB e) gs y x.length)(mJ:y.length=x.length)(hl:gs.length+3*x.length≤99999):cY prog [0,1,3,4,5,6,7] 150 [.op 0 0,.d (ae x),.d (ae y)] (bH e gs μ) (yP e (dH (aB e) (jt (aB e) gs x y x.length).1 (jt (aB e) gs x y x.length).2)):=by
 refine fX (fn:=f150) (by kernel_rfl) func150 rfl (cn rfl) fun c hc hp=>?_
 refine tr ?_
 refine ah (Gk ·) ?_
 refine ah (Gk ·) ?_
 refine aD fun K3 cm=>?_
 refine ah (zK ·) ?_
 refine aW ?_
 refine cU hp (fun τ' H' mm=>∃(k:Nat) (μ1:Mp),(k≤x.length∧ir (aB e) (jt (aB e) gs x y k).1 μ1)∧mm=x.length - k∧H'=bH e (jt (aB e) gs x y k).1 μ1∧τ'=aF [(0,.op 0 0),(2,.d (ae y)),(7,.d (iD (jt (aB e) gs x y k).2)),(10,.d (ae x)),(11,.d (iD x.length)),(12,.d (iD k))]) (x.length) ?_ ⟨0,μ,⟨cF _,h.n⟩,rfl,rfl,rfl⟩ ?_
 ·refine DO ?_
  refine Jl ?_;rfl
 rintro τ' H' mm ⟨k,μ1,⟨hk,de⟩,rfl,rfl,rfl⟩
 have hr:=Km nG h.g hx hy k hk
 have ej:jt (aB e) gs x y (k+1)=tF (aB e) (dH (aB e) (jt (aB e) gs x y k).1 (nth y k)).1 (nth x k) (dH (aB e) (jt (aB e) gs x y k).1 (nth y k)).2 (jt (aB e) gs x y k).2:=rfl
 have jV:k=x.length→jt (aB e) gs x y x.length=jt (aB e) gs x y k:=fun e=>by rw[←e]
 generalize jt (aB e) gs x y k=s at *
 have h1:=h.next hr de (by omega)
 have p7:=hr.len
 refine ah (zK ·) ?_
 refine aD fun K6 cK=>?_
 refine bf rfl (fun ht=>?_) (fun ht=>?_)
 ·have aA:k<x.length:=by simp at ht;omega
  have sJ:k<y.length:=by omega
  have rb:=oH nG h1.g ((hy k aA).pre hr.pre)
  have rbl:=rb.len
  refine bg (cK _ _ ?_)
  refine aD fun K7 cL=>?_
  refine aW ?_
  refine ah (yl ·) ?_
  refine bT hp ax hc rfl fun K9 cX=>?_
  refine yl ?_
  refine DN (bH e s.1 μ1) ([]) (zU e s.1 μ1 (nth y k) h1 ((hy k aA).pre hr.pre)) ?_
  rintro _ _ ⟨μ3,nP,rfl,rfl⟩
  refine⟨rfl,?_⟩
  have h3:=h1.next rb nP (by omega)
  refine yl ?_
  refine DN (bH e (dH (aB e) s.1 (nth y k)).1 μ3) ([]) (ZF e _ μ3 (nth x k) _ s.2 h3 ((hx k aA).pre (hr.pre.trans rb.pre)) rb.nd (hr.nd.pre rb.pre)) ?_
  rintro _ _ ⟨μ4,p8,rfl,rfl⟩
  refine⟨rfl,?_⟩
  refine yl ?_
  refine cX _ _ (cL _ _ ?_)
  refine bT hp ax hc rfl fun j4 bW=>?_
  refine zK ?_
  refine bW _ _ ⟨_,_,_,?_,⟨k+1,μ4,⟨by omega,by rw[ej];exact p8⟩,rfl,rfl,rfl⟩,?_⟩
  ·first|omega|(simp only[List.length_cons];omega)|(dsimp only;omega)
  ·refine Jm [0,1,2,3,4,5,6,7] ?_
   refine DO ?_
   refine Jl ?_;rw[ej]
 ·have bM:k=x.length:=by simp at ht;omega
  refine cJ (cm _ _ ?_)
  refine aZ hp ax hc rfl fun mh cQ=>?_
  refine zK ?_
  refine DN (bH e s.1 μ1) ([]) (zU e s.1 μ1 s.2 h1 hr.nd) ?_
  rintro _ _ ⟨μ3,nP,rfl,rfl⟩
  refine⟨rfl,?_⟩
  refine zK ?_
  refine cQ _ _ ?_
  refine bC hp (τ':=aF [(6,.d (iD (dH (aB e) s.1 s.2).2))]) (H':=bH e (dH (aB e) s.1 s.2).1 μ3) ?_ ?_
  ·refine Jm [0,1,2,3,4,5,6,7] ?_
   refine DO ?_
   exact VJ
  refine aM ?_
  refine dJ (t:=6) rfl ?_
  show ∃_,_
  rw[jV bM];exact⟨μ3,nP,rfl,rfl⟩
def jT(r:mf):List D:=[sD r.name,iD r.w,iD r.init,iD (dv r.next),nS,iD (kEx r.next),nS,iD (l8 r.next),nS,.fs ((aJ r.next).flatMap bR) (aJ r.next).length,iD r.rk,sD r.rf,iD r.rn]
def iL(t:kg):List D:=[iD t.chan,iD t.w,iD (dv t.wh),nS,iD (kEx t.wh),nS,iD (l8 t.wh),nS,.fs ((aJ t.wh).flatMap bR) (aJ t.wh).length]
def gm(q:mg):List D:=[iD q.chan,iD q.w,iD (dv q.wh),nS,iD (kEx q.wh),nS,iD (l8 q.wh),nS,.fs ((aJ q.wh).flatMap bR) (aJ q.wh).length,iD (dv q.da),nS,iD (kEx q.da),nS,iD (l8 q.da),nS,.fs ((aJ q.da).flatMap bR) (aJ q.da).length]
def j9(m:lJ):List D:=[sD m.name,iD m.w,iD m.words,iD (dv m.en),nS,iD (kEx m.en),nS,iD (l8 m.en),nS,.fs ((aJ m.en).flatMap bR) (aJ m.en).length,iD (dv m.ad),nS,iD (kEx m.ad),nS,iD (l8 m.ad),nS,.fs ((aJ m.ad).flatMap bR) (aJ m.ad).length,iD (dv m.da),nS,iD (kEx m.da),nS,iD (l8 m.da),nS,.fs ((aJ m.da).flatMap bR) (aJ m.da).length,iD m.rk,sD m.rf,iD m.rn]
section
theorem ybf(r:mf):nf r=jT r:=by unfold nf;rw[xJ];rfl
theorem ybg(r:kg):qJ r=iL r:=by unfold qJ;rw[xJ];rfl
theorem ybh(r:mg):rO r=gm r:=by unfold rO;rw[xJ,xJ];rfl
theorem ybi(r:lJ):pb r=j9 r:=by unfold pb;rw[xJ,xJ,xJ];rfl
theorem tZ{l:List mf}{k:Nat}(h:k<l.length):ec (l.flatMap nf) (k*13) 13=some (jT (nth l k)):=by rw[←ybf];exact Ai qk h
theorem vL{l:List kg}{k:Nat}(h:k<l.length):ec (l.flatMap qJ) (k*9) 9=some (iL (nth l k)):=by rw[←ybg];exact Ai r8 h
theorem pY{l:List mg}{k:Nat}(h:k<l.length):ec (l.flatMap rO) (k*16) 16=some (gm (nth l k)):=by rw[←ybh];exact Ai mS h
theorem xI{l:List lJ}{k:Nat}(h:k<l.length):ec (l.flatMap pb) (k*27) 27=some (j9 (nth l k)):=by rw[←ybi];exact Ai qj h
end
def di(l:List Int)(n:Nat):bB:=.cells (ak ((l++List.replicate (n - l.length) 0).map iD))
theorem xH{l:List Int}{n k:Nat}(hk:l.length=k)(h:k<n)(v:Int):((l++List.replicate (n - l.length) 0).map iD).set k (iD v)=((l++[v])++List.replicate (n - (l++[v]).length) 0).map iD:=by
 subst hk
 rw[List.map_append,List.set_append_right _ _ (by simp),List.length_map,Nat.sub_self,show n - l.length=(n - (l++[v]).length)+1 by simp;omega,List.replicate_succ,List.map_cons,List.set_cons_zero]
 simp
def uo(e:BE)(X:av)(r:Re)(x:AV)(S':av):Prop:=∃μ,ir (aB e) r.1 μ∧x= .d (iD r.2)∧S'=bH e r.1 μ++X
def bP:bB:=.cells [.op 0 0]
theorem Gj{p q:Prop}(hq:q)(h:p=q:=by
 conv=>lhs;simp -dsimp -implicitDefEqProofs (disch:=first|assumption|omega|(simp only[aH,aQ,bc]<;>omega)|decide) only[aN,↓reduceIte,Nat.reduceEqDiff,Nat.reduceAdd,D.fix,Int.reduceToNat,Nat.reduceMul,Nat.reduceBNe,Nat.reduceBEq,ch,bH,bO,aK,aY,bP,List.cons_append,List.nil_append,bw]):p:=h.mpr hq
theorem VI{P:Program}{sm:List Nat}{N:Nat}{τ:Fr}{H:av}{f:FuncId}{args:List AV}{K0 KK:AV→av→Prop}{ks:List Nat}(S T:av)(h:cY P ks f args S K0)(hK:∀x S',K0 x S'→S'.length=S.length∧KK x (S'++T))(hH:H=S++T:=by
 rfl) (hm:sm.all (aL ks S.length)=true:=by
 first|rfl|(simp[AV.aj,AV.allI,bo,bq,bp,aL,aO,bn,br,bH,bO,bP];done)|(intro o ho;simp at ho;done)) (hτ:∀t,(τ t).allI (aL ks S.length)=true:=by
 exact fun t=>fL (by first|rfl|(simp[AV.aj,AV.allI,bo,bq,bp,aL,aO,bn,br,bH,bO,bP];done)|(intro o ho;simp at ho;done)) t) (ha:AV.aj (aO S.length) args=true:=by
 first|rfl|(simp[AV.aj,AV.allI,bo,bq,bp,aL,aO,bn,br,bH,bO,bP];done)|(intro o ho;simp at ho;done)) (hS:∀o∈S,o.allI (aO S.length)=true:=by
 first|rfl|(simp[AV.aj,AV.allI,bo,bq,bp,aL,aO,bn,br,bH,bO,bP];done)|(intro o ho;simp at ho;done)) (hT:∀o∈T,o.allI (aL ks S.length)=true:=by
 first|rfl|(simp[AV.aj,AV.allI,bo,bq,bp,aL,aO,bn,br,bH,bO,bP];done)|(intro o ho;simp at ho;done)):kC P sm N H τ (.d (.val (.func (.func f) #[] #[]))) args true (tg KK):=rH h hH hm hτ ha hS hT hK
theorem Jk(k:List Nat){m:List Nat}{τ τ1:Fr}{H H1:av}(h:Rt m (fun t=>du k (τ t)) (dg k H) τ1 H1)(a:∀i∈m,k[i]? =some i:=by decide)(b:k.Nodup:=by decide)(c:∀i∈k,i<H.length:=by
 simp[eJ,dg]):Rt m τ H τ1 H1:=Rt.trans (Rt.gc a b c) h
theorem Fz{m:List Nat}{τ τ':Fr}{H H':av}(h2:H=H')(h:fw τ τ':=by
 repeat (first|exact cw _|refine cg ?_ (by first|rfl|(simp[aX,aQ,bc];done)|simp[aX,aQ,bc, *]))):Rt m τ H τ' H':=Rt.end h h2
theorem VH{p:Prop}(h:p:=by
 first|rfl|(simp only[cP,Nat.reduceAdd,↓reduceIte,Nat.reduceEqDiff,ch,bH,bO,aK,aY,bP,List.cons_append,List.nil_append];first|done|rfl)):p:=h
theorem jmx(e:BE)(gs:Gs)(μ:Mp)(i x:Int)(h:dM e gs μ)(hx:bm (aB e) gs x):cY prog [0,1,3,4,5,6,7,8] 181 [.d (iD i),.d (iD x),.op 8 0] (bH e gs μ++[bP]) (uo e [bP] (dH (aB e) gs x)):=by
 refine fX (fn:=f181) (by kernel_rfl) func181 rfl (cn rfl) fun c hc hp=>?_
 refine tr ?_
 unfold bH bP
 refine aZ hp ax hc rfl fun K1 nw=>?_
 simp -dsimp -implicitDefEqProofs (disch:=first|assumption|omega|(simp only[aH,aQ,bc]<;>omega)|decide) only[aN,↓reduceIte,Nat.reduceEqDiff,Nat.reduceAdd,D.fix,Int.reduceToNat,Nat.reduceMul,Nat.reduceBNe,Nat.reduceBEq,ch,bH,bO,aK,aY,bP,List.cons_append,List.nil_append]
 refine nw _ _ ?_
 refine aZ hp ax hc rfl fun K2 bS=>?_
 refine Gj ?_
 refine VI (bH e gs μ) ([bP]) (zU e gs μ x h hx) ?_
 rintro _ _ ⟨μ1,de,rfl,rfl⟩
 refine⟨rfl,?_⟩
 refine Gj ?_
 refine bS _ _ ?_
 refine bC hp (τ':=aF [(5,.d (iD (dH (aB e) gs x).2))]) (H':=bH e (dH (aB e) gs x).1 μ1++[bP]) ?_ ?_
 ·refine Jk [0,1,2,3,4,5,6,7,8] ?_
  refine Fz ?_
  exact VH
 refine aM ?_
 refine dJ (t:=5) rfl ?_
 show ∃_,_
 exact⟨μ1,de,rfl,rfl⟩
def oc(m:Nat)(gs:Gs)(x:List Int)(k:Nat):Gs × List Int:=bL (fun gs i=>dH m gs (nth x i)) gs k
theorem jji{m:Nat}{gs:Gs}{x:List Int}{k:Nat}:oc m gs x (k+1)=((dH m (oc m gs x k).1 (nth x k)).1,(oc m gs x k).2++[(dH m (oc m gs x k).1 (nth x k)).2]):=rfl
theorem jjj{m:Nat}{gs:Gs}{x:List Int}{n k:Nat}(h2:2≤m)(h:GI m gs)(hx:eQ m gs x n)(hk:k≤n):Bs m (1*k) k gs (oc m gs x k):=kz h fun j hj fH hp hg=>oH h2 hg ((hx j (by omega)).pre hp)
def yO(e:BE)(X:av)(r:Gs × List Int)(x:AV)(S':av):Prop:=∃μ,ir (aB e) r.1 μ∧x= .d (ae r.2)∧S'=bH e r.1 μ++X
theorem W8{p q:Prop}(hq:q)(h:p=q:=by
 conv=>lhs;simp -dsimp -implicitDefEqProofs (disch:=first|assumption|omega|(simp only[aH,aQ,bc]<;>omega)|decide) only[aN,↓reduceIte,Nat.reduceEqDiff,Nat.reduceAdd,D.fix,Int.reduceToNat,Nat.reduceMul,Nat.reduceBNe,Nat.reduceBEq,ch,bH,bO,aK,aY,di,List.cons_append,List.nil_append,bP]):p:=h.mpr hq
theorem D6{p q:Prop}(hq:q)(h:p=q:=by
 conv=>lhs;simp -dsimp -implicitDefEqProofs (disch:=first|assumption|omega|(simp only[aH,aQ,bc]<;>omega)|decide) only[aN,↓reduceIte,Nat.reduceEqDiff,Nat.reduceAdd,D.fix,Int.reduceToNat,Nat.reduceMul,Nat.reduceBNe,Nat.reduceBEq,ch,bH,bO,aK,aY,di,List.cons_append,List.nil_append,bP,bw]):p:=h.mpr hq
theorem VG{p q:Prop}(hq:q)(h:p=q:=by
 conv=>lhs;simp only[cP,Nat.reduceAdd,↓reduceIte,Nat.reduceEqDiff,ch,bH,bO,aK,aY,di,List.cons_append,List.nil_append,bP]):p:=h.mpr hq
theorem jjk(e:BE)(gs:Gs)(μ:Mp)(x:List Int)(h:dM e gs μ)(hx:eQ (aB e) gs x x.length)(hl:gs.length+x.length≤100000)(uw:x.length≤1000):cY prog [0,1,3,4,5,6,7,8] 138 [.d (ae x),.dC (.func 181) [] [.op 8 0]] (bH e gs μ++[bP]) (yO e [bP] (oc (aB e) gs x x.length)):=by
 refine fX (fn:=f138) (by kernel_rfl) func138 rfl (cn rfl) fun c hc hp=>?_
 refine pX ?_
 unfold bH bP
 refine ah (W8 ·) ?_
 refine ah (D6 ·) ?_
 refine aD fun K3 cm=>?_
 refine ah (D6 ·) ?_
 refine aW ?_
 refine cU hp (fun τ' H' mm=>∃(k:Nat) (μ1:Mp),(k≤x.length∧ir (aB e) (oc (aB e) gs x k).1 μ1)∧mm=x.length - k∧H'=bH e (oc (aB e) gs x k).1 μ1++[bP,di (oc (aB e) gs x k).2 x.length]∧τ'=aF [(1,.dC (.func 181) [] [.op 8 0]),(5,.os 1 9 0 x.length),(11,.d (ae x)),(12,.d (iD x.length)),(13,.d (iD k))]) (x.length) ?_ ⟨0,μ,⟨cF _,h.n⟩,rfl,rfl,rfl⟩ ?_
 ·refine Fz ?_
  refine VG ?_;simp[bL,di,bH,bO,aK,iD,ak,bP,oc]
 rintro τ' H' mm ⟨k,μ1,⟨hk,de⟩,rfl,rfl,rfl⟩
 have hb:=jjj nG h.g hx hk
 have ej:=@jji (aB e) gs x k
 have jV:k=x.length→oc (aB e) gs x x.length=oc (aB e) gs x k:=fun e=>by rw[←e]
 generalize oc (aB e) gs x k=s at *
 have hw:=hb.wid
 have sN:=hb.len
 have h1:dM e s.1 μ1:=⟨de,hb.gi,h.i,by have:=h.l;omega⟩
 refine ah (D6 ·) ?_
 refine aD fun K6 cK=>?_
 refine bf rfl (fun ht=>?_) (fun ht=>?_)
 ·have aA:k<x.length:=by simp at ht;omega
  have cd:=xH hw aA (dH (aB e) s.1 (nth x k)).2
  refine bg (cK _ _ ?_)
  refine aD fun K7 cL=>?_
  refine aW ?_
  refine aZ hp ax hc rfl fun K8 dP=>?_
  simp -dsimp -implicitDefEqProofs (disch:=first|assumption|omega|(simp only[aH,aQ,bc]<;>omega)|decide) only[aN,↓reduceIte,Nat.reduceEqDiff,Nat.reduceAdd,D.fix,Int.reduceToNat,Nat.reduceMul,Nat.reduceBNe,Nat.reduceBEq,ch,bH,bO,aK,aY,di,List.cons_append,List.nil_append,bP,db,bw]
  refine dP _ _ ?_
  refine bT hp ax hc rfl fun K9 cX=>?_
  refine D6 ?_
  refine BA (S:=bH e s.1 μ1++[bP]) (T:=[di s.2 x.length]) (jmx e s.1 μ1 k (nth x k) h1 ((hx k aA).pre hb.pre)) rfl (by first|rfl|(simp[AV.aj,AV.allI,bo,bq,bp,aL,aO,bn,br,bH,bO,di,bP];done)|(intro o ho;simp at ho;done)) (fun t=>fL (by first|rfl|(simp[AV.aj,AV.allI,bo,bq,bp,aL,aO,bn,br,bH,bO,di,bP];done)|(intro o ho;simp at ho;done)) t) (by first|rfl|(simp[AV.aj,AV.allI,bo,bq,bp,aL,aO,bn,br,bH,bO,di,bP];done)|(intro o ho;simp at ho;done)) (by first|rfl|(simp[AV.aj,AV.allI,bo,bq,bp,aL,aO,bn,br,bH,bO,di,bP];done)|(intro o ho;simp at ho;done)) (by first|rfl|(simp[AV.aj,AV.allI,bo,bq,bp,aL,aO,bn,br,bH,bO,di,bP];done)|(intro o ho;simp at ho;done)) ?_
  rintro _ _ ⟨μ2,dA,rfl,rfl⟩
  refine⟨rfl,?_⟩
  refine D6 ?_
  refine cX _ _ (cL _ _ ?_)
  refine bT hp ax hc rfl fun j4 bW=>?_
  refine D6 ?_
  refine bW _ _ ⟨_,_,_,?_,⟨k+1,μ2,⟨by omega,by rw[ej];exact dA⟩,rfl,rfl,rfl⟩,?_⟩
  ·first|omega|(simp only[List.length_cons];omega)|(dsimp only;omega)
  ·refine Jk [0,1,2,3,4,5,6,7,8,9] ?_
   refine Fz ?_
   refine VG ?_;rw[ej];dsimp only;rw[←cd];simp[bH,bO,aK,ak,bP,oc]
 ·have bM:k=x.length:=by simp at ht;omega
  have hz:s.2++List.replicate (x.length - s.2.length) (0:Int)=s.2:=by rw[hw,bM,Nat.sub_self];simp
  rw[hz]
  refine cJ (cm _ _ ?_)
  refine ah (W8 ·) ?_
  refine bC hp (τ':=aF [(4,.d (.fs (s.2.map iD) x.length))]) (H':=bH e s.1 μ1++[bP]) ?_ ?_
  ·refine Rt.trans (Rt.fz (id:=9) (l:=(s.2.map iD)) rfl) ?_
   refine Rt.trans (Rt.slot 4 (mU (fE (by simp[hw,bM])))) ?_
   refine Jk [0,1,2,3,4,5,6,7,8] ?_
   refine Fz ?_
   first|rfl|(simp only[cP,Nat.reduceAdd,↓reduceIte,Nat.reduceEqDiff,ch,bH,bO,aK,aY,di,List.cons_append,List.nil_append,bP];first|done|rfl)
  refine aM ?_
  refine dJ (t:=4) rfl ?_
  show ∃_,_
  rw[jV bM];exact⟨μ1,de,by show AV.d (.fs (s.2.map iD) x.length)= .d (.fs (s.2.map iD) s.2.length);rw[hw,bM],rfl⟩
theorem jdf(e:BE)(gs:Gs)(μ:Mp)(x:List Int)(h:dM e gs μ)(hx:eQ (aB e) gs x x.length)(hl:gs.length+x.length≤100000)(uw:x.length≤1000):cY prog [0,1,3,4,5,6,7] 147 [.op 0 0,.d (ae x)] (bH e gs μ) (FF e (oc (aB e) gs x x.length)):=by
 refine fX (fn:=f147) (by kernel_rfl) func147 rfl (cn rfl) fun c hc hp=>?_
 refine pX ?_
 refine ah (Gj ·) ?_
 refine aZ hp ax hc rfl fun K2 bS=>?_
 refine Gj ?_
 refine VI (bH e gs μ++[bP]) ([]) (jjk e gs μ x h hx hl uw) ?_
 rintro _ _ ⟨μ1,de,rfl,rfl⟩
 refine⟨rfl,?_⟩
 refine Gj ?_
 refine bS _ _ ?_
 refine bC hp (τ':=aF [(4,.d (ae (oc (aB e) gs x x.length).2))]) (H':=bH e (oc (aB e) gs x x.length).1 μ1) ?_ ?_
 ·refine Jk [0,1,2,3,4,5,6,7] ?_
  refine Fz ?_
  exact VH
 refine aM ?_
 refine dJ (t:=4) rfl ?_
 show ∃_,_
 exact⟨μ1,de,rfl,rfl⟩
def Fy(m:Nat)(x y:List Int)(k:Nat)(s:Sm):Sm:=
 let a:=fQ m s.gs (nth x k) (nth y k)
 let b:=fQ m a.1 a.2 s.c
 if k+1<x.length then(let d:=tF m b.1 (nth x k) (nth y k) s.c;⟨d.1,d.2,s.l++[b.2]⟩)else⟨b.1,s.c,s.l++[b.2]⟩
theorem jm0{m:Nat}{gs:Gs}{x y:List Int}{c:Int}{k:Nat}:fD m gs x y c (k+1)=Fy m x y k (fD m gs x y c k):=rfl
def Fx(m:Nat)(x y:List Int)(k:Nat)(s:Sm):Int:=(fQ m (fQ m s.gs (nth x k) (nth y k)).1 (fQ m s.gs (nth x k) (nth y k)).2 s.c).2
theorem ybn{m:Nat}{x y:List Int}{k:Nat}{s:Sm}:(Fy m x y k s).l=s.l++[Fx m x y k s]:=by
 unfold Fy Fx;dsimp only;split<;>rfl
def iG(x y:List Int)(q:Int):av:=[bP,.cells [.d (ae x)],.cells [.d (ae y)],.cells [.d (iD q)]]
def SmK(e:BE)(x y:List Int)(r:Sm)(v:Int)(z:AV)(S':av):Prop:=∃μ,ir (aB e) r.gs μ∧z= .d (iD v)∧S'=bH e r.gs μ++iG x y r.c
theorem NW{p q:Prop}(hq:q)(h:p=q:=by
 conv=>lhs;simp -dsimp -implicitDefEqProofs (disch:=first|assumption|omega|(simp only[aH,aQ,bc]<;>omega)|decide) only[aN,↓reduceIte,Nat.reduceEqDiff,Nat.reduceAdd,D.fix,Int.reduceToNat,Nat.reduceMul,Nat.reduceBNe,Nat.reduceBEq,ch,bH,bO,aK,aY,bP,iG,List.cons_append,List.nil_append]):p:=h.mpr hq
theorem Gi{p q:Prop}(hq:q)(h:p=q:=by
 conv=>lhs;simp -dsimp -implicitDefEqProofs (disch:=first|assumption|omega|(simp only[aH,aQ,bc]<;>omega)|decide) only[aN,↓reduceIte,Nat.reduceEqDiff,Nat.reduceAdd,D.fix,Int.reduceToNat,Nat.reduceMul,Nat.reduceBNe,Nat.reduceBEq,mC,ch,bH,bO,aK,aY,bP,iG,List.cons_append,List.nil_append,db,bw]):p:=h.mpr hq
theorem Nf{P:Program}{sm:List Nat}{N:Nat}{τ0 τ:Fr}{H:av}{f:FuncId}{args:List AV}{K0 KK:AV→av→Prop}{ks:List Nat}(S T:av)(h:cY P ks f args S K0)(hK:∀x S',K0 x S'→S'.length=S.length∧KK x (S'++T))(hH:H=S++T:=by
 rfl) (hN:S.length≤N:=by
 exact cn rfl) (hm:sm.all (aL ks S.length)=true:=by
 first|rfl|(simp[AV.aj,AV.allI,bo,bq,bp,aL,aO,bn,br,bH,bO,bP,iG];done)|(intro o ho;simp at ho;done)) (hτ:∀t,(τ t).allI (aL ks S.length)=true:=by
 exact fun t=>fL (by first|rfl|(simp[AV.aj,AV.allI,bo,bq,bp,aL,aO,bn,br,bH,bO,bP,iG];done)|(intro o ho;simp at ho;done)) t) (h0:∀t,(τ0 t).allI (aL ks S.length)=true:=by
 exact fun t=>fL (by first|rfl|(simp[AV.aj,AV.allI,bo,bq,bp,aL,aO,bn,br,bH,bO,bP,iG];done)|(intro o ho;simp at ho;done)) t) (ha:AV.aj (aO S.length) args=true:=by
 first|rfl|(simp[AV.aj,AV.allI,bo,bq,bp,aL,aO,bn,br,bH,bO,bP,iG];done)|(intro o ho;simp at ho;done)) (hS:∀o∈S,o.allI (aO S.length)=true:=by
 first|rfl|(simp[AV.aj,AV.allI,bo,bq,bp,aL,aO,bn,br,bH,bO,bP,iG];done)|(intro o ho;simp at ho;done)) (hT:∀o∈T,o.allI (aL ks S.length)=true:=by
 first|rfl|(simp[AV.aj,AV.allI,bo,bq,bp,aL,aO,bn,br,bH,bO,bP,iG];done)|(intro o ho;simp at ho;done)):kE P sm N τ0 τ H (.d (.val (.func (.func f) #[] #[]))) args (tg KK):=tm h hH hN hm hτ h0 ha hS hT hK
theorem Kh{p q:Prop}(hq:q)(h:p=q:=by
 conv=>lhs;simp -dsimp -implicitDefEqProofs (disch:=first|assumption|omega|(simp only[aH,aQ,bc]<;>omega)|decide) only[aN,↓reduceIte,Nat.reduceEqDiff,Nat.reduceAdd,D.fix,Int.reduceToNat,Nat.reduceMul,Nat.reduceBNe,Nat.reduceBEq,ch,bH,bO,aK,aY,bP,iG,List.cons_append,List.nil_append,bw]):p:=h.mpr hq
theorem Fw(k:List Nat){m:List Nat}{τ τ1:Fr}{H H1:av}(h:Rt m (fun t=>du k (τ t)) (dg k H) τ1 H1)(a:∀i∈m,k[i]? =some i:=by decide)(b:k.Nodup:=by decide)(c:∀i∈k,i<H.length:=by
 simp[eJ,dg]):Rt m τ H τ1 H1:=Rt.trans (Rt.gc a b c) h
theorem DE{m:List Nat}{τ τ':Fr}{H H':av}(h2:H=H')(h:fw τ τ':=by
 repeat (first|exact cw _|refine cg ?_ (by first|rfl|(simp[aX,aQ,bc];done)|simp[aX,aQ,bc, *]))):Rt m τ H τ' H':=Rt.end h h2
theorem Nd{p:Prop}(h:p:=by
 first|rfl|(simp only[cP,Nat.reduceAdd,↓reduceIte,Nat.reduceEqDiff,ch,bH,bO,aK,aY,bP,iG,List.cons_append,List.nil_append];first|done|rfl)):p:=h
theorem jtv(e:BE)(μ:Mp)(x y:List Int)(k:Nat)(s:Sm)(h:dM e s.gs μ)(hk:k<x.length)(hky:k<y.length)(hx:bm (aB e) s.gs (nth x k))(hy:bm (aB e) s.gs (nth y k))(hq:bm (aB e) s.gs s.c)(hl:s.gs.length+3≤100000)(uw:x.length≤1000):cY prog [0,1,3,4,5,6,7,8,9,10,11] 182 [.d (iD k),.d (iD (nth x k)),.op 8 0,.op 10 0,.op 11 0,.op 9 0] (bH e s.gs μ++iG x y s.c) (SmK e x y (Fy (aB e) x y k s) (Fx (aB e) x y k s)):=by
 refine fX (fn:=f182) (by kernel_rfl) func182 rfl (cn rfl) fun c hc hp=>?_
 refine jtl ?_
 unfold bH iG bP
 obtain⟨A,eA⟩:∃A,A=fQ (aB e) s.gs (nth x k) (nth y k):=⟨_,rfl⟩
 obtain⟨B,eB⟩:∃B,B=fQ (aB e) A.1 A.2 s.c:=⟨_,rfl⟩
 obtain⟨M,eM⟩:∃M,M=tF (aB e) B.1 (nth x k) (nth y k) s.c:=⟨_,rfl⟩
 have hR:Fy (aB e) x y k s=if k+1<x.length then⟨M.1,M.2,s.l++[B.2]⟩else⟨B.1,s.c,s.l++[B.2]⟩:=by rw[eM,eB,eA];rfl
 have hV:Fx (aB e) x y k s=B.2:=by rw[eB,eA];rfl
 have c1:=KJ e s.gs μ (nth x k) (nth y k) h hx hy
 have r1:=vJ nG h.g hx hy
 rw[←eA]at c1 r1
 have l1:=r1.len
 refine ah (NW ·) ?_
 refine jP ax hp hc mixed rfl [(0,[]),(1,[]),(2,[]),(3,[]),(4,[]),(5,[]),(6,[]),(8,[]),(7,[0,8]),(9,[]),(10,[])] [[],[],[],[],[],[3,4],[3,4,5],[1,2,3,4,5,6],[],[0,1,2,3,4,5,6,7,8],[0,1,2,3,4,5,6,7,8,9]] 0 (by kernel_rfl) fun K2 bS=>?_
 refine Gi ?_
 refine Nf (bH e s.gs μ) (iG x y s.c) (c1) ?_
 rintro _ _ ⟨μ1,de,rfl,rfl⟩
 refine⟨rfl,?_⟩
 have h1:=h.next r1 de (by omega)
 have c2:=KJ e A.1 μ1 A.2 s.c h1 r1.nd (hq.pre r1.pre)
 have r2:=vJ nG h1.g r1.nd (hq.pre r1.pre)
 rw[←eB]at c2 r2
 have l2:=r2.len
 refine Gi ?_
 refine Nf (bH e A.1 μ1) (iG x y s.c) (c2) ?_
 rintro _ _ ⟨μ2,dA,rfl,rfl⟩
 refine⟨rfl,?_⟩
 have h2:=h1.next r2 dA (by omega)
 have Er:=r1.pre.trans r2.pre
 refine Gi ?_
 refine bS _ _ ?_
 refine aD fun K3 cm=>?_
 refine ah (Kh ·) ?_
 refine bf rfl (fun ht=>?_) (fun ht=>?_)
 ·have aA:k+1<x.length:=by simp at ht;omega
  have c3:=ZF e B.1 μ2 (nth x k) (nth y k) s.c h2 (hx.pre Er) (hy.pre Er) (hq.pre Er)
  rw[←eM]at c3
  refine u5 ax hp hc mixed rfl [(0,[]),(1,[]),(2,[]),(3,[]),(4,[]),(5,[]),(6,[]),(7,[]),(8,[])] [[],[],[],[],[2,3],[2,3,4],[],[0,1,2,3,4,5,6],[0,1,2,3,4,5,6,7]] 0 (by kernel_rfl) fun K5 dx=>?_
  refine Gi ?_
  refine Nf (bH e B.1 μ2) (iG x y s.c) (c3) ?_
  rintro _ _ ⟨μ3,nP,rfl,rfl⟩
  refine⟨rfl,?_⟩
  refine Gi ?_
  refine dx _ _ (cm _ _ ?_)
  refine ah (NW ·) ?_
  refine bC hp (τ':=aF [(8,.d (iD B.2))]) (H':=bH e M.1 μ3++iG x y M.2) ?_ ?_
  ·refine Fw [0,1,2,3,4,5,6,7,8,9,10,11] ?_
   refine DE ?_
   exact Nd
  refine aM ?_
  refine dJ (t:=8) rfl ?_
  show ∃_,_
  rw[hR,hV,if_pos aA];exact⟨μ3,nP,rfl,rfl⟩
 ·have aA:¬k+1<x.length:=by simp at ht;omega
  refine bg (cm _ _ ?_)
  refine ah (NW ·) ?_
  refine bC hp (τ':=aF [(8,.d (iD B.2))]) (H':=bH e B.1 μ2++iG x y s.c) ?_ ?_
  ·refine Fw [0,1,2,3,4,5,6,7,8,9,10,11] ?_
   refine DE ?_
   exact Nd
  refine aM ?_
  refine dJ (t:=8) rfl ?_
  show ∃_,_
  rw[hR,hV,if_neg aA];exact⟨μ2,dA,rfl,rfl⟩
theorem yf8{m:Nat}{gs:Gs}{x y:List Int}{c:Int}{n k:Nat}(h2:2≤m)(h:GI m gs)(hn:n=x.length)(hx:eQ m gs x n)(hy:eQ m gs y n)(hc:bm m gs c)(hk:k≤n):Ss m (3*k) k gs (fD m gs x y c k):=by
 subst hn;exact EV h2 h hx hy hc k hk
def SmX(e:BE)(x y:List Int)(r:Sm)(z:AV)(S':av):Prop:=∃μ,ir (aB e) r.gs μ∧z= .d (ae r.l)∧S'=bH e r.gs μ++iG x y r.c
theorem W7{p q:Prop}(hq:q)(h:p=q:=by
 conv=>lhs;simp -dsimp -implicitDefEqProofs (disch:=first|assumption|omega|(simp only[aH,aQ,bc]<;>omega)|decide) only[aN,↓reduceIte,Nat.reduceEqDiff,Nat.reduceAdd,D.fix,Int.reduceToNat,Nat.reduceMul,Nat.reduceBNe,Nat.reduceBEq,ch,bH,bO,aK,aY,di,List.cons_append,List.nil_append,bP,iG]):p:=h.mpr hq
theorem D5{p q:Prop}(hq:q)(h:p=q:=by
 conv=>lhs;simp -dsimp -implicitDefEqProofs (disch:=first|assumption|omega|(simp only[aH,aQ,bc]<;>omega)|decide) only[aN,↓reduceIte,Nat.reduceEqDiff,Nat.reduceAdd,D.fix,Int.reduceToNat,Nat.reduceMul,Nat.reduceBNe,Nat.reduceBEq,ch,bH,bO,aK,aY,di,List.cons_append,List.nil_append,bP,iG,bw]):p:=h.mpr hq
theorem VF{p q:Prop}(hq:q)(h:p=q:=by
 conv=>lhs;simp only[cP,Nat.reduceAdd,↓reduceIte,Nat.reduceEqDiff,ch,bH,bO,aK,aY,di,List.cons_append,List.nil_append,bP,iG]):p:=h.mpr hq
theorem jm2(e:BE)(gs:Gs)(μ:Mp)(x y:List Int)(q:Int)(h:dM e gs μ)(hx:eQ (aB e) gs x x.length)(hy:eQ (aB e) gs y x.length)(mJ:y.length=x.length)(hq:bm (aB e) gs q)(hl:gs.length+3*x.length≤99990)(uw:x.length≤1000):cY prog [0,1,3,4,5,6,7,8,9,10,11] 138 [.d (ae x),.dC (.func 182) [] [.op 8 0,.op 10 0,.op 11 0,.op 9 0]] (bH e gs μ++iG x y q) (SmX e x y (fD (aB e) gs x y q x.length)):=by
 refine fX (fn:=f138) (by kernel_rfl) func138 rfl (cn rfl) fun c hc hp=>?_
 refine pX ?_
 unfold bH iG bP
 refine ah (W7 ·) ?_
 refine ah (D5 ·) ?_
 refine aD fun K3 cm=>?_
 refine ah (D5 ·) ?_
 refine aW ?_
 refine cU hp (fun τ' H' mm=>∃(k:Nat) (μ1:Mp),(k≤x.length∧ir (aB e) (fD (aB e) gs x y q k).gs μ1)∧mm=x.length - k∧H'=bH e (fD (aB e) gs x y q k).gs μ1++[bP,.cells [.d (ae x)],.cells [.d (ae y)],.cells [.d (iD (fD (aB e) gs x y q k).c)],di (fD (aB e) gs x y q k).l x.length]∧τ'=aF [(1,.dC (.func 182) [] [.op 8 0,.op 10 0,.op 11 0,.op 9 0]),(5,.os 1 12 0 x.length),(11,.d (ae x)),(12,.d (iD x.length)),(13,.d (iD k))]) (x.length) ?_ ⟨0,μ,⟨cF _,h.n⟩,rfl,rfl,rfl⟩ ?_
 ·refine DE ?_
  refine VF ?_;simp[fD,di,bH,bO,aK,iD,ak,iG,bP]
 rintro τ' H' mm ⟨k,μ1,⟨hk,de⟩,rfl,rfl,rfl⟩
 have hb:=yf8 nG h.g rfl hx hy hq hk
 have ej:=@jm0 (aB e) gs x y q k
 have jV:k=x.length→fD (aB e) gs x y q x.length=fD (aB e) gs x y q k:=fun e=>by rw[←e]
 generalize fD (aB e) gs x y q k=s at *
 have hw:s.l.length=k:=hb.bs.wid
 have sN:s.gs.length≤gs.length+3*k:=hb.bs.len
 have h1:dM e s.gs μ1:=⟨de,hb.bs.gi,h.i,by have:=h.l;omega⟩
 refine ah (D5 ·) ?_
 refine aD fun K6 cK=>?_
 refine bf rfl (fun ht=>?_) (fun ht=>?_)
 ·have aA:k<x.length:=by simp at ht;omega
  have cd:=xH hw aA (Fx (aB e) x y k s)
  have hR:=@ybn (aB e) x y k s
  refine bg (cK _ _ ?_)
  refine aD fun K7 cL=>?_
  refine aW ?_
  refine aZ hp ax hc rfl fun K8 dP=>?_
  simp -dsimp -implicitDefEqProofs (disch:=first|assumption|omega|(simp only[aH,aQ,bc]<;>omega)|decide) only[aN,↓reduceIte,Nat.reduceEqDiff,Nat.reduceAdd,D.fix,Int.reduceToNat,Nat.reduceMul,Nat.reduceBNe,Nat.reduceBEq,ch,bH,bO,aK,aY,di,List.cons_append,List.nil_append,bP,iG,db,bw]
  refine dP _ _ ?_
  refine bT hp ax hc rfl fun K9 cX=>?_
  refine D5 ?_
  refine BA (S:=bH e s.gs μ1++iG x y s.c) (T:=[di s.l x.length]) (jtv e μ1 x y k s h1 aA (by omega) ((hx k aA).pre hb.bs.pre) ((hy k aA).pre hb.bs.pre) hb.c (by omega) uw) rfl (by first|rfl|(simp[AV.aj,AV.allI,bo,bq,bp,aL,aO,bn,br,bH,bO,di,bP,iG];done)|(intro o ho;simp at ho;done)) (fun t=>fL (by first|rfl|(simp[AV.aj,AV.allI,bo,bq,bp,aL,aO,bn,br,bH,bO,di,bP,iG];done)|(intro o ho;simp at ho;done)) t) (by first|rfl|(simp[AV.aj,AV.allI,bo,bq,bp,aL,aO,bn,br,bH,bO,di,bP,iG];done)|(intro o ho;simp at ho;done)) (by first|rfl|(simp[AV.aj,AV.allI,bo,bq,bp,aL,aO,bn,br,bH,bO,di,bP,iG];done)|(intro o ho;simp at ho;done)) (by first|rfl|(simp[AV.aj,AV.allI,bo,bq,bp,aL,aO,bn,br,bH,bO,di,bP,iG];done)|(intro o ho;simp at ho;done)) ?_
  rintro _ _ ⟨μ2,dA,rfl,rfl⟩
  refine⟨rfl,?_⟩
  refine D5 ?_
  refine cX _ _ (cL _ _ ?_)
  refine bT hp ax hc rfl fun j4 bW=>?_
  refine D5 ?_
  refine bW _ _ ⟨_,_,_,?_,⟨k+1,μ2,⟨by omega,by rw[ej];exact dA⟩,rfl,rfl,rfl⟩,?_⟩
  ·first|omega|(simp only[List.length_cons];omega)|(dsimp only;omega)
  ·refine Fw [0,1,2,3,4,5,6,7,8,9,10,11,12] ?_
   refine DE ?_
   refine VF ?_;rw[ej,hR,←cd];simp[bH,bO,aK,ak,bP,iG,iD]
 ·have bM:k=x.length:=by simp at ht;omega
  have hz:s.l++List.replicate (x.length - s.l.length) (0:Int)=s.l:=by rw[hw,bM,Nat.sub_self];simp
  rw[hz]
  refine cJ (cm _ _ ?_)
  refine ah (W7 ·) ?_
  refine bC hp (τ':=aF [(4,.d (.fs (s.l.map iD) x.length))]) (H':=bH e s.gs μ1++iG x y s.c) ?_ ?_
  ·refine Rt.trans (Rt.fz (id:=12) (l:=(s.l.map iD)) rfl) ?_
   refine Rt.trans (Rt.slot 4 (mU (fE (by simp[hw,bM])))) ?_
   refine Fw [0,1,2,3,4,5,6,7,8,9,10,11] ?_
   refine DE ?_
   first|rfl|(simp only[cP,Nat.reduceAdd,↓reduceIte,Nat.reduceEqDiff,ch,bH,bO,aK,aY,di,List.cons_append,List.nil_append,bP,iG];first|done|rfl)
  refine aM ?_
  refine dJ (t:=4) rfl ?_
  show ∃_,_
  rw[jV bM];exact⟨μ1,de,by show AV.d (.fs (s.l.map iD) x.length)= .d (.fs (s.l.map iD) s.l.length);rw[hw,bM],rfl⟩
theorem ZE(e:BE)(gs:Gs)(μ:Mp)(x y:List Int)(q:Int)(h:dM e gs μ)(hx:eQ (aB e) gs x x.length)(hy:eQ (aB e) gs y x.length)(mJ:y.length=x.length)(hq:bm (aB e) gs q)(hl:gs.length+3*x.length≤99990)(uw:x.length≤1000):cY prog [0,1,3,4,5,6,7] 148 [.op 0 0,.d (ae x),.d (ae y),.d (iD q)] (bH e gs μ) (FF e ((fD (aB e) gs x y q x.length).gs,(fD (aB e) gs x y q x.length).l)):=by
 refine fX (fn:=f148) (by kernel_rfl) func148 rfl (cn rfl) fun c hc hp=>?_
 refine BJ ?_
 refine ah (Kh ·) ?_
 refine aZ hp ax hc rfl fun K2 bS=>?_
 refine Kh ?_
 refine rH (S:=bH e gs μ++iG x y q) (T:=[]) (jm2 e gs μ x y q h hx hy mJ hq hl uw) rfl (by first|rfl|(simp[AV.aj,AV.allI,bo,bq,bp,aL,aO,bn,br,bH,bO,bP,iG];done)|(intro o ho;simp at ho;done)) (fun t=>fL (by first|rfl|(simp[AV.aj,AV.allI,bo,bq,bp,aL,aO,bn,br,bH,bO,bP,iG];done)|(intro o ho;simp at ho;done)) t) (by first|rfl|(simp[AV.aj,AV.allI,bo,bq,bp,aL,aO,bn,br,bH,bO,bP,iG];done)|(intro o ho;simp at ho;done)) (by first|rfl|(simp[AV.aj,AV.allI,bo,bq,bp,aL,aO,bn,br,bH,bO,bP,iG];done)|(intro o ho;simp at ho;done)) (by first|rfl|(simp[AV.aj,AV.allI,bo,bq,bp,aL,aO,bn,br,bH,bO,bP,iG];done)|(intro o ho;simp at ho;done)) ?_
 rintro _ _ ⟨μ1,de,rfl,rfl⟩
 refine⟨rfl,?_⟩
 refine Kh ?_
 refine bS _ _ ?_
 refine bC hp (τ':=aF [(8,.d (ae (fD (aB e) gs x y q x.length).l))]) (H':=bH e (fD (aB e) gs x y q x.length).gs μ1) ?_ ?_
 ·refine Fw [0,1,2,3,4,5,6,7] ?_
  refine DE ?_
  exact Nd
 refine aM ?_
 refine dJ (t:=8) rfl ?_
 show ∃_,_
 exact⟨μ1,de,rfl,rfl⟩
end Go.Proofs.YtapjobndmmkanaaGreat
