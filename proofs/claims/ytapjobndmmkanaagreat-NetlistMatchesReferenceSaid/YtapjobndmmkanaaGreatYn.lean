/- netlist's builder: the bits of an expression. -/
import Derived.Test.YtapjobndmmkanaaGreatQr
import Derived.Test.YtapjobndmmkanaaGreatYm
set_option linter.unusedVariables false
set_option linter.unusedSimpArgs false
set_option maxRecDepth 100000
set_option maxHeartbeats 4000000
namespace Go.Proofs.YtapjobndmmkanaaGreat
open Go.Proofs.Tryz
open Go Go.RowKit
theorem ygm{t et:TypeId}(h0:j5 prog t=some (3,et)){a:Int}(ha:kJ a):pL prog t (.int .i64 a):=by
 refine⟨rfl,fun kt et' hm=>?_⟩
 rw[h0]at hm;cases hm
 exact Rz underlying3 ha
structure uU (e:BE):Prop where
 i:e.ins=aU e.p
 m:oU e.ins e.mi
 l:e.ins.length≤1000
 k:cB e.p
 rl:e.p.aC.length≤100
theorem uU.mp{e:BE}(h:uU e):mP e.p=aB e:=by unfold mP aB;rw[h.i]
def mu(e:BE)(gs:Gs)(ex:Ex):Gs × List Int:=dN (aR e.p) (cG e.p) (aB e) e.fo gs ex
theorem Lw{e:BE}(h:uU e)(gs:Gs)(ex:Ex):mu e gs ex=dW e.p e.fo gs ex:=by unfold mu dW;rw[h.mp]
def W1(e:BE)(q:Bool)(ex:Ex):Prop:=∀(gs:Gs) (μ:Mp),dM e gs μ→mo (aR e.p) q (aB e) gs e.fo→WT (aR e.p) q ex→gs.length+cf (aR e.p) ex≤90000→
 cY prog [0,1,3,4,5,6,7] 92 [.op 0 0,.agg ((gg ex).map .d)] (bH e gs μ) (FF e (mu e gs ex))
abbrev Ny:TypeId:=249
theorem u7{l:List Ex}{k:Nat}(h:k<l.length):ec (l.flatMap bR) (k*7) 7=some (gg (nth l k)):=by rw[←xJ];exact xF h
theorem Xu{f:Fn}{x y:Array Value}:lQ (.d (.val (.func f x y)))=some [.d (.val (.func f x y))]:=rfl
theorem ygn:lQ (.d (.val .nilFunc))=some [.d (.val .nilFunc)]:=rfl
theorem Xf{c:Ct}{q:Bool}{e:Ex}(h:WT c q e):1≤dv e∧dv e≤18:=by
 cases e with
 |two o a b=>rcases h.1 with rfl|rfl|rfl<;>simp[dv]
 |_=>simp[dv]
theorem Ji:Av prog KT Ny=some .nilFunc:=by kernel_rfl
theorem BD{a:Int}(h0: -1000000≤a)(h1:a≤1000000):pL prog Ny (.int .i64 a):=ygm (et:=248) (by kernel_rfl) (n9 (by omega) (by omega))
theorem Jh(o:Int):pM (.int .i64 o) (tG (.int .i64 5) (.func (.func 143) #[] #[]) (tG (.int .i64 4) (.func (.func 141) #[] #[]) (tG (.int .i64 3) (.func (.func 95) #[] #[]) ([],0))))=
  if o=5 then some (.func (.func 143) #[] #[])else if o=4 then some (.func (.func 141) #[] #[])else if o=3 then some (.func (.func 95) #[] #[])else none:=by
 classical
 rw[Fb rfl rfl,Fb rfl rfl,Fb rfl rfl]
 simp only[Value.int.injEq,true_and]
 rfl
theorem Jg{l:List (List Int)}(h:l.length=1):l=[nth l 0]:=by
 match l,h with
 |[a],_=>rfl
theorem AL{l:List (List Int)}(h:l.length=2):l=[nth l 0,nth l 1]:=by
 match l,h with
 |[a,b],_=>rfl
theorem yke{l:List (List Int)}(h:l.length=3):l=[nth l 0,nth l 1,nth l 2]:=by
 match l,h with
 |[a,b,d],_=>rfl
theorem jR{p q:Prop}(hq:q)(h:p=q:=by
 conv=>lhs;simp -dsimp -implicitDefEqProofs (disch:=first|assumption|omega|(simp only[aH,aQ,bc,gJ]<;>omega)|decide) only[aN,↓reduceIte,Nat.reduceEqDiff,Nat.reduceAdd,D.fix,Int.reduceToNat,Nat.reduceMul,Nat.reduceBNe,Nat.reduceBEq,ch,bH,bO,aK,aY,bP,gg,cv,nS,u7,mq,ao,List.cons_append,List.nil_append,bw]):p:=h.mpr hq
theorem jn(k:List Nat){m:List Nat}{τ τ1:Fr}{H H1:av}(h:Rt m (fun t=>du k (τ t)) (dg k H) τ1 H1)(a:∀i∈m,k[i]? =some i:=by decide)(b:k.Nodup:=by decide)(c:∀i∈k,i<H.length:=by
 simp[eJ,dg]):Rt m τ H τ1 H1:=Rt.trans (Rt.gc a b c) h
theorem jm{m:List Nat}{τ τ':Fr}{H H':av}(h2:H=H')(h:fw τ τ':=by
 repeat (first|exact cw _|refine cg ?_ (by first|rfl|(simp[aX,aQ,bc,gJ];done)|simp[aX,aQ,bc,gJ, *]))):Rt m τ H τ' H':=Rt.end h h2
theorem tT{p q:Prop}(hq:q)(h:p=q:=by
 conv=>lhs;simp -dsimp -implicitDefEqProofs (disch:=first|assumption|omega|(simp only[aH,aQ,bc,gJ]<;>omega)|decide) only[aN,↓reduceIte,Nat.reduceEqDiff,Nat.reduceAdd,D.fix,Int.reduceToNat,Nat.reduceMul,Nat.reduceBNe,Nat.reduceBEq,mC,ch,bH,bO,aK,aY,bP,gg,cv,nS,u7,mq,ao,List.cons_append,List.nil_append,bw]):p:=h.mpr hq
theorem yN{P:Program}{sm:List Nat}{N:Nat}{τ0 τ:Fr}{H:av}{f:FuncId}{args:List AV}{K0 KK:AV→av→Prop}{ks:List Nat}(S T:av)(h:cY P ks f args S K0)(hK:∀x S',K0 x S'→S'.length=S.length∧KK x (S'++T))(hH:H=S++T:=by
 rfl) (hN:S.length≤N:=by
 exact cn rfl) (hm:sm.all (aL ks S.length)=true:=by
 first|rfl|(simp[AV.aj,AV.allI,bo,bq,bp,aL,aO,bn,br,bH,bO,bP,gg,cv];done)|(intro o ho;simp at ho;done)) (hτ:∀t,(τ t).allI (aL ks S.length)=true:=by
 exact fun t=>fL (by first|rfl|(simp[AV.aj,AV.allI,bo,bq,bp,aL,aO,bn,br,bH,bO,bP,gg,cv];done)|(intro o ho;simp at ho;done)) t) (h0:∀t,(τ0 t).allI (aL ks S.length)=true:=by
 exact fun t=>fL (by first|rfl|(simp[AV.aj,AV.allI,bo,bq,bp,aL,aO,bn,br,bH,bO,bP,gg,cv];done)|(intro o ho;simp at ho;done)) t) (ha:AV.aj (aO S.length) args=true:=by
 first|rfl|(simp[AV.aj,AV.allI,bo,bq,bp,aL,aO,bn,br,bH,bO,bP,gg,cv];done)|(intro o ho;simp at ho;done)) (hS:∀o∈S,o.allI (aO S.length)=true:=by
 first|rfl|(simp[AV.aj,AV.allI,bo,bq,bp,aL,aO,bn,br,bH,bO,bP,gg,cv];done)|(intro o ho;simp at ho;done)) (hT:∀o∈T,o.allI (aL ks S.length)=true:=by
 first|rfl|(simp[AV.aj,AV.allI,bo,bq,bp,aL,aO,bn,br,bH,bO,bP,gg,cv];done)|(intro o ho;simp at ho;done)):kE P sm N τ0 τ H (.d (.val (.func (.func f) #[] #[]))) args (tg KK):=tm h hH hN hm hτ h0 ha hS hT hK
theorem J9{p q r:Prop}(e:r)(hq:q)(h:r→p=q:=by
 intro hY
 conv=>lhs;simp -dsimp -implicitDefEqProofs (disch:=first|assumption|omega|(simp only[aH,aQ,bc,gJ]<;>omega)|decide) only[aN,↓reduceIte,Nat.reduceEqDiff,Nat.reduceAdd,D.fix,Int.reduceToNat,Nat.reduceMul,Nat.reduceBNe,Nat.reduceBEq,ch,bH,bO,aK,aY,bP,gg,cv,nS,u7,mq,ao,List.cons_append,List.nil_append,Xu,ygn,vK,Yv Ji qO o3,Option.getD_some,Option.getD_none,Option.isSome_some,Option.isSome_none,bw,hY]):p:=(h e).mpr hq
theorem J8{p q:Prop}(hq:q)(h:p=q:=by
 conv=>lhs;simp -dsimp -implicitDefEqProofs (disch:=first|assumption|omega|(simp only[aH,aQ,bc,gJ]<;>omega)|decide) only[aN,↓reduceIte,Nat.reduceEqDiff,Nat.reduceAdd,D.fix,Int.reduceToNat,Nat.reduceMul,Nat.reduceBNe,Nat.reduceBEq,ch,bH,bO,aK,aY,bP,gg,cv,nS,u7,mq,ao,List.cons_append,List.nil_append]):p:=h.mpr hq
theorem FE{P:Program}{sm:List Nat}{N:Nat}{τ:Fr}{H:av}{f:FuncId}{args:List AV}{K0 KK:AV→av→Prop}{ks:List Nat}(S T:av)(h:cY P ks f args S K0)(hK:∀x S',K0 x S'→S'.length=S.length∧KK x (S'++T))(hH:H=S++T:=by
 rfl) (hm:sm.all (aL ks S.length)=true:=by
 first|rfl|(simp[AV.aj,AV.allI,bo,bq,bp,aL,aO,bn,br,bH,bO,bP,gg,cv];done)|(intro o ho;simp at ho;done)) (hτ:∀t,(τ t).allI (aL ks S.length)=true:=by
 exact fun t=>fL (by first|rfl|(simp[AV.aj,AV.allI,bo,bq,bp,aL,aO,bn,br,bH,bO,bP,gg,cv];done)|(intro o ho;simp at ho;done)) t) (ha:AV.aj (aO S.length) args=true:=by
 first|rfl|(simp[AV.aj,AV.allI,bo,bq,bp,aL,aO,bn,br,bH,bO,bP,gg,cv];done)|(intro o ho;simp at ho;done)) (hS:∀o∈S,o.allI (aO S.length)=true:=by
 first|rfl|(simp[AV.aj,AV.allI,bo,bq,bp,aL,aO,bn,br,bH,bO,bP,gg,cv];done)|(intro o ho;simp at ho;done)) (hT:∀o∈T,o.allI (aL ks S.length)=true:=by
 first|rfl|(simp[AV.aj,AV.allI,bo,bq,bp,aL,aO,bn,br,bH,bO,bP,gg,cv];done)|(intro o ho;simp at ho;done)):kC P sm N H τ (.d (.val (.func (.func f) #[] #[]))) args true (tg KK):=rH h hH hm hτ ha hS hT hK
theorem J7{p q r:Prop}(e:r)(hq:q)(h:r→p=q:=by
 intro hY
 conv=>lhs;simp -dsimp -implicitDefEqProofs (disch:=first|assumption|omega|(simp only[aH,aQ,bc,gJ]<;>omega)|decide) only[aN,↓reduceIte,Nat.reduceEqDiff,Nat.reduceAdd,D.fix,Int.reduceToNat,Nat.reduceMul,Nat.reduceBNe,Nat.reduceBEq,mC,ch,bH,bO,aK,aY,bP,gg,cv,nS,u7,mq,ao,List.cons_append,List.nil_append,bw,hY]):p:=(h e).mpr hq
theorem J6{p q r:Prop}(e:r)(hq:q)(h:r→p=q:=by
 intro hY
 conv=>lhs;simp -dsimp -implicitDefEqProofs (disch:=first|assumption|omega|(simp only[aH,aQ,bc,gJ]<;>omega)|decide) only[aN,↓reduceIte,Nat.reduceEqDiff,Nat.reduceAdd,D.fix,Int.reduceToNat,Nat.reduceMul,Nat.reduceBNe,Nat.reduceBEq,ch,bH,bO,aK,aY,bP,gg,cv,nS,u7,mq,ao,List.cons_append,List.nil_append,false_and,bw,hY]):p:=(h e).mpr hq
theorem Xe{p q r:Prop}(e:r)(hq:q)(h:r→p=q:=by
 intro hY
 conv=>lhs;simp -dsimp -implicitDefEqProofs (disch:=first|assumption|omega|(simp only[aH,aQ,bc,gJ]<;>omega)|decide) only[aN,↓reduceIte,Nat.reduceEqDiff,Nat.reduceAdd,D.fix,Int.reduceToNat,Nat.reduceMul,Nat.reduceBNe,Nat.reduceBEq,ch,bH,bO,aK,aY,bP,gg,cv,nS,u7,mq,ao,List.cons_append,List.nil_append,bw,hY]):p:=(h e).mpr hq
theorem MO{p q:Prop}(hq:q)(h:p=q:=by
 conv=>lhs;simp only[cP,Nat.reduceAdd,↓reduceIte,Nat.reduceEqDiff,ch,bH,bO,aK,aY,bP,gg,cv,nS,u7,mq,ao,List.cons_append,List.nil_append]):p:=h.mpr hq
theorem jN{p:Prop}(h:p:=by
 first|rfl|(simp only[cP,Nat.reduceAdd,↓reduceIte,Nat.reduceEqDiff,ch,bH,bO,aK,aY,bP,gg,cv,nS,u7,mq,ao,List.cons_append,List.nil_append];first|done|rfl)):p:=h
theorem yb3(e:BE)(he:uU e)(q:Bool)(ex:Ex)(ih:∀k,k<(aJ ex).length→W1 e q (nth (aJ ex) k))(gs:Gs)(μ:Mp)(h:dM e gs μ)(uJ:mo (aR e.p) q (aB e) gs e.fo)(cu:WT (aR e.p) q ex)(fT:gs.length+cf (aR e.p) ex≤90000):cY prog [0,1,3,4,5,6,7] 92 [.op 0 0,.agg ((gg ex).map .d)] (bH e gs μ) (FF e (mu e gs ex)):=by
 refine fX (fn:=f92) (by kernel_rfl) func92 rfl (cn rfl) fun c hc hp=>?_
 refine pX ?_
 obtain⟨S,hS⟩:∃S:Nat→Gs × List (List Int),S=wc (mu e) gs (aJ ex):=⟨_,rfl⟩
 have En:∀k,k≤(aJ ex).length→w7 (aR e.p) (aB e) gs (aJ ex) k (S k):=by
  rw[hS];exact OG (q:=q) nG he.k.ct (by rw[←he.mp];exact JY he.k) h.g uJ (fR cu)
 have mM:=jc1 (c:=aR e.p) (e:=ex)
 have Eo:(aJ ex).length≤3:=by cases ex<;>simp[aJ]
 have i1:=h.i;have l1:=h.l
 refine ah (jR ·) ?_
 refine ah (jR ·) ?_
 refine aD fun K3 cm=>?_
 refine ah (jR ·) ?_
 refine aW ?_
 refine cU hp (fun τ' H' mm=>∃(k:Nat) (μ1:Mp),(k≤(aJ ex).length∧ir (aB e) (S k).1 μ1)∧mm=(aJ ex).length - k∧H'=bH e (S k).1 μ1++[bP,.cells (ak (gg ex)),.cells [.os 1 11 0 k],.cells (ak ((S k).2.map ae))]∧τ'=aF [(2,.op 8 0),(3,.op 9 0),(5,.op 10 0),(15,.d (.fs ((aJ ex).flatMap bR) (aJ ex).length)),(16,.d (iD (aJ ex).length)),(17,.d (iD k))]) ((aJ ex).length) ?_ ⟨0,μ,⟨cF _,by rw[hS];exact h.n⟩,rfl,rfl,rfl⟩ ?_
 ·refine Rt.trans (Rt.fm 10 0 1 rfl rfl) ?_
  refine jn [0,1,2,3,4,5,6,7,8,9,10,11] ?_
  refine jm ?_
  refine MO ?_;rw[hS];simp[wc,bH,bO,bP,ak,gg,cv,iD]
 rintro τ' H' mm ⟨k,μ1,⟨hk,de⟩,rfl,rfl,rfl⟩
 refine ah (jR ·) ?_
 refine aD fun K6 cK=>?_
 refine bf rfl (fun ht=>?_) (fun ht=>?_)
 ·have aA:k<(aJ ex).length:=by simp at ht;omega
  have ha:=En k hk
  have oP:=ha.ln
  have uK:=Md (c:=aR e.p) (l:=aJ ex) (show k+1≤(aJ ex).length by omega)
  have hle:=ha.len
  rw[kv]at uK
  have h1:dM e (S k).1 μ1:=⟨de,ha.gi,h.i,by omega⟩
  have c8:=ih k aA (S k).1 μ1 h1 (uJ.pre ha.pre) (fR cu k aA) (by omega)
  have es:S (k+1)=((mu e (S k).1 (nth (aJ ex) k)).1,(S k).2++[(mu e (S k).1 (nth (aJ ex) k)).2]):=by rw[hS,wc]
  clear hS
  refine bg (cK _ _ ?_)
  refine aD fun K7 cL=>?_
  refine aW ?_
  refine ah (jR ·) ?_
  refine u5 ax hp hc mixed rfl [(0,[]),(1,[]),(2,[]),(3,[0]),(4,[]),(5,[]),(6,[])] [[],[],[],[1,2],[1,2,3],[0,1,2,3,4],[0,1,2,3,4,5]] 1 (by kernel_rfl) fun K9 cX=>?_
  refine tT ?_
  refine yN (bH e (S k).1 μ1) ([bP,.cells (ak (gg ex)),.cells [.os 1 11 0 k],.cells (ak ((S k).2.map ae)),.cells (ak (gg (nth (aJ ex) k))),.free]) (c8) ?_
  rintro _ _ ⟨μ2,dA,rfl,rfl⟩
  refine⟨rfl,?_⟩
  refine tT ?_
  refine cX _ _ (cL _ _ ?_)
  refine bT hp ax hc rfl fun j4 bW=>?_
  refine jR ?_
  refine bW _ _ ⟨_,_,_,?_,⟨k+1,μ2,⟨by omega,by rw[es];exact dA⟩,rfl,rfl,rfl⟩,?_⟩
  ·first|omega|(simp only[List.length_cons];omega)|(dsimp only;omega)
  ·refine jn [0,1,2,3,4,5,6,7,8,9,10,14] ?_
   refine jm ?_
   refine MO ?_;simp[es,iD,ae,bH,bO,bP,ak,gg,cv,aK]
 ·have bM:k=(aJ ex).length:=by simp at ht;omega
  subst bM
  have ha:=En _ (bJ _)
  have hle:=ha.len
  have oP:=ha.ln
  obtain⟨T,hT⟩:∃T,T=S (aJ ex).length:=⟨_,rfl⟩
  rw[←hT]at ha hle de oP
  rw[←hT]
  have h1:dM e T.1 μ1:=⟨de,ha.gi,h.i,by omega⟩
  have Hq:=uJ.pre ha.pre
  have y9:ec (T.2.map ae) 0 (aJ ex).length=some (T.2.map ae):=fE (by simp[oP])
  refine cJ (cm _ _ ?_)
  refine bC hp (τ':=aF [(2,.op 8 0),(3,.op 9 0),(5,.op 10 0)]) (H':=bH e T.1 μ1++[bP,.cells (ak (gg ex)),.cells [.d (.fs (T.2.map ae) (aJ ex).length)]]) ?_ ?_
  ·refine Rt.trans (Rt.fz (id:=11) (l:=(T.2.map ae)) rfl) ?_
   refine jn [0,1,2,3,4,5,6,7,8,9,10] ?_
   refine jm ?_
   refine MO ?_;simp only[bH,bO,bP,gg,cv,nS,iD,List.cons_append,List.nil_append,y9];rfl
  refine dO ax hc mixed rfl (q:=1) (by kernel_rfl) (by kernel_rfl) fun mh cQ=>?_
  refine jR ?_
  refine cQ _ _ ?_
  have k3:=BD (a:=3) (by decide) (by decide)
  have k4:=BD (a:=4) (by decide) (by decide)
  have k5:=BD (a:=5) (by decide) (by decide)
  have o1:qZ prog Ny (tG (.int .i64 3) (.func (.func 95) #[] #[]) ([],0)):=(qZ.nil _ _).put k3
  have o2:=o1.put (v:=.func (.func 141) #[] #[]) k4
  have o3:=o2.put (v:=.func (.func 143) #[] #[]) k5
  refine aZ hp ax hc rfl fun lK bN=>?_
  simp -dsimp -implicitDefEqProofs (disch:=first|assumption|omega|(simp only[aH,aQ,bc,gJ]<;>omega)|decide) only[aN,↓reduceIte,Nat.reduceEqDiff,Nat.reduceAdd,D.fix,Int.reduceToNat,Nat.reduceMul,Nat.reduceBNe,Nat.reduceBEq,ch,bH,bO,aK,aY,bP,gg,cv,nS,u7,mq,ao,List.cons_append,List.nil_append,GB Ji k3 (qZ.nil _ _),GB Ji k4 o1,GB Ji k5 o2,bw]
  refine bN _ _ ?_
  refine aD fun nV df=>?_
  refine aZ hp ax hc rfl fun re dT=>?_
  rcases(show dv ex=3∨dv ex=4∨dv ex=5∨(dv ex≠3∧dv ex≠4∧dv ex≠5) by omega)with ho|ho|ho|ho
  ·have qO:=BD (a:=dv ex) (by omega) (by omega)
   have jv:=Jh (dv ex)
   rw[if_neg (by omega),if_neg (by omega),if_pos ho]at jv
   refine J9 jv ?_
   refine dT _ _ ?_
   refine ah (J8 ·) ?_
   refine dh ?_
   obtain⟨a,b,c7⟩:∃a b,ex= .two 3 a b:=by
    have hv:dv ex=3:=ho
    rcases qC cu with⟨v,w,rfl⟩|⟨i,rfl⟩|⟨i,rfl⟩|⟨a,rfl⟩|⟨a,b,rfl⟩|⟨a,b,rfl⟩|⟨a,b,rfl⟩|⟨a,b,rfl⟩|⟨a,b,rfl⟩|⟨a,b,rfl⟩|⟨a,b,rfl⟩|⟨a,b,d,rfl⟩|⟨a,b,rfl⟩|⟨i,w,a,rfl⟩|⟨w,a,rfl⟩|⟨i,a,rfl⟩<;>first|exact⟨_,_,rfl⟩|(exfalso;revert hv;simp[dv];done)
   subst c7
   obtain⟨X,hX⟩:∃X,X=nth T.2 0:=⟨_,rfl⟩
   have wX:X.length=bV (aR e.p) a:=by rw[hX];exact ha.wid 0 (by simp[aJ])
   have nX:eQ (aB e) T.1 X X.length:=fun i hi=>by rw[hX];exact ha.nd 0 (by simp[aJ]) i (by rw[wX]at hi;exact hi)
   have bX:=fv he.k.ct (fR cu 0 (by simp[aJ]))
   simp only[aJ,nth,List.getD_cons_zero,List.getD_cons_succ]at bX
   obtain⟨Y,hY⟩:∃Y,Y=nth T.2 1:=⟨_,rfl⟩
   have wY:Y.length=bV (aR e.p) b:=by rw[hY];exact ha.wid 1 (by simp[aJ])
   have nY:eQ (aB e) T.1 Y Y.length:=fun i hi=>by rw[hY];exact ha.nd 1 (by simp[aJ]) i (by rw[wY]at hi;exact hi)
   have bY:=fv he.k.ct (fR cu 1 (by simp[aJ]))
   simp only[aJ,nth,List.getD_cons_zero,List.getD_cons_succ]at bY
   have hL:T.2=[X,Y]:=by rw[hX];rw[hY];exact AL ha.ln
   have FK:=cu.2.2.2
   have mI:Y.length=X.length:=by rw[wX,wY];exact FK.symm
   have vk:eQ (aB e) T.1 Y X.length:=by rw[←mI];exact nY
   have bE:mu e gs (.two 3 a b)=rr (aB e) T.1 X Y X.length:=by rw[hX,hY,hT,hS];rfl
   have ux:cf (aR e.p) (.two 3 a b)=cf (aR e.p) a+cf (aR e.p) b+bV (aR e.p) a:=rfl
   have zn:kv (aR e.p) (aJ (.two 3 a b)) (aJ (.two 3 a b)).length=cf (aR e.p) a+cf (aR e.p) b:=by simp[aJ,kv,nth]
   rw[hL]
   refine bC hp (τ':=aF [(2,.op 8 0),(5,.op 9 0),(11,.op 10 0)]) (H':=bH e T.1 μ1++[bP,.cells [.d (ao [X,Y])],.cells [.d (.val (.func (.func 95) #[] #[]))]]) ?_ ?_
   ·refine jn [0,1,2,3,4,5,6,7,8,10,13] ?_
    refine jm ?_
    exact jN
   refine aZ hp ax hc rfl fun pE dB=>?_
   refine jR ?_
   refine FE (bH e T.1 μ1++[bP,.cells [.d (ao [X,Y])],.cells [.d (.val (.func (.func 95) #[] #[]))]]) ([]) (jm6 e T.1 μ1 X Y h1 nX vk mI (by omega) (by omega)) ?_
   rintro _ _ ⟨μ2,dA,rfl,rfl⟩
   refine⟨rfl,?_⟩
   refine jR ?_
   refine dB _ _ ?_
   refine bC hp (τ':=aF [(4,.d (ae (rr (aB e) T.1 X Y X.length).2))]) (H':=bH e (rr (aB e) T.1 X Y X.length).1 μ2) ?_ ?_
   ·refine jn [0,1,2,3,4,5,6,7] ?_
    refine jm ?_
    exact jN
   refine aM ?_
   refine dJ (t:=4) rfl ?_
   show ∃_,_
   rw[bE];exact⟨μ2,dA,rfl,rfl⟩
  ·have qO:=BD (a:=dv ex) (by omega) (by omega)
   have jv:=Jh (dv ex)
   rw[if_neg (by omega),if_pos ho]at jv
   refine J9 jv ?_
   refine dT _ _ ?_
   refine ah (J8 ·) ?_
   refine dh ?_
   obtain⟨a,b,c7⟩:∃a b,ex= .two 4 a b:=by
    have hv:dv ex=4:=ho
    rcases qC cu with⟨v,w,rfl⟩|⟨i,rfl⟩|⟨i,rfl⟩|⟨a,rfl⟩|⟨a,b,rfl⟩|⟨a,b,rfl⟩|⟨a,b,rfl⟩|⟨a,b,rfl⟩|⟨a,b,rfl⟩|⟨a,b,rfl⟩|⟨a,b,rfl⟩|⟨a,b,d,rfl⟩|⟨a,b,rfl⟩|⟨i,w,a,rfl⟩|⟨w,a,rfl⟩|⟨i,a,rfl⟩<;>first|exact⟨_,_,rfl⟩|(exfalso;revert hv;simp[dv];done)
   subst c7
   obtain⟨X,hX⟩:∃X,X=nth T.2 0:=⟨_,rfl⟩
   have wX:X.length=bV (aR e.p) a:=by rw[hX];exact ha.wid 0 (by simp[aJ])
   have nX:eQ (aB e) T.1 X X.length:=fun i hi=>by rw[hX];exact ha.nd 0 (by simp[aJ]) i (by rw[wX]at hi;exact hi)
   have bX:=fv he.k.ct (fR cu 0 (by simp[aJ]))
   simp only[aJ,nth,List.getD_cons_zero,List.getD_cons_succ]at bX
   obtain⟨Y,hY⟩:∃Y,Y=nth T.2 1:=⟨_,rfl⟩
   have wY:Y.length=bV (aR e.p) b:=by rw[hY];exact ha.wid 1 (by simp[aJ])
   have nY:eQ (aB e) T.1 Y Y.length:=fun i hi=>by rw[hY];exact ha.nd 1 (by simp[aJ]) i (by rw[wY]at hi;exact hi)
   have bY:=fv he.k.ct (fR cu 1 (by simp[aJ]))
   simp only[aJ,nth,List.getD_cons_zero,List.getD_cons_succ]at bY
   have hL:T.2=[X,Y]:=by rw[hX];rw[hY];exact AL ha.ln
   have FK:=cu.2.2.2
   have mI:Y.length=X.length:=by rw[wX,wY];exact FK.symm
   have vk:eQ (aB e) T.1 Y X.length:=by rw[←mI];exact nY
   have bE:mu e gs (.two 4 a b)=rP (aB e) T.1 X Y X.length:=by rw[hX,hY,hT,hS];rfl
   have ux:cf (aR e.p) (.two 4 a b)=cf (aR e.p) a+cf (aR e.p) b+bV (aR e.p) a:=rfl
   have zn:kv (aR e.p) (aJ (.two 4 a b)) (aJ (.two 4 a b)).length=cf (aR e.p) a+cf (aR e.p) b:=by simp[aJ,kv,nth]
   rw[hL]
   refine bC hp (τ':=aF [(2,.op 8 0),(5,.op 9 0),(11,.op 10 0)]) (H':=bH e T.1 μ1++[bP,.cells [.d (ao [X,Y])],.cells [.d (.val (.func (.func 141) #[] #[]))]]) ?_ ?_
   ·refine jn [0,1,2,3,4,5,6,7,8,10,13] ?_
    refine jm ?_
    exact jN
   refine aZ hp ax hc rfl fun zD iW=>?_
   refine jR ?_
   refine FE (bH e T.1 μ1++[bP,.cells [.d (ao [X,Y])],.cells [.d (.val (.func (.func 141) #[] #[]))]]) ([]) (jt3 e T.1 μ1 X Y h1 nX vk mI (by omega) (by omega)) ?_
   rintro _ _ ⟨μ2,dA,rfl,rfl⟩
   refine⟨rfl,?_⟩
   refine jR ?_
   refine iW _ _ ?_
   refine bC hp (τ':=aF [(4,.d (ae (rP (aB e) T.1 X Y X.length).2))]) (H':=bH e (rP (aB e) T.1 X Y X.length).1 μ2) ?_ ?_
   ·refine jn [0,1,2,3,4,5,6,7] ?_
    refine jm ?_
    exact jN
   refine aM ?_
   refine dJ (t:=4) rfl ?_
   show ∃_,_
   rw[bE];exact⟨μ2,dA,rfl,rfl⟩
  ·have qO:=BD (a:=dv ex) (by omega) (by omega)
   have jv:=Jh (dv ex)
   rw[if_pos ho]at jv
   refine J9 jv ?_
   refine dT _ _ ?_
   refine ah (J8 ·) ?_
   refine dh ?_
   obtain⟨a,b,c7⟩:∃a b,ex= .two 5 a b:=by
    have hv:dv ex=5:=ho
    rcases qC cu with⟨v,w,rfl⟩|⟨i,rfl⟩|⟨i,rfl⟩|⟨a,rfl⟩|⟨a,b,rfl⟩|⟨a,b,rfl⟩|⟨a,b,rfl⟩|⟨a,b,rfl⟩|⟨a,b,rfl⟩|⟨a,b,rfl⟩|⟨a,b,rfl⟩|⟨a,b,d,rfl⟩|⟨a,b,rfl⟩|⟨i,w,a,rfl⟩|⟨w,a,rfl⟩|⟨i,a,rfl⟩<;>first|exact⟨_,_,rfl⟩|(exfalso;revert hv;simp[dv];done)
   subst c7
   obtain⟨X,hX⟩:∃X,X=nth T.2 0:=⟨_,rfl⟩
   have wX:X.length=bV (aR e.p) a:=by rw[hX];exact ha.wid 0 (by simp[aJ])
   have nX:eQ (aB e) T.1 X X.length:=fun i hi=>by rw[hX];exact ha.nd 0 (by simp[aJ]) i (by rw[wX]at hi;exact hi)
   have bX:=fv he.k.ct (fR cu 0 (by simp[aJ]))
   simp only[aJ,nth,List.getD_cons_zero,List.getD_cons_succ]at bX
   obtain⟨Y,hY⟩:∃Y,Y=nth T.2 1:=⟨_,rfl⟩
   have wY:Y.length=bV (aR e.p) b:=by rw[hY];exact ha.wid 1 (by simp[aJ])
   have nY:eQ (aB e) T.1 Y Y.length:=fun i hi=>by rw[hY];exact ha.nd 1 (by simp[aJ]) i (by rw[wY]at hi;exact hi)
   have bY:=fv he.k.ct (fR cu 1 (by simp[aJ]))
   simp only[aJ,nth,List.getD_cons_zero,List.getD_cons_succ]at bY
   have hL:T.2=[X,Y]:=by rw[hX];rw[hY];exact AL ha.ln
   have FK:=cu.2.2.2
   have mI:Y.length=X.length:=by rw[wX,wY];exact FK.symm
   have vk:eQ (aB e) T.1 Y X.length:=by rw[←mI];exact nY
   have bE:mu e gs (.two 5 a b)=rp (aB e) T.1 X Y X.length:=by rw[hX,hY,hT,hS];rfl
   have ux:cf (aR e.p) (.two 5 a b)=cf (aR e.p) a+cf (aR e.p) b+bV (aR e.p) a:=rfl
   have zn:kv (aR e.p) (aJ (.two 5 a b)) (aJ (.two 5 a b)).length=cf (aR e.p) a+cf (aR e.p) b:=by simp[aJ,kv,nth]
   rw[hL]
   refine bC hp (τ':=aF [(2,.op 8 0),(5,.op 9 0),(11,.op 10 0)]) (H':=bH e T.1 μ1++[bP,.cells [.d (ao [X,Y])],.cells [.d (.val (.func (.func 143) #[] #[]))]]) ?_ ?_
   ·refine jn [0,1,2,3,4,5,6,7,8,10,13] ?_
    refine jm ?_
    exact jN
   refine aZ hp ax hc rfl fun sX fa=>?_
   refine jR ?_
   refine FE (bH e T.1 μ1++[bP,.cells [.d (ao [X,Y])],.cells [.d (.val (.func (.func 143) #[] #[]))]]) ([]) (jm8 e T.1 μ1 X Y h1 nX vk mI (by omega) (by omega)) ?_
   rintro _ _ ⟨μ2,dA,rfl,rfl⟩
   refine⟨rfl,?_⟩
   refine jR ?_
   refine fa _ _ ?_
   refine bC hp (τ':=aF [(4,.d (ae (rp (aB e) T.1 X Y X.length).2))]) (H':=bH e (rp (aB e) T.1 X Y X.length).1 μ2) ?_ ?_
   ·refine jn [0,1,2,3,4,5,6,7] ?_
    refine jm ?_
    exact jN
   refine aM ?_
   refine dJ (t:=4) rfl ?_
   show ∃_,_
   rw[bE];exact⟨μ2,dA,rfl,rfl⟩
  ·have qO:=BD (a:=dv ex) (by have:=Xf cu;omega) (by have:=Xf cu;omega)
   have jv:=Jh (dv ex)
   rw[if_neg (by omega),if_neg (by omega),if_neg (by omega)]at jv
   refine J9 jv ?_
   refine dT _ _ ?_
   refine ah (J8 ·) ?_
   refine bA ?_
   refine bg (df _ _ ?_)
   refine aD fun yi ik=>?_
   refine ah (jR ·) ?_
   refine aW ?_
   refine ah (jR ·) ?_
   refine bf rfl (fun ht=>?_) (fun ht=>?_)
   ·obtain⟨v,w,c7⟩:∃v w,ex= .ny v w:=by
     have hv:dv ex=1:=by simpa using ht
     rcases qC cu with⟨v,w,rfl⟩|⟨i,rfl⟩|⟨i,rfl⟩|⟨a,rfl⟩|⟨a,b,rfl⟩|⟨a,b,rfl⟩|⟨a,b,rfl⟩|⟨a,b,rfl⟩|⟨a,b,rfl⟩|⟨a,b,rfl⟩|⟨a,b,rfl⟩|⟨a,b,d,rfl⟩|⟨a,b,rfl⟩|⟨i,w,a,rfl⟩|⟨w,a,rfl⟩|⟨i,a,rfl⟩<;>first|exact⟨_,_,rfl⟩|(exfalso;revert hv;simp[dv];done)
    subst c7
    have nM:=cu.2.1
    have hv:=cu.2.2
    have Pm:v<2^62:=Nat.lt_of_lt_of_le hv (Nat.pow_le_pow_right (by decide) (by omega))
    have bE:mu e gs (.ny v w)=rj T.1 v w:=by rw[rj,LX,hT,hS];rfl
    refine bC hp (τ':=aF [(8,.op 8 0),(9,.d (iD w))]) (H':=bH e T.1 μ1++[.cells [.d (iD v)]]) ?_ ?_
    ·refine jn [0,1,2,3,4,5,6,7,11] ?_
     refine jm ?_
     exact jN
    refine aZ hp ax hc rfl fun C0 jY=>?_
    refine jR ?_
    refine FE (bH e T.1 μ1++[.cells [.d (iD v)],.cells (ak (List.replicate w (iD 0)))]) ([]) (jna e T.1 μ1 v w h1 Pm (by omega)) ?_
    rintro _ _ ⟨μ2,dA,rfl,rfl⟩
    refine⟨rfl,?_⟩
    refine jR ?_
    refine jY _ _ ?_
    refine bC hp (τ':=aF [(4,.d (ae (rj T.1 v w).2))]) (H':=bH e (rj T.1 v w).1 μ2) ?_ ?_
    ·refine jn [0,1,2,3,4,5,6,7] ?_
     refine jm ?_
     exact jN
    refine aM ?_
    refine dJ (t:=4) rfl ?_
    show ∃_,_
    rw[bE];exact⟨μ2,dA,rfl,rfl⟩
   ·have m2:dv ex≠1:=by simpa using ht
    refine ah (jR ·) ?_
    refine bf rfl (fun ht=>?_) (fun ht=>?_)
    ·obtain⟨i,c7⟩:∃i,ex= .gQ i:=by
      have hv:dv ex=16:=by simpa using ht
      rcases qC cu with⟨v,w,rfl⟩|⟨i,rfl⟩|⟨i,rfl⟩|⟨a,rfl⟩|⟨a,b,rfl⟩|⟨a,b,rfl⟩|⟨a,b,rfl⟩|⟨a,b,rfl⟩|⟨a,b,rfl⟩|⟨a,b,rfl⟩|⟨a,b,rfl⟩|⟨a,b,d,rfl⟩|⟨a,b,rfl⟩|⟨i,w,a,rfl⟩|⟨w,a,rfl⟩|⟨i,a,rfl⟩<;>first|exact⟨_,rfl⟩|(exfalso;revert hv;simp[dv];done)
     subst c7
     have gL:i<e.p.aC.length:=by have:=cu;simpa[WT,aR]using this
     have em:nth (aR e.p).aC i=(nth e.p.aC i).w:=tE gL
     have Px:=he.k.ct.r i cu
     rw[em]at Px
     have p7:=he.rl
     have m1:=N7 gL
     have pe:∀k,k<(nth e.p.aC i).w→(⟨1,(i:Int),(k:Int)⟩:aT)∈e.ins:=fun k hk=>by rw[he.i];exact y3 gL hk
     have bE:mu e gs (.gQ i)=ri e.ins T.1 i (nth e.p.aC i).w:=by rw[ri,LX,he.i,←em,hT,hS];rfl
     have ju:(0<(nth e.p.aC i).w)=True:=by simp;omega
     refine bC hp (τ':=aF [(2,.op 8 0),(8,.op 9 0)]) (H':=bH e T.1 μ1++[bP,.cells [.d (iD i)]]) ?_ ?_
     ·refine jn [0,1,2,3,4,5,6,7,8,11] ?_
      refine jm ?_
      exact jN
     refine jP ax hp hc mixed rfl [(0,[]),(1,[]),(2,[]),(3,[]),(4,[]),(5,[]),(6,[]),(7,[]),(8,[]),(9,[]),(10,[]),(11,[]),(12,[])] [[],[0],[0,1],[0,1,2],[0,1,2,3],[],[0,1,2,3,4,5],[0,1,2,3,4,5,6],[0,1,2,3,4,5,6,7],[0,1,2,3,4,5,6,7,8],[],[0,1,2,3,4,5,6,7,8,9,10],[0,1,2,3,4,5,6,7,8,9,10,11]] 1 (by kernel_rfl) fun Is nv=>?_
     refine J7 (aw m1 ju) ?_
     refine yN (bH e T.1 μ1++[bP,.cells [.d (iD i)]]) ([.dead]) (jnb e T.1 μ1 i (nth e.p.aC i).w h1 he.m pe (by omega) (by omega)) ?_
     rintro _ _ ⟨μ2,dA,rfl,rfl⟩
     refine⟨rfl,?_⟩
     refine J7 (aw m1 ju) ?_
     refine nv _ _ ?_
     refine bC hp (τ':=aF [(4,.d (ae (ri e.ins T.1 i (nth e.p.aC i).w).2))]) (H':=bH e (ri e.ins T.1 i (nth e.p.aC i).w).1 μ2) ?_ ?_
     ·refine jn [0,1,2,3,4,5,6,7] ?_
      refine jm ?_
      exact jN
     refine aM ?_
     refine dJ (t:=4) rfl ?_
     show ∃_,_
     rw[bE];exact⟨μ2,dA,rfl,rfl⟩
    ·have m3:dv ex≠16:=by simpa using ht
     refine ah (jR ·) ?_
     refine bf rfl (fun ht=>?_) (fun ht=>?_)
     ·obtain⟨i,c7⟩:∃i,ex= .fo i:=by
       have hv:dv ex=18:=by simpa using ht
       rcases qC cu with⟨v,w,rfl⟩|⟨i,rfl⟩|⟨i,rfl⟩|⟨a,rfl⟩|⟨a,b,rfl⟩|⟨a,b,rfl⟩|⟨a,b,rfl⟩|⟨a,b,rfl⟩|⟨a,b,rfl⟩|⟨a,b,rfl⟩|⟨a,b,rfl⟩|⟨a,b,d,rfl⟩|⟨a,b,rfl⟩|⟨i,w,a,rfl⟩|⟨w,a,rfl⟩|⟨i,a,rfl⟩<;>first|exact⟨_,rfl⟩|(exfalso;revert hv;simp[dv];done)
      subst c7
      have gL:i<e.fo.length:=by rw[uJ.l cu.1];exact cu.2
      have gd:(e.fo.map ae)[i]? =some (ae (nth e.fo i)):=db gL
      have bE:mu e gs (.fo i)=(T.1,nth e.fo i):=by rw[hT,hS];rfl
      refine bC hp (τ':=aF [(2,.op 8 0),(8,.op 9 0)]) (H':=bH e T.1 μ1++[bP,.cells [.d (iD i)]]) ?_ ?_
      ·refine jn [0,1,2,3,4,5,6,7,8,11] ?_
       refine jm ?_
       exact jN
      refine dO ax hc mixed rfl (q:=0) (by kernel_rfl) (by kernel_rfl) fun Ir nu=>?_
      simp -dsimp -implicitDefEqProofs (disch:=first|assumption|omega|(simp only[aH,aQ,bc,gJ]<;>omega)|decide) only[aN,↓reduceIte,Nat.reduceEqDiff,Nat.reduceAdd,D.fix,Int.reduceToNat,Nat.reduceMul,Nat.reduceBNe,Nat.reduceBEq,ch,bH,bO,aK,aY,bP,gg,cv,nS,u7,mq,ao,List.cons_append,List.nil_append,BK,gd,Option.map_some,bw]
      refine nu _ _ ?_
      refine bC hp (τ':=aF [(4,.d (ae (nth e.fo i)))]) (H':=bH e T.1 μ1) ?_ ?_
      ·refine jn [0,1,2,3,4,5,6,7] ?_
       refine jm ?_
       exact jN
      refine aM ?_
      refine dJ (t:=4) rfl ?_
      show ∃_,_
      rw[bE];exact⟨μ1,de,rfl,rfl⟩
     ·have m4:dv ex≠18:=by simpa using ht
      refine ah (jR ·) ?_
      refine bf rfl (fun ht=>?_) (fun ht=>?_)
      ·obtain⟨a,c7⟩:∃a,ex= .not a:=by
        have hv:dv ex=2:=by simpa using ht
        rcases qC cu with⟨v,w,rfl⟩|⟨i,rfl⟩|⟨i,rfl⟩|⟨a,rfl⟩|⟨a,b,rfl⟩|⟨a,b,rfl⟩|⟨a,b,rfl⟩|⟨a,b,rfl⟩|⟨a,b,rfl⟩|⟨a,b,rfl⟩|⟨a,b,rfl⟩|⟨a,b,d,rfl⟩|⟨a,b,rfl⟩|⟨i,w,a,rfl⟩|⟨w,a,rfl⟩|⟨i,a,rfl⟩<;>first|exact⟨_,rfl⟩|(exfalso;revert hv;simp[dv];done)
       subst c7
       obtain⟨X,hX⟩:∃X,X=nth T.2 0:=⟨_,rfl⟩
       have wX:X.length=bV (aR e.p) a:=by rw[hX];exact ha.wid 0 (by simp[aJ])
       have nX:eQ (aB e) T.1 X X.length:=fun i hi=>by rw[hX];exact ha.nd 0 (by simp[aJ]) i (by rw[wX]at hi;exact hi)
       have bX:=fv he.k.ct (fR cu 0 (by simp[aJ]))
       simp only[aJ,nth,List.getD_cons_zero,List.getD_cons_succ]at bX
       have hL:T.2=[X]:=by rw[hX];exact Jg ha.ln
       have ux:cf (aR e.p) (.not a)=cf (aR e.p) a+bV (aR e.p) a:=rfl
       have zn:kv (aR e.p) (aJ (.not a)) (aJ (.not a)).length=cf (aR e.p) a:=by simp[aJ,kv,nth]
       have bE:mu e gs (.not a)=oc (aB e) T.1 X X.length:=by rw[hX,hT,hS];rfl
       rw[hL]
       refine bC hp (τ':=aF [(2,.op 8 0),(5,.op 9 0)]) (H':=bH e T.1 μ1++[bP,.cells [.d (ao [X])]]) ?_ ?_
       ·refine jn [0,1,2,3,4,5,6,7,8,10] ?_
        refine jm ?_
        exact jN
       refine jP ax hp hc mixed rfl [(0,[]),(1,[]),(2,[]),(3,[]),(4,[]),(5,[])] [[],[],[1],[1,2],[0,1,2,3],[0,1,2,3,4]] 0 (by kernel_rfl) fun zC ij=>?_
       refine tT ?_
       refine yN (bH e T.1 μ1) ([bP,.cells [.d (ao [X])]]) (jdf e T.1 μ1 X h1 nX (by omega) (by omega)) ?_
       rintro _ _ ⟨μ2,dA,rfl,rfl⟩
       refine⟨rfl,?_⟩
       refine tT ?_
       refine ij _ _ ?_
       refine bC hp (τ':=aF [(4,.d (ae (oc (aB e) T.1 X X.length).2))]) (H':=bH e (oc (aB e) T.1 X X.length).1 μ2) ?_ ?_
       ·refine jn [0,1,2,3,4,5,6,7] ?_
        refine jm ?_
        exact jN
       refine aM ?_
       refine dJ (t:=4) rfl ?_
       show ∃_,_
       rw[bE];exact⟨μ2,dA,rfl,rfl⟩
      ·have m5:dv ex≠2:=by simpa using ht
       refine ah (jR ·) ?_
       refine bf rfl (fun ht=>?_) (fun ht=>?_)
       ·obtain⟨a,b,c7⟩:∃a b,ex= .add a b:=by
         have hv:dv ex=6:=by simpa using ht
         rcases qC cu with⟨v,w,rfl⟩|⟨i,rfl⟩|⟨i,rfl⟩|⟨a,rfl⟩|⟨a,b,rfl⟩|⟨a,b,rfl⟩|⟨a,b,rfl⟩|⟨a,b,rfl⟩|⟨a,b,rfl⟩|⟨a,b,rfl⟩|⟨a,b,rfl⟩|⟨a,b,d,rfl⟩|⟨a,b,rfl⟩|⟨i,w,a,rfl⟩|⟨w,a,rfl⟩|⟨i,a,rfl⟩<;>first|exact⟨_,_,rfl⟩|(exfalso;revert hv;simp[dv];done)
        subst c7
        obtain⟨X,hX⟩:∃X,X=nth T.2 0:=⟨_,rfl⟩
        have wX:X.length=bV (aR e.p) a:=by rw[hX];exact ha.wid 0 (by simp[aJ])
        have nX:eQ (aB e) T.1 X X.length:=fun i hi=>by rw[hX];exact ha.nd 0 (by simp[aJ]) i (by rw[wX]at hi;exact hi)
        have bX:=fv he.k.ct (fR cu 0 (by simp[aJ]))
        simp only[aJ,nth,List.getD_cons_zero,List.getD_cons_succ]at bX
        obtain⟨Y,hY⟩:∃Y,Y=nth T.2 1:=⟨_,rfl⟩
        have wY:Y.length=bV (aR e.p) b:=by rw[hY];exact ha.wid 1 (by simp[aJ])
        have nY:eQ (aB e) T.1 Y Y.length:=fun i hi=>by rw[hY];exact ha.nd 1 (by simp[aJ]) i (by rw[wY]at hi;exact hi)
        have bY:=fv he.k.ct (fR cu 1 (by simp[aJ]))
        simp only[aJ,nth,List.getD_cons_zero,List.getD_cons_succ]at bY
        have hL:T.2=[X,Y]:=by rw[hX];rw[hY];exact AL ha.ln
        have ux:cf (aR e.p) (.add a b)=cf (aR e.p) a+cf (aR e.p) b+3*bV (aR e.p) a:=rfl
        have zn:kv (aR e.p) (aJ (.add a b)) (aJ (.add a b)).length=cf (aR e.p) a+cf (aR e.p) b:=by simp[aJ,kv,nth]
        have mI:Y.length=X.length:=by rw[wX,wY];exact cu.2.2.symm
        have vk:eQ (aB e) T.1 Y X.length:=by rw[←mI];exact nY
        have bE:mu e gs (.add a b)=((fD (aB e) T.1 X Y 0 X.length).gs,(fD (aB e) T.1 X Y 0 X.length).l):=by rw[hX,hY,hT,hS];rfl
        rw[hL]
        refine bC hp (τ':=aF [(2,.op 8 0),(5,.op 9 0)]) (H':=bH e T.1 μ1++[bP,.cells [.d (ao [X,Y])]]) ?_ ?_
        ·refine jn [0,1,2,3,4,5,6,7,8,10] ?_
         refine jm ?_
         exact jN
        refine jP ax hp hc mixed rfl [(0,[]),(1,[]),(2,[]),(3,[]),(4,[]),(5,[]),(6,[]),(7,[]),(8,[])] [[],[],[1],[1,2],[],[4],[4,5],[0,1,2,3,4,5,6],[0,1,2,3,4,5,6,7]] 0 (by kernel_rfl) fun EI lD=>?_
        refine tT ?_
        refine yN (bH e T.1 μ1) ([bP,.cells [.d (ao [X,Y])]]) (ZE e T.1 μ1 X Y 0 h1 nX vk mI h1.z (by omega) (by omega)) ?_
        rintro _ _ ⟨μ2,dA,rfl,rfl⟩
        refine⟨rfl,?_⟩
        refine tT ?_
        refine lD _ _ ?_
        refine bC hp (τ':=aF [(4,.d (ae (((fD (aB e) T.1 X Y 0 X.length).gs,(fD (aB e) T.1 X Y 0 X.length).l)).2))]) (H':=bH e (((fD (aB e) T.1 X Y 0 X.length).gs,(fD (aB e) T.1 X Y 0 X.length).l)).1 μ2) ?_ ?_
        ·refine jn [0,1,2,3,4,5,6,7] ?_
         refine jm ?_
         exact jN
        refine aM ?_
        refine dJ (t:=4) rfl ?_
        show ∃_,_
        rw[bE];exact⟨μ2,dA,rfl,rfl⟩
       ·have m6:dv ex≠6:=by simpa using ht
        refine ah (jR ·) ?_
        refine bf rfl (fun ht=>?_) (fun ht=>?_)
        ·obtain⟨a,b,c7⟩:∃a b,ex= .sub a b:=by
          have hv:dv ex=7:=by simpa using ht
          rcases qC cu with⟨v,w,rfl⟩|⟨i,rfl⟩|⟨i,rfl⟩|⟨a,rfl⟩|⟨a,b,rfl⟩|⟨a,b,rfl⟩|⟨a,b,rfl⟩|⟨a,b,rfl⟩|⟨a,b,rfl⟩|⟨a,b,rfl⟩|⟨a,b,rfl⟩|⟨a,b,d,rfl⟩|⟨a,b,rfl⟩|⟨i,w,a,rfl⟩|⟨w,a,rfl⟩|⟨i,a,rfl⟩<;>first|exact⟨_,_,rfl⟩|(exfalso;revert hv;simp[dv];done)
         subst c7
         obtain⟨X,hX⟩:∃X,X=nth T.2 0:=⟨_,rfl⟩
         have wX:X.length=bV (aR e.p) a:=by rw[hX];exact ha.wid 0 (by simp[aJ])
         have nX:eQ (aB e) T.1 X X.length:=fun i hi=>by rw[hX];exact ha.nd 0 (by simp[aJ]) i (by rw[wX]at hi;exact hi)
         have bX:=fv he.k.ct (fR cu 0 (by simp[aJ]))
         simp only[aJ,nth,List.getD_cons_zero,List.getD_cons_succ]at bX
         obtain⟨Y,hY⟩:∃Y,Y=nth T.2 1:=⟨_,rfl⟩
         have wY:Y.length=bV (aR e.p) b:=by rw[hY];exact ha.wid 1 (by simp[aJ])
         have nY:eQ (aB e) T.1 Y Y.length:=fun i hi=>by rw[hY];exact ha.nd 1 (by simp[aJ]) i (by rw[wY]at hi;exact hi)
         have bY:=fv he.k.ct (fR cu 1 (by simp[aJ]))
         simp only[aJ,nth,List.getD_cons_zero,List.getD_cons_succ]at bY
         have hL:T.2=[X,Y]:=by rw[hX];rw[hY];exact AL ha.ln
         have ux:cf (aR e.p) (.sub a b)=cf (aR e.p) a+cf (aR e.p) b+4*bV (aR e.p) a:=rfl
         have zn:kv (aR e.p) (aJ (.sub a b)) (aJ (.sub a b)).length=cf (aR e.p) a+cf (aR e.p) b:=by simp[aJ,kv,nth]
         have mI:Y.length=X.length:=by rw[wX,wY];exact cu.2.2.symm
         have vk:eQ (aB e) T.1 Y X.length:=by rw[←mI];exact nY
         obtain⟨Z,hZ⟩:∃Z,Z=oc (aB e) T.1 Y Y.length:=⟨_,rfl⟩
         have Ek:=jjj nG h1.g nY (bJ _)
         have rW:=jdf e T.1 μ1 Y h1 nY (by omega) (by omega)
         rw[←hZ]at Ek rW
         have O9:=Ek.len
         have hzw:=Ek.wid
         have bE:mu e gs (.sub a b)=((fD (aB e) Z.1 X Z.2 1 X.length).gs,(fD (aB e) Z.1 X Z.2 1 X.length).l):=by rw[hZ,hX,hY,hT,hS];rfl
         rw[hL]
         refine bC hp (τ':=aF [(2,.op 8 0),(5,.op 9 0)]) (H':=bH e T.1 μ1++[bP,.cells [.d (ao [X,Y])]]) ?_ ?_
         ·refine jn [0,1,2,3,4,5,6,7,8,10] ?_
          refine jm ?_
          exact jN
         refine jP ax hp hc mixed rfl [(0,[]),(1,[]),(2,[]),(3,[]),(4,[]),(5,[]),(6,[]),(7,[]),(8,[0,1,3]),(9,[]),(10,[])] [[],[],[1],[1,2],[],[],[5],[5,6],[4,5,6,7],[0,1,2,3,4,5,6,7,8],[0,1,2,3,4,5,6,7,8,9]] 0 (by kernel_rfl) fun CZ kr=>?_
         refine tT ?_
         refine yN (bH e T.1 μ1) ([bP,.cells [.d (ao [X,Y])]]) (rW) ?_
         rintro _ _ ⟨μ3,nP,rfl,rfl⟩
         refine⟨rfl,?_⟩
         have h3:dM e Z.1 μ3:=⟨nP,Ek.gi,h.i,by omega⟩
         refine tT ?_
         refine yN (bH e Z.1 μ3) ([bP,.cells [.d (ao [X,Y])]]) (ZE e Z.1 μ3 X Z.2 1 h3 (nX.pre Ek.pre) (fun k hk=>Ek.nd k (by omega)) (by omega) ⟨by omega,by unfold aB;omega⟩ (by omega) (by omega)) ?_
         rintro _ _ ⟨μ2,dA,rfl,rfl⟩
         refine⟨rfl,?_⟩
         refine tT ?_
         refine kr _ _ ?_
         refine bC hp (τ':=aF [(4,.d (ae (((fD (aB e) Z.1 X Z.2 1 X.length).gs,(fD (aB e) Z.1 X Z.2 1 X.length).l)).2))]) (H':=bH e (((fD (aB e) Z.1 X Z.2 1 X.length).gs,(fD (aB e) Z.1 X Z.2 1 X.length).l)).1 μ2) ?_ ?_
         ·refine jn [0,1,2,3,4,5,6,7] ?_
          refine jm ?_
          exact jN
         refine aM ?_
         refine dJ (t:=4) rfl ?_
         show ∃_,_
         rw[bE];exact⟨μ2,dA,rfl,rfl⟩
        ·have m7:dv ex≠7:=by simpa using ht
         refine ah (jR ·) ?_
         refine bf rfl (fun ht=>?_) (fun ht=>?_)
         ·obtain⟨a,b,c7⟩:∃a b,ex= .eq a b:=by
           have hv:dv ex=8:=by simpa using ht
           rcases qC cu with⟨v,w,rfl⟩|⟨i,rfl⟩|⟨i,rfl⟩|⟨a,rfl⟩|⟨a,b,rfl⟩|⟨a,b,rfl⟩|⟨a,b,rfl⟩|⟨a,b,rfl⟩|⟨a,b,rfl⟩|⟨a,b,rfl⟩|⟨a,b,rfl⟩|⟨a,b,d,rfl⟩|⟨a,b,rfl⟩|⟨i,w,a,rfl⟩|⟨w,a,rfl⟩|⟨i,a,rfl⟩<;>first|exact⟨_,_,rfl⟩|(exfalso;revert hv;simp[dv];done)
          subst c7
          obtain⟨X,hX⟩:∃X,X=nth T.2 0:=⟨_,rfl⟩
          have wX:X.length=bV (aR e.p) a:=by rw[hX];exact ha.wid 0 (by simp[aJ])
          have nX:eQ (aB e) T.1 X X.length:=fun i hi=>by rw[hX];exact ha.nd 0 (by simp[aJ]) i (by rw[wX]at hi;exact hi)
          have bX:=fv he.k.ct (fR cu 0 (by simp[aJ]))
          simp only[aJ,nth,List.getD_cons_zero,List.getD_cons_succ]at bX
          obtain⟨Y,hY⟩:∃Y,Y=nth T.2 1:=⟨_,rfl⟩
          have wY:Y.length=bV (aR e.p) b:=by rw[hY];exact ha.wid 1 (by simp[aJ])
          have nY:eQ (aB e) T.1 Y Y.length:=fun i hi=>by rw[hY];exact ha.nd 1 (by simp[aJ]) i (by rw[wY]at hi;exact hi)
          have bY:=fv he.k.ct (fR cu 1 (by simp[aJ]))
          simp only[aJ,nth,List.getD_cons_zero,List.getD_cons_succ]at bY
          have hL:T.2=[X,Y]:=by rw[hX];rw[hY];exact AL ha.ln
          have ux:cf (aR e.p) (.eq a b)=cf (aR e.p) a+cf (aR e.p) b+3*bV (aR e.p) a:=rfl
          have zn:kv (aR e.p) (aJ (.eq a b)) (aJ (.eq a b)).length=cf (aR e.p) a+cf (aR e.p) b:=by simp[aJ,kv,nth]
          have mI:Y.length=X.length:=by rw[wX,wY];exact cu.2.2.symm
          have vk:eQ (aB e) T.1 Y X.length:=by rw[←mI];exact nY
          obtain⟨Q,hQ⟩:∃Q,Q=j6 (aB e) T.1 X Y X.length:=⟨_,rfl⟩
          have rW:=jmw e T.1 μ1 X Y h1 nX vk mI (by omega)
          rw[←hQ]at rW
          have bE:mu e gs (.eq a b)=(Q.1,[Q.2]):=by rw[hQ,hX,hY,hT,hS];rfl
          rw[hL]
          refine bC hp (τ':=aF [(2,.op 8 0),(5,.op 9 0)]) (H':=bH e T.1 μ1++[bP,.cells [.d (ao [X,Y])]]) ?_ ?_
          ·refine jn [0,1,2,3,4,5,6,7,8,10] ?_
           refine jm ?_
           exact jN
          refine jP ax hp hc mixed rfl [(0,[]),(1,[]),(2,[]),(3,[]),(4,[]),(5,[]),(6,[]),(7,[]),(8,[]),(9,[])] [[],[],[1],[1,2],[],[4],[4,5],[0,1,2,3,4,5,6],[0,1,2,3,4,5,6,7],[0,1,2,3,4,5,6,7,8]] 1 (by kernel_rfl) fun Lp pt=>?_
          refine tT ?_
          refine yN (bH e T.1 μ1) ([bP,.cells [.d (ao [X,Y])],.free]) (rW) ?_
          rintro _ _ ⟨μ2,dA,rfl,rfl⟩
          refine⟨rfl,?_⟩
          refine tT ?_
          refine pt _ _ ?_
          refine bC hp (τ':=aF [(4,.d (ae [Q.2]))]) (H':=bH e Q.1 μ2) ?_ ?_
          ·refine jn [0,1,2,3,4,5,6,7] ?_
           refine jm ?_
           exact jN
          refine aM ?_
          refine dJ (t:=4) rfl ?_
          show ∃_,_
          rw[bE];exact⟨μ2,dA,rfl,rfl⟩
         ·have m8:dv ex≠8:=by simpa using ht
          refine ah (jR ·) ?_
          refine bf rfl (fun ht=>?_) (fun ht=>?_)
          ·obtain⟨a,b,c7⟩:∃a b,ex= .lt a b:=by
            have hv:dv ex=9:=by simpa using ht
            rcases qC cu with⟨v,w,rfl⟩|⟨i,rfl⟩|⟨i,rfl⟩|⟨a,rfl⟩|⟨a,b,rfl⟩|⟨a,b,rfl⟩|⟨a,b,rfl⟩|⟨a,b,rfl⟩|⟨a,b,rfl⟩|⟨a,b,rfl⟩|⟨a,b,rfl⟩|⟨a,b,d,rfl⟩|⟨a,b,rfl⟩|⟨i,w,a,rfl⟩|⟨w,a,rfl⟩|⟨i,a,rfl⟩<;>first|exact⟨_,_,rfl⟩|(exfalso;revert hv;simp[dv];done)
           subst c7
           obtain⟨X,hX⟩:∃X,X=nth T.2 0:=⟨_,rfl⟩
           have wX:X.length=bV (aR e.p) a:=by rw[hX];exact ha.wid 0 (by simp[aJ])
           have nX:eQ (aB e) T.1 X X.length:=fun i hi=>by rw[hX];exact ha.nd 0 (by simp[aJ]) i (by rw[wX]at hi;exact hi)
           have bX:=fv he.k.ct (fR cu 0 (by simp[aJ]))
           simp only[aJ,nth,List.getD_cons_zero,List.getD_cons_succ]at bX
           obtain⟨Y,hY⟩:∃Y,Y=nth T.2 1:=⟨_,rfl⟩
           have wY:Y.length=bV (aR e.p) b:=by rw[hY];exact ha.wid 1 (by simp[aJ])
           have nY:eQ (aB e) T.1 Y Y.length:=fun i hi=>by rw[hY];exact ha.nd 1 (by simp[aJ]) i (by rw[wY]at hi;exact hi)
           have bY:=fv he.k.ct (fR cu 1 (by simp[aJ]))
           simp only[aJ,nth,List.getD_cons_zero,List.getD_cons_succ]at bY
           have hL:T.2=[X,Y]:=by rw[hX];rw[hY];exact AL ha.ln
           have ux:cf (aR e.p) (.lt a b)=cf (aR e.p) a+cf (aR e.p) b+(2*bV (aR e.p) a+1):=rfl
           have zn:kv (aR e.p) (aJ (.lt a b)) (aJ (.lt a b)).length=cf (aR e.p) a+cf (aR e.p) b:=by simp[aJ,kv,nth]
           have mI:Y.length=X.length:=by rw[wX,wY];exact cu.2.2.symm
           have vk:eQ (aB e) T.1 Y X.length:=by rw[←mI];exact nY
           obtain⟨Q,hQ⟩:∃Q,Q=dH (aB e) (jt (aB e) T.1 X Y X.length).1 (jt (aB e) T.1 X Y X.length).2:=⟨_,rfl⟩
           have rW:=jts e T.1 μ1 X Y h1 nX vk mI (by omega)
           rw[←hQ]at rW
           have bE:mu e gs (.lt a b)=(Q.1,[Q.2]):=by rw[hQ,hX,hY,hT,hS];rfl
           rw[hL]
           refine bC hp (τ':=aF [(2,.op 8 0),(5,.op 9 0)]) (H':=bH e T.1 μ1++[bP,.cells [.d (ao [X,Y])]]) ?_ ?_
           ·refine jn [0,1,2,3,4,5,6,7,8,10] ?_
            refine jm ?_
            exact jN
           refine jP ax hp hc mixed rfl [(0,[]),(1,[]),(2,[]),(3,[]),(4,[]),(5,[]),(6,[]),(7,[]),(8,[]),(9,[])] [[],[],[1],[1,2],[],[4],[4,5],[0,1,2,3,4,5,6],[0,1,2,3,4,5,6,7],[0,1,2,3,4,5,6,7,8]] 1 (by kernel_rfl) fun QW sU=>?_
           refine tT ?_
           refine yN (bH e T.1 μ1) ([bP,.cells [.d (ao [X,Y])],.free]) (rW) ?_
           rintro _ _ ⟨μ2,dA,rfl,rfl⟩
           refine⟨rfl,?_⟩
           refine tT ?_
           refine sU _ _ ?_
           refine bC hp (τ':=aF [(4,.d (ae [Q.2]))]) (H':=bH e Q.1 μ2) ?_ ?_
           ·refine jn [0,1,2,3,4,5,6,7] ?_
            refine jm ?_
            exact jN
           refine aM ?_
           refine dJ (t:=4) rfl ?_
           show ∃_,_
           rw[bE];exact⟨μ2,dA,rfl,rfl⟩
          ·have m9:dv ex≠9:=by simpa using ht
           refine ah (jR ·) ?_
           refine bf rfl (fun ht=>?_) (fun ht=>?_)
           ·obtain⟨a,b,d,c7⟩:∃a b d,ex= .oq a b d:=by
             have hv:dv ex=10:=by simpa using ht
             rcases qC cu with⟨v,w,rfl⟩|⟨i,rfl⟩|⟨i,rfl⟩|⟨a,rfl⟩|⟨a,b,rfl⟩|⟨a,b,rfl⟩|⟨a,b,rfl⟩|⟨a,b,rfl⟩|⟨a,b,rfl⟩|⟨a,b,rfl⟩|⟨a,b,rfl⟩|⟨a,b,d,rfl⟩|⟨a,b,rfl⟩|⟨i,w,a,rfl⟩|⟨w,a,rfl⟩|⟨i,a,rfl⟩<;>first|exact⟨_,_,_,rfl⟩|(exfalso;revert hv;simp[dv];done)
            subst c7
            obtain⟨X,hX⟩:∃X,X=nth T.2 0:=⟨_,rfl⟩
            have wX:X.length=bV (aR e.p) a:=by rw[hX];exact ha.wid 0 (by simp[aJ])
            have nX:eQ (aB e) T.1 X X.length:=fun i hi=>by rw[hX];exact ha.nd 0 (by simp[aJ]) i (by rw[wX]at hi;exact hi)
            have bX:=fv he.k.ct (fR cu 0 (by simp[aJ]))
            simp only[aJ,nth,List.getD_cons_zero,List.getD_cons_succ]at bX
            obtain⟨Y,hY⟩:∃Y,Y=nth T.2 1:=⟨_,rfl⟩
            have wY:Y.length=bV (aR e.p) b:=by rw[hY];exact ha.wid 1 (by simp[aJ])
            have nY:eQ (aB e) T.1 Y Y.length:=fun i hi=>by rw[hY];exact ha.nd 1 (by simp[aJ]) i (by rw[wY]at hi;exact hi)
            have bY:=fv he.k.ct (fR cu 1 (by simp[aJ]))
            simp only[aJ,nth,List.getD_cons_zero,List.getD_cons_succ]at bY
            obtain⟨Z,hZ⟩:∃Z,Z=nth T.2 2:=⟨_,rfl⟩
            have wZ:Z.length=bV (aR e.p) d:=by rw[hZ];exact ha.wid 2 (by simp[aJ])
            have nZ:eQ (aB e) T.1 Z Z.length:=fun i hi=>by rw[hZ];exact ha.nd 2 (by simp[aJ]) i (by rw[wZ]at hi;exact hi)
            have bZ:=fv he.k.ct (fR cu 2 (by simp[aJ]))
            simp only[aJ,nth,List.getD_cons_zero,List.getD_cons_succ]at bZ
            have hL:T.2=[X,Y,Z]:=by rw[hX];rw[hY];rw[hZ];exact yke ha.ln
            have ux:cf (aR e.p) (.oq a b d)=cf (aR e.p) a+cf (aR e.p) b+cf (aR e.p) d+2*bV (aR e.p) b:=rfl
            have zn:kv (aR e.p) (aJ (.oq a b d)) (aJ (.oq a b d)).length=cf (aR e.p) a+cf (aR e.p) b+cf (aR e.p) d:=by simp[aJ,kv,nth]
            have NK:Z.length=Y.length:=by rw[wY,wZ];exact cu.2.2.2.2.symm
            have hX1:X.length=1:=by rw[wX];exact cu.2.2.2.1
            have nZY:eQ (aB e) T.1 Z Y.length:=by rw[←NK];exact nZ
            have bE:mu e gs (.oq a b d)=rm (aB e) T.1 (nth X 0) Y Z Y.length:=by rw[hX,hY,hZ,hT,hS];rfl
            rw[hL]
            refine bC hp (τ':=aF [(2,.op 8 0),(5,.op 9 0)]) (H':=bH e T.1 μ1++[bP,.cells [.d (ao [X,Y,Z])]]) ?_ ?_
            ·refine jn [0,1,2,3,4,5,6,7,8,10] ?_
             refine jm ?_
             exact jN
            refine aZ hp ax hc rfl fun Ip oz=>?_
            refine jR ?_
            refine FE (bH e T.1 μ1++[bP,.cells [.d (ao [X,Y,Z])]]) ([]) (jm9 e T.1 μ1 X Y Z h1 (by omega) (nX 0 (by omega)) nY nZY NK (by omega) (by omega)) ?_
            rintro _ _ ⟨μ2,dA,rfl,rfl⟩
            refine⟨rfl,?_⟩
            refine jR ?_
            refine oz _ _ ?_
            refine bC hp (τ':=aF [(4,.d (ae (rm (aB e) T.1 (nth X 0) Y Z Y.length).2))]) (H':=bH e (rm (aB e) T.1 (nth X 0) Y Z Y.length).1 μ2) ?_ ?_
            ·refine jn [0,1,2,3,4,5,6,7] ?_
             refine jm ?_
             exact jN
            refine aM ?_
            refine dJ (t:=4) rfl ?_
            show ∃_,_
            rw[bE];exact⟨μ2,dA,rfl,rfl⟩
           ·have m10:dv ex≠10:=by simpa using ht
            refine ah (jR ·) ?_
            refine bf rfl (fun ht=>?_) (fun ht=>?_)
            ·obtain⟨a,b,c7⟩:∃a b,ex= .cat a b:=by
              have hv:dv ex=11:=by simpa using ht
              rcases qC cu with⟨v,w,rfl⟩|⟨i,rfl⟩|⟨i,rfl⟩|⟨a,rfl⟩|⟨a,b,rfl⟩|⟨a,b,rfl⟩|⟨a,b,rfl⟩|⟨a,b,rfl⟩|⟨a,b,rfl⟩|⟨a,b,rfl⟩|⟨a,b,rfl⟩|⟨a,b,d,rfl⟩|⟨a,b,rfl⟩|⟨i,w,a,rfl⟩|⟨w,a,rfl⟩|⟨i,a,rfl⟩<;>first|exact⟨_,_,rfl⟩|(exfalso;revert hv;simp[dv];done)
             subst c7
             obtain⟨X,hX⟩:∃X,X=nth T.2 0:=⟨_,rfl⟩
             have wX:X.length=bV (aR e.p) a:=by rw[hX];exact ha.wid 0 (by simp[aJ])
             have nX:eQ (aB e) T.1 X X.length:=fun i hi=>by rw[hX];exact ha.nd 0 (by simp[aJ]) i (by rw[wX]at hi;exact hi)
             have bX:=fv he.k.ct (fR cu 0 (by simp[aJ]))
             simp only[aJ,nth,List.getD_cons_zero,List.getD_cons_succ]at bX
             obtain⟨Y,hY⟩:∃Y,Y=nth T.2 1:=⟨_,rfl⟩
             have wY:Y.length=bV (aR e.p) b:=by rw[hY];exact ha.wid 1 (by simp[aJ])
             have nY:eQ (aB e) T.1 Y Y.length:=fun i hi=>by rw[hY];exact ha.nd 1 (by simp[aJ]) i (by rw[wY]at hi;exact hi)
             have bY:=fv he.k.ct (fR cu 1 (by simp[aJ]))
             simp only[aJ,nth,List.getD_cons_zero,List.getD_cons_succ]at bY
             have hL:T.2=[X,Y]:=by rw[hX];rw[hY];exact AL ha.ln
             have bE:mu e gs (.cat a b)=(T.1,Y++X):=by rw[hX,hY,hT,hS];rfl
             have tO:=jdh [Y,X] (by simp) (by simp[qg];omega)
             rw[show[Y,X].flatten=Y++X by simp]at tO
             unfold ao at tO
             rw[hL]
             refine bC hp (τ':=aF [(2,.op 8 0),(5,.op 9 0)]) (H':=bH e T.1 μ1++[bP,.cells [.d (ao [X,Y])]]) ?_ ?_
             ·refine jn [0,1,2,3,4,5,6,7,8,10] ?_
              refine jm ?_
              exact jN
             refine dO ax hc mixed rfl (q:=1) (by kernel_rfl) (by kernel_rfl) fun EH lC=>?_
             refine jR ?_
             refine bx (tO) rfl ?_
             refine jR ?_
             refine lC _ _ ?_
             refine bC hp (τ':=aF [(4,.d (ae (Y++X)))]) (H':=bH e T.1 μ1) ?_ ?_
             ·refine jn [0,1,2,3,4,5,6,7] ?_
              refine jm ?_
              exact jN
             refine aM ?_
             refine dJ (t:=4) rfl ?_
             show ∃_,_
             rw[bE];exact⟨μ1,de,rfl,rfl⟩
            ·have m11:dv ex≠11:=by simpa using ht
             refine ah (jR ·) ?_
             refine bf rfl (fun ht=>?_) (fun ht=>?_)
             ·obtain⟨i,w,a,c7⟩:∃i w a,ex= .oJ i w a:=by
               have hv:dv ex=12:=by simpa using ht
               rcases qC cu with⟨v,w,rfl⟩|⟨i,rfl⟩|⟨i,rfl⟩|⟨a,rfl⟩|⟨a,b,rfl⟩|⟨a,b,rfl⟩|⟨a,b,rfl⟩|⟨a,b,rfl⟩|⟨a,b,rfl⟩|⟨a,b,rfl⟩|⟨a,b,rfl⟩|⟨a,b,d,rfl⟩|⟨a,b,rfl⟩|⟨i,w,a,rfl⟩|⟨w,a,rfl⟩|⟨i,a,rfl⟩<;>first|exact⟨_,_,_,rfl⟩|(exfalso;revert hv;simp[dv];done)
              subst c7
              obtain⟨X,hX⟩:∃X,X=nth T.2 0:=⟨_,rfl⟩
              have wX:X.length=bV (aR e.p) a:=by rw[hX];exact ha.wid 0 (by simp[aJ])
              have nX:eQ (aB e) T.1 X X.length:=fun i hi=>by rw[hX];exact ha.nd 0 (by simp[aJ]) i (by rw[wX]at hi;exact hi)
              have bX:=fv he.k.ct (fR cu 0 (by simp[aJ]))
              simp only[aJ,nth,List.getD_cons_zero,List.getD_cons_succ]at bX
              have hL:T.2=[X]:=by rw[hX];exact Jg ha.ln
              have bE:mu e gs (.oJ i w a)=(T.1,(X.drop i).take w):=by rw[hX,hT,hS];rfl
              have Ev:=cu.2.2
              have hkx:i+w≤X.length:=by rw[wX];exact Ev
              have hto:((i:Int)+(w:Int)).toNat - i=w:=by omega
              have Ha:min w (X.length - i)=w:=by omega
              have hb8:i+w≤1000:=by omega
              rw[hL]
              clear hX hT hS wX nX bX y9 oP hL ha En
              refine bC hp (τ':=aF [(2,.op 8 0),(5,.op 9 0),(8,.op 10 0),(9,.d (iD w))]) (H':=bH e T.1 μ1++[bP,.cells [.d (ao [X])],.cells [.d (iD i)]]) ?_ ?_
              ·refine jn [0,1,2,3,4,5,6,7,8,10,11] ?_
               refine jm ?_
               exact jN
              refine dO ax hc mixed rfl (q:=0) (by kernel_rfl) (by kernel_rfl) fun Lo sQ=>?_
              refine jR ?_
              refine sQ _ _ ?_
              refine bC hp (τ':=aF [(4,.d (ae ((X.drop i).take w)))]) (H':=bH e T.1 μ1) ?_ ?_
              ·refine jn [0,1,2,3,4,5,6,7] ?_
               refine jm ?_
               exact jN
              refine aM ?_
              refine dJ (t:=4) rfl ?_
              show ∃_,_
              rw[bE];exact⟨μ1,de,rfl,rfl⟩
             ·have m12:dv ex≠12:=by simpa using ht
              refine ah (jR ·) ?_
              refine bf rfl (fun ht=>?_) (fun ht=>?_)
              ·obtain⟨w,a,c7⟩:∃w a,ex= .ext w a:=by
                have hv:dv ex=13:=by simpa using ht
                rcases qC cu with⟨v,w,rfl⟩|⟨i,rfl⟩|⟨i,rfl⟩|⟨a,rfl⟩|⟨a,b,rfl⟩|⟨a,b,rfl⟩|⟨a,b,rfl⟩|⟨a,b,rfl⟩|⟨a,b,rfl⟩|⟨a,b,rfl⟩|⟨a,b,rfl⟩|⟨a,b,d,rfl⟩|⟨a,b,rfl⟩|⟨i,w,a,rfl⟩|⟨w,a,rfl⟩|⟨i,a,rfl⟩<;>first|exact⟨_,_,rfl⟩|(exfalso;revert hv;simp[dv];done)
               subst c7
               obtain⟨X,hX⟩:∃X,X=nth T.2 0:=⟨_,rfl⟩
               have wX:X.length=bV (aR e.p) a:=by rw[hX];exact ha.wid 0 (by simp[aJ])
               have nX:eQ (aB e) T.1 X X.length:=fun i hi=>by rw[hX];exact ha.nd 0 (by simp[aJ]) i (by rw[wX]at hi;exact hi)
               have bX:=fv he.k.ct (fR cu 0 (by simp[aJ]))
               simp only[aJ,nth,List.getD_cons_zero,List.getD_cons_succ]at bX
               have hL:T.2=[X]:=by rw[hX];exact Jg ha.ln
               have bE:mu e gs (.ext w a)=(T.1,X++List.replicate (w - X.length) 0):=by rw[hX,hT,hS];rfl
               have hwa:=cu.2.1;have nM:=cu.2.2
               have tO:=jdh [X,List.replicate (w - X.length) 0] (by simp) (by simp[qg];omega)
               have A9:=jm4 [X,List.replicate (w - X.length) 0] (by simp) (by simp[qg];omega)
               rw[show[X,List.replicate (w - X.length) (0:Int)].flatten=X++List.replicate (w - X.length) 0 by simp]at tO A9
               have G8:((w:Int) - (X.length:Int)).toNat=w - X.length:=by omega
               simp only[ao,ae,List.map_cons,List.map_nil,List.map_replicate,List.length_replicate,List.length_cons,List.length_nil,Nat.zero_add,Nat.reduceAdd]at tO A9
               rw[hL]
               refine bC hp (τ':=aF [(2,.op 8 0),(5,.op 9 0),(9,.d (iD w))]) (H':=bH e T.1 μ1++[bP,.cells [.d (ao [X])]]) ?_ ?_
               ·refine jn [0,1,2,3,4,5,6,7,8,10] ?_
                refine jm ?_
                exact jN
               refine dO ax hc mixed rfl (q:=2) (by kernel_rfl) (by kernel_rfl) fun CY jC=>?_
               by_cases hz:X.length<w
               ·have ju:(0<w - X.length)=True:=by simp;omega
                refine J6 (aw G8 ju) ?_
                refine bx (tO) rfl ?_
                refine J6 (aw G8 ju) ?_
                refine jC _ _ ?_
                refine bC hp (τ':=aF [(4,.d (ae (X++List.replicate (w - X.length) 0)))]) (H':=bH e T.1 μ1) ?_ ?_
                ·refine jn [0,1,2,3,4,5,6,7] ?_
                 refine jm ?_
                 exact jN
                refine aM ?_
                refine dJ (t:=4) rfl ?_
                show ∃_,_
                rw[bE];exact⟨μ1,de,rfl,rfl⟩
               ·have ju:((0:Nat)<0)=False:=by simp
                have Pb:w - X.length=0:=by omega
                rw[Pb]at G8 A9 bE
                simp only[List.replicate_zero]at A9 bE
                refine J6 (aw G8 ju) ?_
                refine jwj (A9) ?_ ?_
                ·simp (disch:=first|assumption|omega|(simp only[aH,aQ,bc,gJ]<;>omega)|decide) only[fA,Nat.reduceAdd,D.fix,↓reduceIte,Nat.reduceEqDiff,ch,bH,bO,aK,aY,bP,gg,cv,nS,u7,mq,ao,List.cons_append,List.nil_append]
                refine J6 (aw G8 ju) ?_
                refine jC _ _ ?_
                refine bC hp (τ':=aF [(4,.d (ae (X++[])))]) (H':=bH e T.1 μ1) ?_ ?_
                ·refine jn [0,1,2,3,4,5,6,7] ?_
                 refine jm ?_
                 exact jN
                refine aM ?_
                refine dJ (t:=4) rfl ?_
                show ∃_,_
                rw[bE];exact⟨μ1,de,rfl,rfl⟩
              ·have m13:dv ex≠13:=by simpa using ht
               obtain⟨i,a,c7⟩:∃i a,ex= .rd i a:=by
                clear ht
                rcases qC cu with⟨v,w,rfl⟩|⟨i,rfl⟩|⟨i,rfl⟩|⟨a,rfl⟩|⟨a,b,rfl⟩|⟨a,b,rfl⟩|⟨a,b,rfl⟩|⟨a,b,rfl⟩|⟨a,b,rfl⟩|⟨a,b,rfl⟩|⟨a,b,rfl⟩|⟨a,b,d,rfl⟩|⟨a,b,rfl⟩|⟨i,w,a,rfl⟩|⟨w,a,rfl⟩|⟨i,a,rfl⟩<;>first|exact⟨_,_,rfl⟩|(exfalso;simp_all [dv];done)
               subst c7
               obtain⟨X,hX⟩:∃X,X=nth T.2 0:=⟨_,rfl⟩
               have wX:X.length=bV (aR e.p) a:=by rw[hX];exact ha.wid 0 (by simp[aJ])
               have nX:eQ (aB e) T.1 X X.length:=fun i hi=>by rw[hX];exact ha.nd 0 (by simp[aJ]) i (by rw[wX]at hi;exact hi)
               have bX:=fv he.k.ct (fR cu 0 (by simp[aJ]))
               simp only[aJ,nth,List.getD_cons_zero,List.getD_cons_succ]at bX
               have hL:T.2=[X]:=by rw[hX];exact Jg ha.ln
               have ux:cf (aR e.p) (.rd i a)=cf (aR e.p) a+(nth (aR e.p).au i).2:=rfl
               have zn:kv (aR e.p) (aJ (.rd i a)) (aJ (.rd i a)).length=cf (aR e.p) a:=by simp[aJ,kv,nth]
               have gL:i<e.p.au.length:=by have:=cu.2;simpa[aR]using this
               have em:nth (aR e.p).au i=((nth e.p.au i).words,(nth e.p.au i).w):=tE gL
               have hm8:=he.k.ct.m i (by simpa[aR]using gL)
               have p9:=he.k.ct.l
               rw[em]at hm8 ux
               simp only at hm8 ux
               have PJ:(aR e.p).au.length=e.p.au.length:=by simp[aR]
               have q1:=WD gL
               have ju:(0<(nth e.p.au i).w)=True:=by simp;omega
               have q2:=M6 gL
               obtain⟨A,hA⟩:∃A,A=jg X (nth e.p.au i).words:=⟨_,rfl⟩
               have hAl:A=[nth A 0,nth A 1,nth A 2]:=by
                have:A.length=3:=by rw[hA];exact va _ _
                match A,this with
                |[x,y,z],_=>rfl
               have nA:∀j,j<3→bm (aB e) T.1 (nth A j):=fun j hj=>by rw[hA];exact C3 nG nX hj
               have tO:=jjm X (nth e.p.au i).words (by omega) (by omega)
               rw[←hA,hAl]at tO
               have bE:mu e gs (.rd i a)=qI (aB e) T.1 (nth A 0) (nth A 1) (nth A 2) i (nth e.p.au i).w:=by
                have e0:mu e gs (.rd i a)=qI (aB e) T.1 (nth (jg X (nth (aR e.p).au i).1) 0) (nth (jg X (nth (aR e.p).au i).1) 1) (nth (jg X (nth (aR e.p).au i).1) 2) i (nth (aR e.p).au i).2:=by rw[hX,hT,hS];rfl
                rw[e0,em,←hA]
               rw[hL]
               refine bg (ik _ _ ?_)
               refine bC hp (τ':=aF [(2,.op 8 0),(5,.op 9 0),(8,.op 10 0)]) (H':=bH e T.1 μ1++[bP,.cells [.d (ao [X])],.cells [.d (iD i)]]) ?_ ?_
               ·refine jn [0,1,2,3,4,5,6,7,8,10,11] ?_
                refine jm ?_
                exact jN
               refine dO ax hc mixed rfl (q:=1) (by kernel_rfl) (by kernel_rfl) fun QU sP=>?_
               refine Xe q2 ?_
               refine bx (tO) rfl ?_
               refine Xe q2 ?_
               refine sP _ _ ?_
               refine bC hp (τ':=aF [(2,.op 8 0),(13,.op 9 0),(8,.op 10 0)]) (H':=bH e T.1 μ1++[bP,.cells [.d (iD (nth A 0)),.d (iD (nth A 1)),.d (iD (nth A 2))],.cells [.d (iD i)]]) ?_ ?_
               ·refine jn [0,1,2,3,4,5,6,7,8,11,10] ?_
                refine jm ?_
                exact jN
               refine jP ax hp hc mixed rfl [(0,[]),(1,[]),(2,[]),(3,[]),(4,[]),(5,[]),(6,[]),(7,[]),(8,[]),(9,[]),(10,[]),(11,[]),(12,[])] [[],[0],[0,1],[0,1,2],[0,1,2,3],[],[0,1,2,3,4,5],[0,1,2,3,4,5,6],[0,1,2,3,4,5,6,7],[0,1,2,3,4,5,6,7,8],[],[0,1,2,3,4,5,6,7,8,9,10],[0,1,2,3,4,5,6,7,8,9,10,11]] 1 (by kernel_rfl) fun K49 jW=>?_
               refine J7 (aw q1 ju) ?_
               refine yN (bH e T.1 μ1++[bP,.cells [.d (iD (nth A 0)),.d (iD (nth A 1)),.d (iD (nth A 2))],.cells [.d (iD i)]]) ([.dead]) (jt9 e T.1 μ1 (nth A 0) (nth A 1) (nth A 2) i (nth e.p.au i).w h1 (nA 0 (by decide)) (nA 1 (by decide)) (nA 2 (by decide)) (by omega) (by omega)) ?_
               rintro _ _ ⟨μ2,dA,rfl,rfl⟩
               refine⟨rfl,?_⟩
               refine J7 (aw q1 ju) ?_
               refine jW _ _ ?_
               refine bC hp (τ':=aF [(4,.d (ae (qI (aB e) T.1 (nth A 0) (nth A 1) (nth A 2) i (nth e.p.au i).w).2))]) (H':=bH e (qI (aB e) T.1 (nth A 0) (nth A 1) (nth A 2) i (nth e.p.au i).w).1 μ2) ?_ ?_
               ·refine jn [0,1,2,3,4,5,6,7] ?_
                refine jm ?_
                exact jN
               refine aM ?_
               refine dJ (t:=4) rfl ?_
               show ∃_,_
               rw[bE];exact⟨μ2,dA,rfl,rfl⟩
theorem LW(e:BE)(he:uU e)(q:Bool)(ex:Ex):W1 e q ex:=by
 generalize hn:SizeOf.sizeOf ex=n
 induction n using Nat.strongRecOn generalizing ex with
 |_ n ih=>exact fun gs μ h uJ cu fT=>yb3 e he q ex (fun k hk=>ih _ (hn▸RA hk) _ rfl) gs μ h uJ cu fT
end Go.Proofs.YtapjobndmmkanaaGreat
