/- netlist's builder: the bits of an expression. -/
import Derived.Test.YtapjobndmmkanaaGreatQr
import Derived.Test.YtapjobndmmkanaaGreatYm
set_option linter.unusedVariables false
set_option linter.unusedSimpArgs false
set_option maxRecDepth 100000
set_option maxHeartbeats 4000000
namespace Go.Proofs.YtapjobndmmkanaaGreat
open Go.Proofs.Tryz
open Go Go.RowKit
theorem yl3{t et:TypeId}(h0:j4 prog t=some (3,et)){a:Int}(ha:nN a):pU prog t (.int .i64 a):=by
 refine⟨rfl,fun kt et' hm=>?_⟩
 rw[h0]at hm;cases hm
 exact jjz underlying3 ha
structure vI (e:BE):Prop where
 i:e.ins=dN e.p
 m:o7 e.ins e.mi
 l:e.ins.length≤1000
 k:bJ e.p
 rl:e.p.ag.length≤100
theorem vI.mp{e:BE}(h:vI e):mP e.p=aw e:=by unfold mP aw;rw[h.i]
def mf(e:BE)(gs:Gs)(ex:Ex):Gs × List Int:=cK (aI e.p) (bL e.p) (aw e) e.dZ gs ex
theorem Qg{e:BE}(h:vI e)(gs:Gs)(ex:Ex):mf e gs ex=fa e.p e.dZ gs ex:=by unfold mf fa;rw[h.mp]
def XV(e:BE)(q:Bool)(ex:Ex):Prop:=∀(gs:Gs) (μ:Mp),dx e gs μ→kM (aI e.p) q (aw e) gs e.dZ→WT (aI e.p) q ex→gs.length+bQ (aI e.p) ex≤90000→
 cM prog [0,1,3,4,5,6,7] 92 [.op 0 0,.agg ((dE ex).map .d)] (bH e gs μ) (Gh e (mf e gs ex))
abbrev Oi:TypeId:=249
theorem vV{l:List Ex}{k:Nat}(h:k<l.length):dJ (l.flatMap bW) (k*7) 7=some (dE (nth l k)):=by rw[←sI];exact js9 h
theorem yl4:lS (.d (.val .nilFunc))=some [.d (.val .nilFunc)]:=rfl
theorem XU{c:Ct}{q:Bool}{e:Ex}(h:WT c q e):1≤cO e∧cO e≤18:=by
 cases e with
 |two o a b=>rcases h.1 with rfl|rfl|rfl<;>simp[cO]
 |_=>simp[cO]
theorem J1:AS prog KT Oi=some .nilFunc:=by kernel_rfl
theorem BV{a:Int}(h0: -1000000≤a)(h1:a≤1000000):pU prog Oi (.int .i64 a):=yl3 (et:=248) (by kernel_rfl) (nP (by omega) (by omega))
theorem J0(o:Int):pV (.int .i64 o) (uq (.int .i64 5) (.func (.func 143) #[] #[]) (uq (.int .i64 4) (.func (.func 141) #[] #[]) (uq (.int .i64 3) (.func (.func 95) #[] #[]) ([],0))))=
  if o=5 then some (.func (.func 143) #[] #[])else if o=4 then some (.func (.func 141) #[] #[])else if o=3 then some (.func (.func 95) #[] #[])else none:=by
 classical
 rw[FN rfl rfl,FN rfl rfl,FN rfl rfl]
 simp only[Value.int.injEq,true_and]
 rfl
theorem JZ{l:List (List Int)}(h:l.length=1):l=[nth l 0]:=by
 match l,h with
 |[a],_=>rfl
theorem AU{l:List (List Int)}(h:l.length=2):l=[nth l 0,nth l 1]:=by
 match l,h with
 |[a,b],_=>rfl
theorem yp5{l:List (List Int)}(h:l.length=3):l=[nth l 0,nth l 1,nth l 2]:=by
 match l,h with
 |[a,b,d],_=>rfl
theorem jK{p q:Prop}(hq:q)(h:p=q:=by
 conv=>lhs;simp -dsimp -implicitDefEqProofs (disch:=first|assumption|omega|(simp only[aK,aT,bx,gP]<;>omega)|decide) only[aP,↓reduceIte,Nat.reduceEqDiff,Nat.reduceAdd,D.fix,Int.reduceToNat,Nat.reduceMul,Nat.reduceBNe,Nat.reduceBEq,bR,bH,bO,aD,bE,bP,dE,cg,nS,vV,mK,ai,List.cons_append,List.nil_append,bw]):p:=h.mpr hq
theorem jl(k:List Nat){m:List Nat}{τ τ1:Fr}{H H1:ak}(h:Rt m (fun t=>c7 k (τ t)) (dg k H) τ1 H1)(a:∀i∈m,k[i]? =some i:=by decide)(b:k.Nodup:=by decide)(c:∀i∈k,i<H.length:=by
 simp[eS,dg]):Rt m τ H τ1 H1:=Rt.trans (Rt.gc a b c) h
theorem jk{m:List Nat}{τ τ':Fr}{H H':ak}(h2:H=H')(h:fm τ τ':=by
 repeat (first|exact bT _|refine bM ?_ (by first|rfl|(simp[aR,aT,bx,gP];done)|simp[aR,aT,bx,gP, *]))):Rt m τ H τ' H':=Rt.end h h2
theorem uN{p q:Prop}(hq:q)(h:p=q:=by
 conv=>lhs;simp -dsimp -implicitDefEqProofs (disch:=first|assumption|omega|(simp only[aK,aT,bx,gP]<;>omega)|decide) only[aP,↓reduceIte,Nat.reduceEqDiff,Nat.reduceAdd,D.fix,Int.reduceToNat,Nat.reduceMul,Nat.reduceBNe,Nat.reduceBEq,mz,bR,bH,bO,aD,bE,bP,dE,cg,nS,vV,mK,ai,List.cons_append,List.nil_append,bw]):p:=h.mpr hq
theorem zt{P:Program}{sm:List Nat}{N:Nat}{τ0 τ:Fr}{H:ak}{f:FuncId}{args:List AV}{K0 KK:AV→ak→Prop}{ks:List Nat}(S T:ak)(h:cM P ks f args S K0)(hK:∀x S',K0 x S'→S'.length=S.length∧KK x (S'++T))(hH:H=S++T:=by
 rfl) (hN:S.length≤N:=by
 exact bN rfl) (hm:sm.all (aJ ks S.length)=true:=by
 first|rfl|(simp[AV.ah,AV.allI,bc,bg,bf,aJ,aN,aY,aZ,bH,bO,bP,dE,cg];done)|(intro o ho;simp at ho;done)) (hτ:∀t,(τ t).allI (aJ ks S.length)=true:=by
 exact fun t=>fU (by first|rfl|(simp[AV.ah,AV.allI,bc,bg,bf,aJ,aN,aY,aZ,bH,bO,bP,dE,cg];done)|(intro o ho;simp at ho;done)) t) (h0:∀t,(τ0 t).allI (aJ ks S.length)=true:=by
 exact fun t=>fU (by first|rfl|(simp[AV.ah,AV.allI,bc,bg,bf,aJ,aN,aY,aZ,bH,bO,bP,dE,cg];done)|(intro o ho;simp at ho;done)) t) (ha:AV.ah (aN S.length) args=true:=by
 first|rfl|(simp[AV.ah,AV.allI,bc,bg,bf,aJ,aN,aY,aZ,bH,bO,bP,dE,cg];done)|(intro o ho;simp at ho;done)) (hS:∀o∈S,o.allI (aN S.length)=true:=by
 first|rfl|(simp[AV.ah,AV.allI,bc,bg,bf,aJ,aN,aY,aZ,bH,bO,bP,dE,cg];done)|(intro o ho;simp at ho;done)) (hT:∀o∈T,o.allI (aJ ks S.length)=true:=by
 first|rfl|(simp[AV.ah,AV.allI,bc,bg,bf,aJ,aN,aY,aZ,bH,bO,bP,dE,cg];done)|(intro o ho;simp at ho;done)):kE P sm N τ0 τ H (.d (.val (.func (.func f) #[] #[]))) args (tg KK):=uL h hH hN hm hτ h0 ha hS hT hK
theorem KY{p q r:Prop}(e:r)(hq:q)(h:r→p=q:=by
 intro hY
 conv=>lhs;simp -dsimp -implicitDefEqProofs (disch:=first|assumption|omega|(simp only[aK,aT,bx,gP]<;>omega)|decide) only[aP,↓reduceIte,Nat.reduceEqDiff,Nat.reduceAdd,D.fix,Int.reduceToNat,Nat.reduceMul,Nat.reduceBNe,Nat.reduceBEq,bR,bH,bO,aD,bE,bP,dE,cg,nS,vV,mK,ai,List.cons_append,List.nil_append,uO,yl4,yq,ZC J1 ru o3,Option.getD_some,Option.getD_none,Option.isSome_some,Option.isSome_none,bw,hY]):p:=(h e).mpr hq
theorem KW{p q:Prop}(hq:q)(h:p=q:=by
 conv=>lhs;simp -dsimp -implicitDefEqProofs (disch:=first|assumption|omega|(simp only[aK,aT,bx,gP]<;>omega)|decide) only[aP,↓reduceIte,Nat.reduceEqDiff,Nat.reduceAdd,D.fix,Int.reduceToNat,Nat.reduceMul,Nat.reduceBNe,Nat.reduceBEq,bR,bH,bO,aD,bE,bP,dE,cg,nS,vV,mK,ai,List.cons_append,List.nil_append]):p:=h.mpr hq
theorem F8{P:Program}{sm:List Nat}{N:Nat}{τ:Fr}{H:ak}{f:FuncId}{args:List AV}{K0 KK:AV→ak→Prop}{ks:List Nat}(S T:ak)(h:cM P ks f args S K0)(hK:∀x S',K0 x S'→S'.length=S.length∧KK x (S'++T))(hH:H=S++T:=by
 rfl) (hm:sm.all (aJ ks S.length)=true:=by
 first|rfl|(simp[AV.ah,AV.allI,bc,bg,bf,aJ,aN,aY,aZ,bH,bO,bP,dE,cg];done)|(intro o ho;simp at ho;done)) (hτ:∀t,(τ t).allI (aJ ks S.length)=true:=by
 exact fun t=>fU (by first|rfl|(simp[AV.ah,AV.allI,bc,bg,bf,aJ,aN,aY,aZ,bH,bO,bP,dE,cg];done)|(intro o ho;simp at ho;done)) t) (ha:AV.ah (aN S.length) args=true:=by
 first|rfl|(simp[AV.ah,AV.allI,bc,bg,bf,aJ,aN,aY,aZ,bH,bO,bP,dE,cg];done)|(intro o ho;simp at ho;done)) (hS:∀o∈S,o.allI (aN S.length)=true:=by
 first|rfl|(simp[AV.ah,AV.allI,bc,bg,bf,aJ,aN,aY,aZ,bH,bO,bP,dE,cg];done)|(intro o ho;simp at ho;done)) (hT:∀o∈T,o.allI (aJ ks S.length)=true:=by
 first|rfl|(simp[AV.ah,AV.allI,bc,bg,bf,aJ,aN,aY,aZ,bH,bO,bP,dE,cg];done)|(intro o ho;simp at ho;done)):kC P sm N H τ (.d (.val (.func (.func f) #[] #[]))) args true (tg KK):=r7 h hH hm hτ ha hS hT hK
theorem KU{p q r:Prop}(e:r)(hq:q)(h:r→p=q:=by
 intro hY
 conv=>lhs;simp -dsimp -implicitDefEqProofs (disch:=first|assumption|omega|(simp only[aK,aT,bx,gP]<;>omega)|decide) only[aP,↓reduceIte,Nat.reduceEqDiff,Nat.reduceAdd,D.fix,Int.reduceToNat,Nat.reduceMul,Nat.reduceBNe,Nat.reduceBEq,mz,bR,bH,bO,aD,bE,bP,dE,cg,nS,vV,mK,ai,List.cons_append,List.nil_append,bw,hY]):p:=(h e).mpr hq
theorem KS{p q r:Prop}(e:r)(hq:q)(h:r→p=q:=by
 intro hY
 conv=>lhs;simp -dsimp -implicitDefEqProofs (disch:=first|assumption|omega|(simp only[aK,aT,bx,gP]<;>omega)|decide) only[aP,↓reduceIte,Nat.reduceEqDiff,Nat.reduceAdd,D.fix,Int.reduceToNat,Nat.reduceMul,Nat.reduceBNe,Nat.reduceBEq,bR,bH,bO,aD,bE,bP,dE,cg,nS,vV,mK,ai,List.cons_append,List.nil_append,false_and,bw,hY]):p:=(h e).mpr hq
theorem XT{p q r:Prop}(e:r)(hq:q)(h:r→p=q:=by
 intro hY
 conv=>lhs;simp -dsimp -implicitDefEqProofs (disch:=first|assumption|omega|(simp only[aK,aT,bx,gP]<;>omega)|decide) only[aP,↓reduceIte,Nat.reduceEqDiff,Nat.reduceAdd,D.fix,Int.reduceToNat,Nat.reduceMul,Nat.reduceBNe,Nat.reduceBEq,bR,bH,bO,aD,bE,bP,dE,cg,nS,vV,mK,ai,List.cons_append,List.nil_append,bw,hY]):p:=(h e).mpr hq
theorem NQ{p q:Prop}(hq:q)(h:p=q:=by
 conv=>lhs;simp only[cD,Nat.reduceAdd,↓reduceIte,Nat.reduceEqDiff,bR,bH,bO,aD,bE,bP,dE,cg,nS,vV,mK,ai,List.cons_append,List.nil_append]):p:=h.mpr hq
theorem jE{p:Prop}(h:p:=by
 first|rfl|(simp only[cD,Nat.reduceAdd,↓reduceIte,Nat.reduceEqDiff,bR,bH,bO,aD,bE,bP,dE,cg,nS,vV,mK,ai,List.cons_append,List.nil_append];first|done|rfl)):p:=h
theorem ygx(e:BE)(he:vI e)(q:Bool)(ex:Ex)(ih:∀k,k<(aV ex).length→XV e q (nth (aV ex) k))(gs:Gs)(μ:Mp)(h:dx e gs μ)(gH:kM (aI e.p) q (aw e) gs e.dZ)(di:WT (aI e.p) q ex)(gj:gs.length+bQ (aI e.p) ex≤90000):cM prog [0,1,3,4,5,6,7] 92 [.op 0 0,.agg ((dE ex).map .d)] (bH e gs μ) (Gh e (mf e gs ex)):=by
 refine fV (fn:=f92) (by kernel_rfl) func92 rfl (bN rfl) fun c hc hp=>?_
 refine oc ?_
 obtain⟨S,hS⟩:∃S:Nat→Gs × List (List Int),S=AZ (mf e) gs (aV ex):=⟨_,rfl⟩
 have QI:∀k,k≤(aV ex).length→BM (aI e.p) (aw e) gs (aV ex) k (S k):=by
  rw[hS];exact jtw (q:=q) nw he.k.ct (by rw[←he.mp];exact Kl he.k) h.g gH (kQ di)
 have nb:=jo9 (c:=aI e.p) (e:=ex)
 have uw:(aV ex).length≤3:=by cases ex<;>simp[aV]
 have i1:=h.i;have l1:=h.l
 refine aj (jK ·) ?_
 refine aj (jK ·) ?_
 refine aH fun K3 bS=>?_
 refine aj (jK ·) ?_
 refine aW ?_
 refine c9 hp (fun τ' H' mm=>∃(k:Nat) (μ1:Mp),(k≤(aV ex).length∧ic (aw e) (S k).1 μ1)∧mm=(aV ex).length - k∧H'=bH e (S k).1 μ1++[bP,.cells (au (dE ex)),.cells [.os 1 11 0 k],.cells (au ((S k).2.map av))]∧τ'=aG [(2,.op 8 0),(3,.op 9 0),(5,.op 10 0),(15,.d (.fs ((aV ex).flatMap bW) (aV ex).length)),(16,.d (iD (aV ex).length)),(17,.d (iD k))]) ((aV ex).length) ?_ ⟨0,μ,⟨cy _,by rw[hS];exact h.n⟩,rfl,rfl,rfl⟩ ?_
 ·refine Rt.trans (Rt.gq 10 0 1 rfl rfl) ?_
  refine jl [0,1,2,3,4,5,6,7,8,9,10,11] ?_
  refine jk ?_
  refine NQ ?_;rw[hS];simp[AZ,bH,bO,bP,au,dE,cg,iD]
 rintro τ' H' mm ⟨k,μ1,⟨hk,cZ⟩,rfl,rfl,rfl⟩
 refine aj (jK ·) ?_
 refine aH fun K6 cF=>?_
 refine aX rfl (fun ht=>?_) (fun ht=>?_)
 ·have aA:k<(aV ex).length:=by simp at ht;omega
  have ha:=QI k hk
  have pz:=ha.ln
  have wN:=je0 (c:=aI e.p) (l:=aV ex) (show k+1≤(aV ex).length by omega)
  have hle:=ha.len
  rw[ku]at wN
  have h1:dx e (S k).1 μ1:=⟨cZ,ha.gi,h.i,by omega⟩
  have fy:=ih k aA (S k).1 μ1 h1 (gH.pre ha.pre) (kQ di k aA) (by omega)
  have es:S (k+1)=((mf e (S k).1 (nth (aV ex) k)).1,(S k).2++[(mf e (S k).1 (nth (aV ex) k)).2]):=by rw[hS,AZ]
  clear hS
  refine bB (cF _ _ ?_)
  refine aH fun K7 de=>?_
  refine aW ?_
  refine aj (jK ·) ?_
  refine y6 ax hp hc mixed rfl [(0,[]),(1,[]),(2,[]),(3,[0]),(4,[]),(5,[]),(6,[])] [[],[],[],[1,2],[1,2,3],[0,1,2,3,4],[0,1,2,3,4,5]] 1 (by kernel_rfl) fun K9 cJ=>?_
  refine uN ?_
  refine zt (bH e (S k).1 μ1) ([bP,.cells (au (dE ex)),.cells [.os 1 11 0 k],.cells (au ((S k).2.map av)),.cells (au (dE (nth (aV ex) k))),.free]) (fy) ?_
  rintro _ _ ⟨μ2,db,rfl,rfl⟩
  refine⟨rfl,?_⟩
  refine uN ?_
  refine cJ _ _ (de _ _ ?_)
  refine bA hp ax hc rfl fun kL bU=>?_
  refine jK ?_
  refine bU _ _ ⟨_,_,_,?_,⟨k+1,μ2,⟨by omega,by rw[es];exact db⟩,rfl,rfl,rfl⟩,?_⟩
  ·first|omega|(simp only[List.length_cons];omega)|(dsimp only;omega)
  ·refine jl [0,1,2,3,4,5,6,7,8,9,10,14] ?_
   refine jk ?_
   refine NQ ?_;simp[es,iD,av,bH,bO,bP,au,dE,cg,aD]
 ·have cf:k=(aV ex).length:=by simp at ht;omega
  subst cf
  have ha:=QI _ (bm _)
  have hle:=ha.len
  have pz:=ha.ln
  obtain⟨T,hT⟩:∃T,T=S (aV ex).length:=⟨_,rfl⟩
  rw[←hT]at ha hle cZ pz
  rw[←hT]
  have h1:dx e T.1 μ1:=⟨cZ,ha.gi,h.i,by omega⟩
  have Il:=gH.pre ha.pre
  have kX:dJ (T.2.map av) 0 (aV ex).length=some (T.2.map av):=iN (by simp[pz])
  refine cL (bS _ _ ?_)
  refine bI hp (τ':=aG [(2,.op 8 0),(3,.op 9 0),(5,.op 10 0)]) (H':=bH e T.1 μ1++[bP,.cells (au (dE ex)),.cells [.d (.fs (T.2.map av) (aV ex).length)]]) ?_ ?_
  ·refine Rt.trans (Rt.fz (id:=11) (l:=(T.2.map av)) rfl) ?_
   refine jl [0,1,2,3,4,5,6,7,8,9,10] ?_
   refine jk ?_
   refine NQ ?_;simp only[bH,bO,bP,dE,cg,nS,iD,List.cons_append,List.nil_append,kX];rfl
  refine eN ax hc mixed rfl (q:=1) (by kernel_rfl) (by kernel_rfl) fun lz cm=>?_
  refine jK ?_
  refine cm _ _ ?_
  have k3:=BV (a:=3) (by decide) (by decide)
  have k4:=BV (a:=4) (by decide) (by decide)
  have k5:=BV (a:=5) (by decide) (by decide)
  have o1:rL prog Oi (uq (.int .i64 3) (.func (.func 95) #[] #[]) ([],0)):=(rL.nil _ _).put k3
  have o2:=o1.put (v:=.func (.func 141) #[] #[]) k4
  have o3:=o2.put (v:=.func (.func 143) #[] #[]) k5
  refine bC hp ax hc rfl fun nk cU=>?_
  simp -dsimp -implicitDefEqProofs (disch:=first|assumption|omega|(simp only[aK,aT,bx,gP]<;>omega)|decide) only[aP,↓reduceIte,Nat.reduceEqDiff,Nat.reduceAdd,D.fix,Int.reduceToNat,Nat.reduceMul,Nat.reduceBNe,Nat.reduceBEq,bR,bH,bO,aD,bE,bP,dE,cg,nS,vV,mK,ai,List.cons_append,List.nil_append,Hj J1 k3 (rL.nil _ _),Hj J1 k4 o1,Hj J1 k5 o2,bw]
  refine cU _ _ ?_
  refine aH fun rN dQ=>?_
  refine bC hp ax hc rfl fun rM dI=>?_
  rcases(show cO ex=3∨cO ex=4∨cO ex=5∨(cO ex≠3∧cO ex≠4∧cO ex≠5) by omega)with ho|ho|ho|ho
  ·have ru:=BV (a:=cO ex) (by omega) (by omega)
   have js:=J0 (cO ex)
   rw[if_neg (by omega),if_neg (by omega),if_pos ho]at js
   refine KY js ?_
   refine dI _ _ ?_
   refine aj (KW ·) ?_
   refine jW ?_
   obtain⟨a,b,cS⟩:∃a b,ex= .two 3 a b:=by
    have hv:cO ex=3:=ho
    rcases r8 di with⟨v,w,rfl⟩|⟨i,rfl⟩|⟨i,rfl⟩|⟨a,rfl⟩|⟨a,b,rfl⟩|⟨a,b,rfl⟩|⟨a,b,rfl⟩|⟨a,b,rfl⟩|⟨a,b,rfl⟩|⟨a,b,rfl⟩|⟨a,b,rfl⟩|⟨a,b,d,rfl⟩|⟨a,b,rfl⟩|⟨i,w,a,rfl⟩|⟨w,a,rfl⟩|⟨i,a,rfl⟩<;>first|exact⟨_,_,rfl⟩|(exfalso;revert hv;simp[cO];done)
   subst cS
   obtain⟨X,hX⟩:∃X,X=nth T.2 0:=⟨_,rfl⟩
   have wX:X.length=aM (aI e.p) a:=by rw[hX];exact ha.wid 0 (by simp[aV])
   have nX:eo (aw e) T.1 X X.length:=fun i hi=>by rw[hX];exact ha.nd 0 (by simp[aV]) i (by rw[wX]at hi;exact hi)
   have bX:=jy he.k.ct (kQ di 0 (by simp[aV]))
   simp only[aV,nth,List.getD_cons_zero,List.getD_cons_succ]at bX
   obtain⟨Y,hY⟩:∃Y,Y=nth T.2 1:=⟨_,rfl⟩
   have wY:Y.length=aM (aI e.p) b:=by rw[hY];exact ha.wid 1 (by simp[aV])
   have nY:eo (aw e) T.1 Y Y.length:=fun i hi=>by rw[hY];exact ha.nd 1 (by simp[aV]) i (by rw[wY]at hi;exact hi)
   have bY:=jy he.k.ct (kQ di 1 (by simp[aV]))
   simp only[aV,nth,List.getD_cons_zero,List.getD_cons_succ]at bY
   have hL:T.2=[X,Y]:=by rw[hX];rw[hY];exact AU ha.ln
   have GB:=di.2.2.2
   have pw:Y.length=X.length:=by rw[wX,wY];exact GB.symm
   have wv:eo (aw e) T.1 Y X.length:=by rw[←pw];exact nY
   have cI:mf e gs (.two 3 a b)=r5 (aw e) T.1 X Y X.length:=by rw[hX,hY,hT,hS];rfl
   have xH:bQ (aI e.p) (.two 3 a b)=bQ (aI e.p) a+bQ (aI e.p) b+aM (aI e.p) a:=rfl
   have zT:ku (aI e.p) (aV (.two 3 a b)) (aV (.two 3 a b)).length=bQ (aI e.p) a+bQ (aI e.p) b:=by simp[aV,ku,nth]
   rw[hL]
   refine bI hp (τ':=aG [(2,.op 8 0),(5,.op 9 0),(11,.op 10 0)]) (H':=bH e T.1 μ1++[bP,.cells [.d (ai [X,Y])],.cells [.d (.val (.func (.func 95) #[] #[]))]]) ?_ ?_
   ·refine jl [0,1,2,3,4,5,6,7,8,10,13] ?_
    refine jk ?_
    exact jE
   refine bC hp ax hc rfl fun pM df=>?_
   refine jK ?_
   refine F8 (bH e T.1 μ1++[bP,.cells [.d (ai [X,Y])],.cells [.d (.val (.func (.func 95) #[] #[]))]]) ([]) (jp6 e T.1 μ1 X Y h1 nX wv pw (by omega) (by omega)) ?_
   rintro _ _ ⟨μ2,db,rfl,rfl⟩
   refine⟨rfl,?_⟩
   refine jK ?_
   refine df _ _ ?_
   refine bI hp (τ':=aG [(4,.d (av (r5 (aw e) T.1 X Y X.length).2))]) (H':=bH e (r5 (aw e) T.1 X Y X.length).1 μ2) ?_ ?_
   ·refine jl [0,1,2,3,4,5,6,7] ?_
    refine jk ?_
    exact jE
   refine bh ?_
   refine c8 (t:=4) rfl ?_
   show ∃_,_
   rw[cI];exact⟨μ2,db,rfl,rfl⟩
  ·have ru:=BV (a:=cO ex) (by omega) (by omega)
   have js:=J0 (cO ex)
   rw[if_neg (by omega),if_pos ho]at js
   refine KY js ?_
   refine dI _ _ ?_
   refine aj (KW ·) ?_
   refine jW ?_
   obtain⟨a,b,cS⟩:∃a b,ex= .two 4 a b:=by
    have hv:cO ex=4:=ho
    rcases r8 di with⟨v,w,rfl⟩|⟨i,rfl⟩|⟨i,rfl⟩|⟨a,rfl⟩|⟨a,b,rfl⟩|⟨a,b,rfl⟩|⟨a,b,rfl⟩|⟨a,b,rfl⟩|⟨a,b,rfl⟩|⟨a,b,rfl⟩|⟨a,b,rfl⟩|⟨a,b,d,rfl⟩|⟨a,b,rfl⟩|⟨i,w,a,rfl⟩|⟨w,a,rfl⟩|⟨i,a,rfl⟩<;>first|exact⟨_,_,rfl⟩|(exfalso;revert hv;simp[cO];done)
   subst cS
   obtain⟨X,hX⟩:∃X,X=nth T.2 0:=⟨_,rfl⟩
   have wX:X.length=aM (aI e.p) a:=by rw[hX];exact ha.wid 0 (by simp[aV])
   have nX:eo (aw e) T.1 X X.length:=fun i hi=>by rw[hX];exact ha.nd 0 (by simp[aV]) i (by rw[wX]at hi;exact hi)
   have bX:=jy he.k.ct (kQ di 0 (by simp[aV]))
   simp only[aV,nth,List.getD_cons_zero,List.getD_cons_succ]at bX
   obtain⟨Y,hY⟩:∃Y,Y=nth T.2 1:=⟨_,rfl⟩
   have wY:Y.length=aM (aI e.p) b:=by rw[hY];exact ha.wid 1 (by simp[aV])
   have nY:eo (aw e) T.1 Y Y.length:=fun i hi=>by rw[hY];exact ha.nd 1 (by simp[aV]) i (by rw[wY]at hi;exact hi)
   have bY:=jy he.k.ct (kQ di 1 (by simp[aV]))
   simp only[aV,nth,List.getD_cons_zero,List.getD_cons_succ]at bY
   have hL:T.2=[X,Y]:=by rw[hX];rw[hY];exact AU ha.ln
   have GB:=di.2.2.2
   have pw:Y.length=X.length:=by rw[wX,wY];exact GB.symm
   have wv:eo (aw e) T.1 Y X.length:=by rw[←pw];exact nY
   have cI:mf e gs (.two 4 a b)=sd (aw e) T.1 X Y X.length:=by rw[hX,hY,hT,hS];rfl
   have xH:bQ (aI e.p) (.two 4 a b)=bQ (aI e.p) a+bQ (aI e.p) b+aM (aI e.p) a:=rfl
   have zT:ku (aI e.p) (aV (.two 4 a b)) (aV (.two 4 a b)).length=bQ (aI e.p) a+bQ (aI e.p) b:=by simp[aV,ku,nth]
   rw[hL]
   refine bI hp (τ':=aG [(2,.op 8 0),(5,.op 9 0),(11,.op 10 0)]) (H':=bH e T.1 μ1++[bP,.cells [.d (ai [X,Y])],.cells [.d (.val (.func (.func 141) #[] #[]))]]) ?_ ?_
   ·refine jl [0,1,2,3,4,5,6,7,8,10,13] ?_
    refine jk ?_
    exact jE
   refine bC hp ax hc rfl fun ye fP=>?_
   refine jK ?_
   refine F8 (bH e T.1 μ1++[bP,.cells [.d (ai [X,Y])],.cells [.d (.val (.func (.func 141) #[] #[]))]]) ([]) (jxr e T.1 μ1 X Y h1 nX wv pw (by omega) (by omega)) ?_
   rintro _ _ ⟨μ2,db,rfl,rfl⟩
   refine⟨rfl,?_⟩
   refine jK ?_
   refine fP _ _ ?_
   refine bI hp (τ':=aG [(4,.d (av (sd (aw e) T.1 X Y X.length).2))]) (H':=bH e (sd (aw e) T.1 X Y X.length).1 μ2) ?_ ?_
   ·refine jl [0,1,2,3,4,5,6,7] ?_
    refine jk ?_
    exact jE
   refine bh ?_
   refine c8 (t:=4) rfl ?_
   show ∃_,_
   rw[cI];exact⟨μ2,db,rfl,rfl⟩
  ·have ru:=BV (a:=cO ex) (by omega) (by omega)
   have js:=J0 (cO ex)
   rw[if_pos ho]at js
   refine KY js ?_
   refine dI _ _ ?_
   refine aj (KW ·) ?_
   refine jW ?_
   obtain⟨a,b,cS⟩:∃a b,ex= .two 5 a b:=by
    have hv:cO ex=5:=ho
    rcases r8 di with⟨v,w,rfl⟩|⟨i,rfl⟩|⟨i,rfl⟩|⟨a,rfl⟩|⟨a,b,rfl⟩|⟨a,b,rfl⟩|⟨a,b,rfl⟩|⟨a,b,rfl⟩|⟨a,b,rfl⟩|⟨a,b,rfl⟩|⟨a,b,rfl⟩|⟨a,b,d,rfl⟩|⟨a,b,rfl⟩|⟨i,w,a,rfl⟩|⟨w,a,rfl⟩|⟨i,a,rfl⟩<;>first|exact⟨_,_,rfl⟩|(exfalso;revert hv;simp[cO];done)
   subst cS
   obtain⟨X,hX⟩:∃X,X=nth T.2 0:=⟨_,rfl⟩
   have wX:X.length=aM (aI e.p) a:=by rw[hX];exact ha.wid 0 (by simp[aV])
   have nX:eo (aw e) T.1 X X.length:=fun i hi=>by rw[hX];exact ha.nd 0 (by simp[aV]) i (by rw[wX]at hi;exact hi)
   have bX:=jy he.k.ct (kQ di 0 (by simp[aV]))
   simp only[aV,nth,List.getD_cons_zero,List.getD_cons_succ]at bX
   obtain⟨Y,hY⟩:∃Y,Y=nth T.2 1:=⟨_,rfl⟩
   have wY:Y.length=aM (aI e.p) b:=by rw[hY];exact ha.wid 1 (by simp[aV])
   have nY:eo (aw e) T.1 Y Y.length:=fun i hi=>by rw[hY];exact ha.nd 1 (by simp[aV]) i (by rw[wY]at hi;exact hi)
   have bY:=jy he.k.ct (kQ di 1 (by simp[aV]))
   simp only[aV,nth,List.getD_cons_zero,List.getD_cons_succ]at bY
   have hL:T.2=[X,Y]:=by rw[hX];rw[hY];exact AU ha.ln
   have GB:=di.2.2.2
   have pw:Y.length=X.length:=by rw[wX,wY];exact GB.symm
   have wv:eo (aw e) T.1 Y X.length:=by rw[←pw];exact nY
   have cI:mf e gs (.two 5 a b)=r4 (aw e) T.1 X Y X.length:=by rw[hX,hY,hT,hS];rfl
   have xH:bQ (aI e.p) (.two 5 a b)=bQ (aI e.p) a+bQ (aI e.p) b+aM (aI e.p) a:=rfl
   have zT:ku (aI e.p) (aV (.two 5 a b)) (aV (.two 5 a b)).length=bQ (aI e.p) a+bQ (aI e.p) b:=by simp[aV,ku,nth]
   rw[hL]
   refine bI hp (τ':=aG [(2,.op 8 0),(5,.op 9 0),(11,.op 10 0)]) (H':=bH e T.1 μ1++[bP,.cells [.d (ai [X,Y])],.cells [.d (.val (.func (.func 143) #[] #[]))]]) ?_ ?_
   ·refine jl [0,1,2,3,4,5,6,7,8,10,13] ?_
    refine jk ?_
    exact jE
   refine bC hp ax hc rfl fun uK eG=>?_
   refine jK ?_
   refine F8 (bH e T.1 μ1++[bP,.cells [.d (ai [X,Y])],.cells [.d (.val (.func (.func 143) #[] #[]))]]) ([]) (jp8 e T.1 μ1 X Y h1 nX wv pw (by omega) (by omega)) ?_
   rintro _ _ ⟨μ2,db,rfl,rfl⟩
   refine⟨rfl,?_⟩
   refine jK ?_
   refine eG _ _ ?_
   refine bI hp (τ':=aG [(4,.d (av (r4 (aw e) T.1 X Y X.length).2))]) (H':=bH e (r4 (aw e) T.1 X Y X.length).1 μ2) ?_ ?_
   ·refine jl [0,1,2,3,4,5,6,7] ?_
    refine jk ?_
    exact jE
   refine bh ?_
   refine c8 (t:=4) rfl ?_
   show ∃_,_
   rw[cI];exact⟨μ2,db,rfl,rfl⟩
  ·have ru:=BV (a:=cO ex) (by have:=XU di;omega) (by have:=XU di;omega)
   have js:=J0 (cO ex)
   rw[if_neg (by omega),if_neg (by omega),if_neg (by omega)]at js
   refine KY js ?_
   refine dI _ _ ?_
   refine aj (KW ·) ?_
   refine eC ?_
   refine bB (dQ _ _ ?_)
   refine aH fun wS fB=>?_
   refine aj (jK ·) ?_
   refine aW ?_
   refine aj (jK ·) ?_
   refine aX rfl (fun ht=>?_) (fun ht=>?_)
   ·obtain⟨v,w,cS⟩:∃v w,ex= .lM v w:=by
     have hv:cO ex=1:=by simpa using ht
     rcases r8 di with⟨v,w,rfl⟩|⟨i,rfl⟩|⟨i,rfl⟩|⟨a,rfl⟩|⟨a,b,rfl⟩|⟨a,b,rfl⟩|⟨a,b,rfl⟩|⟨a,b,rfl⟩|⟨a,b,rfl⟩|⟨a,b,rfl⟩|⟨a,b,rfl⟩|⟨a,b,d,rfl⟩|⟨a,b,rfl⟩|⟨i,w,a,rfl⟩|⟨w,a,rfl⟩|⟨i,a,rfl⟩<;>first|exact⟨_,_,rfl⟩|(exfalso;revert hv;simp[cO];done)
    subst cS
    have rp:=di.2.1
    have hv:=di.2.2
    have QD:v<2^62:=Nat.lt_of_lt_of_le hv (rj (by decide) (by omega))
    have cI:mf e gs (.lM v w)=rY T.1 v w:=by rw[rY,MB,hT,hS];rfl
    refine bI hp (τ':=aG [(8,.op 8 0),(9,.d (iD w))]) (H':=bH e T.1 μ1++[.cells [.d (iD v)]]) ?_ ?_
    ·refine jl [0,1,2,3,4,5,6,7,11] ?_
     refine jk ?_
     exact jE
    refine bC hp ax hc rfl fun BK jn=>?_
    refine jK ?_
    refine F8 (bH e T.1 μ1++[.cells [.d (iD v)],.cells (au (List.replicate w (iD 0)))]) ([]) (jqa e T.1 μ1 v w h1 QD (by omega)) ?_
    rintro _ _ ⟨μ2,db,rfl,rfl⟩
    refine⟨rfl,?_⟩
    refine jK ?_
    refine jn _ _ ?_
    refine bI hp (τ':=aG [(4,.d (av (rY T.1 v w).2))]) (H':=bH e (rY T.1 v w).1 μ2) ?_ ?_
    ·refine jl [0,1,2,3,4,5,6,7] ?_
     refine jk ?_
     exact jE
    refine bh ?_
    refine c8 (t:=4) rfl ?_
    show ∃_,_
    rw[cI];exact⟨μ2,db,rfl,rfl⟩
   ·have m2:cO ex≠1:=by simpa using ht
    refine aj (jK ·) ?_
    refine aX rfl (fun ht=>?_) (fun ht=>?_)
    ·obtain⟨i,cS⟩:∃i,ex= .fe i:=by
      have hv:cO ex=16:=by simpa using ht
      rcases r8 di with⟨v,w,rfl⟩|⟨i,rfl⟩|⟨i,rfl⟩|⟨a,rfl⟩|⟨a,b,rfl⟩|⟨a,b,rfl⟩|⟨a,b,rfl⟩|⟨a,b,rfl⟩|⟨a,b,rfl⟩|⟨a,b,rfl⟩|⟨a,b,rfl⟩|⟨a,b,d,rfl⟩|⟨a,b,rfl⟩|⟨i,w,a,rfl⟩|⟨w,a,rfl⟩|⟨i,a,rfl⟩<;>first|exact⟨_,rfl⟩|(exfalso;revert hv;simp[cO];done)
     subst cS
     have gb:i<e.p.ag.length:=by have:=di;simpa[WT,aI]using this
     have em:nth (aI e.p).ag i=(nth e.p.ag i).w:=lQ gb
     have hr8:=he.k.ct.r i di
     rw[em]at hr8
     have jR:=he.rl
     have m1:=OX gb
     have px:∀k,k<(nth e.p.ag i).w→(⟨1,(i:Int),(k:Int)⟩:aB)∈e.ins:=fun k hk=>by rw[he.i];exact zD gb hk
     have cI:mf e gs (.fe i)=rX e.ins T.1 i (nth e.p.ag i).w:=by rw[rX,MB,he.i,←em,hT,hS];rfl
     have jr:(0<(nth e.p.ag i).w)=True:=by simp;omega
     refine bI hp (τ':=aG [(2,.op 8 0),(8,.op 9 0)]) (H':=bH e T.1 μ1++[bP,.cells [.d (iD i)]]) ?_ ?_
     ·refine jl [0,1,2,3,4,5,6,7,8,11] ?_
      refine jk ?_
      exact jE
     refine jN ax hp hc mixed rfl [(0,[]),(1,[]),(2,[]),(3,[]),(4,[]),(5,[]),(6,[]),(7,[]),(8,[]),(9,[]),(10,[]),(11,[]),(12,[])] [[],[0],[0,1],[0,1,2],[0,1,2,3],[],[0,1,2,3,4,5],[0,1,2,3,4,5,6],[0,1,2,3,4,5,6,7],[0,1,2,3,4,5,6,7,8],[],[0,1,2,3,4,5,6,7,8,9,10],[0,1,2,3,4,5,6,7,8,9,10,11]] 1 (by kernel_rfl) fun IZ l7=>?_
     refine KU (aL m1 jr) ?_
     refine zt (bH e T.1 μ1++[bP,.cells [.d (iD i)]]) ([.dead]) (jqb e T.1 μ1 i (nth e.p.ag i).w h1 he.m px (by omega) (by omega)) ?_
     rintro _ _ ⟨μ2,db,rfl,rfl⟩
     refine⟨rfl,?_⟩
     refine KU (aL m1 jr) ?_
     refine l7 _ _ ?_
     refine bI hp (τ':=aG [(4,.d (av (rX e.ins T.1 i (nth e.p.ag i).w).2))]) (H':=bH e (rX e.ins T.1 i (nth e.p.ag i).w).1 μ2) ?_ ?_
     ·refine jl [0,1,2,3,4,5,6,7] ?_
      refine jk ?_
      exact jE
     refine bh ?_
     refine c8 (t:=4) rfl ?_
     show ∃_,_
     rw[cI];exact⟨μ2,db,rfl,rfl⟩
    ·have m3:cO ex≠16:=by simpa using ht
     refine aj (jK ·) ?_
     refine aX rfl (fun ht=>?_) (fun ht=>?_)
     ·obtain⟨i,cS⟩:∃i,ex= .dZ i:=by
       have hv:cO ex=18:=by simpa using ht
       rcases r8 di with⟨v,w,rfl⟩|⟨i,rfl⟩|⟨i,rfl⟩|⟨a,rfl⟩|⟨a,b,rfl⟩|⟨a,b,rfl⟩|⟨a,b,rfl⟩|⟨a,b,rfl⟩|⟨a,b,rfl⟩|⟨a,b,rfl⟩|⟨a,b,rfl⟩|⟨a,b,d,rfl⟩|⟨a,b,rfl⟩|⟨i,w,a,rfl⟩|⟨w,a,rfl⟩|⟨i,a,rfl⟩<;>first|exact⟨_,rfl⟩|(exfalso;revert hv;simp[cO];done)
      subst cS
      have gb:i<e.dZ.length:=by rw[gH.l di.1];exact di.2
      have gd:(e.dZ.map av)[i]? =some (av (nth e.dZ i)):=dm gb
      have cI:mf e gs (.dZ i)=(T.1,nth e.dZ i):=by rw[hT,hS];rfl
      refine bI hp (τ':=aG [(2,.op 8 0),(8,.op 9 0)]) (H':=bH e T.1 μ1++[bP,.cells [.d (iD i)]]) ?_ ?_
      ·refine jl [0,1,2,3,4,5,6,7,8,11] ?_
       refine jk ?_
       exact jE
      refine eN ax hc mixed rfl (q:=0) (by kernel_rfl) (by kernel_rfl) fun BJ iT=>?_
      simp -dsimp -implicitDefEqProofs (disch:=first|assumption|omega|(simp only[aK,aT,bx,gP]<;>omega)|decide) only[aP,↓reduceIte,Nat.reduceEqDiff,Nat.reduceAdd,D.fix,Int.reduceToNat,Nat.reduceMul,Nat.reduceBNe,Nat.reduceBEq,bR,bH,bO,aD,bE,bP,dE,cg,nS,vV,mK,ai,List.cons_append,List.nil_append,B0,gd,Option.map_some,bw]
      refine iT _ _ ?_
      refine bI hp (τ':=aG [(4,.d (av (nth e.dZ i)))]) (H':=bH e T.1 μ1) ?_ ?_
      ·refine jl [0,1,2,3,4,5,6,7] ?_
       refine jk ?_
       exact jE
      refine bh ?_
      refine c8 (t:=4) rfl ?_
      show ∃_,_
      rw[cI];exact⟨μ1,cZ,rfl,rfl⟩
     ·have m4:cO ex≠18:=by simpa using ht
      refine aj (jK ·) ?_
      refine aX rfl (fun ht=>?_) (fun ht=>?_)
      ·obtain⟨a,cS⟩:∃a,ex= .not a:=by
        have hv:cO ex=2:=by simpa using ht
        rcases r8 di with⟨v,w,rfl⟩|⟨i,rfl⟩|⟨i,rfl⟩|⟨a,rfl⟩|⟨a,b,rfl⟩|⟨a,b,rfl⟩|⟨a,b,rfl⟩|⟨a,b,rfl⟩|⟨a,b,rfl⟩|⟨a,b,rfl⟩|⟨a,b,rfl⟩|⟨a,b,d,rfl⟩|⟨a,b,rfl⟩|⟨i,w,a,rfl⟩|⟨w,a,rfl⟩|⟨i,a,rfl⟩<;>first|exact⟨_,rfl⟩|(exfalso;revert hv;simp[cO];done)
       subst cS
       obtain⟨X,hX⟩:∃X,X=nth T.2 0:=⟨_,rfl⟩
       have wX:X.length=aM (aI e.p) a:=by rw[hX];exact ha.wid 0 (by simp[aV])
       have nX:eo (aw e) T.1 X X.length:=fun i hi=>by rw[hX];exact ha.nd 0 (by simp[aV]) i (by rw[wX]at hi;exact hi)
       have bX:=jy he.k.ct (kQ di 0 (by simp[aV]))
       simp only[aV,nth,List.getD_cons_zero,List.getD_cons_succ]at bX
       have hL:T.2=[X]:=by rw[hX];exact JZ ha.ln
       have xH:bQ (aI e.p) (.not a)=bQ (aI e.p) a+aM (aI e.p) a:=rfl
       have zT:ku (aI e.p) (aV (.not a)) (aV (.not a)).length=bQ (aI e.p) a:=by simp[aV,ku,nth]
       have cI:mf e gs (.not a)=n8 (aw e) T.1 X X.length:=by rw[hX,hT,hS];rfl
       rw[hL]
       refine bI hp (τ':=aG [(2,.op 8 0),(5,.op 9 0)]) (H':=bH e T.1 μ1++[bP,.cells [.d (ai [X])]]) ?_ ?_
       ·refine jl [0,1,2,3,4,5,6,7,8,10] ?_
        refine jk ?_
        exact jE
       refine jN ax hp hc mixed rfl [(0,[]),(1,[]),(2,[]),(3,[]),(4,[]),(5,[])] [[],[],[1],[1,2],[0,1,2,3],[0,1,2,3,4]] 0 (by kernel_rfl) fun IX l6=>?_
       refine uN ?_
       refine zt (bH e T.1 μ1) ([bP,.cells [.d (ai [X])]]) (jfb e T.1 μ1 X h1 nX (by omega) (by omega)) ?_
       rintro _ _ ⟨μ2,db,rfl,rfl⟩
       refine⟨rfl,?_⟩
       refine uN ?_
       refine l6 _ _ ?_
       refine bI hp (τ':=aG [(4,.d (av (n8 (aw e) T.1 X X.length).2))]) (H':=bH e (n8 (aw e) T.1 X X.length).1 μ2) ?_ ?_
       ·refine jl [0,1,2,3,4,5,6,7] ?_
        refine jk ?_
        exact jE
       refine bh ?_
       refine c8 (t:=4) rfl ?_
       show ∃_,_
       rw[cI];exact⟨μ2,db,rfl,rfl⟩
      ·have m5:cO ex≠2:=by simpa using ht
       refine aj (jK ·) ?_
       refine aX rfl (fun ht=>?_) (fun ht=>?_)
       ·obtain⟨a,b,cS⟩:∃a b,ex= .add a b:=by
         have hv:cO ex=6:=by simpa using ht
         rcases r8 di with⟨v,w,rfl⟩|⟨i,rfl⟩|⟨i,rfl⟩|⟨a,rfl⟩|⟨a,b,rfl⟩|⟨a,b,rfl⟩|⟨a,b,rfl⟩|⟨a,b,rfl⟩|⟨a,b,rfl⟩|⟨a,b,rfl⟩|⟨a,b,rfl⟩|⟨a,b,d,rfl⟩|⟨a,b,rfl⟩|⟨i,w,a,rfl⟩|⟨w,a,rfl⟩|⟨i,a,rfl⟩<;>first|exact⟨_,_,rfl⟩|(exfalso;revert hv;simp[cO];done)
        subst cS
        obtain⟨X,hX⟩:∃X,X=nth T.2 0:=⟨_,rfl⟩
        have wX:X.length=aM (aI e.p) a:=by rw[hX];exact ha.wid 0 (by simp[aV])
        have nX:eo (aw e) T.1 X X.length:=fun i hi=>by rw[hX];exact ha.nd 0 (by simp[aV]) i (by rw[wX]at hi;exact hi)
        have bX:=jy he.k.ct (kQ di 0 (by simp[aV]))
        simp only[aV,nth,List.getD_cons_zero,List.getD_cons_succ]at bX
        obtain⟨Y,hY⟩:∃Y,Y=nth T.2 1:=⟨_,rfl⟩
        have wY:Y.length=aM (aI e.p) b:=by rw[hY];exact ha.wid 1 (by simp[aV])
        have nY:eo (aw e) T.1 Y Y.length:=fun i hi=>by rw[hY];exact ha.nd 1 (by simp[aV]) i (by rw[wY]at hi;exact hi)
        have bY:=jy he.k.ct (kQ di 1 (by simp[aV]))
        simp only[aV,nth,List.getD_cons_zero,List.getD_cons_succ]at bY
        have hL:T.2=[X,Y]:=by rw[hX];rw[hY];exact AU ha.ln
        have xH:bQ (aI e.p) (.add a b)=bQ (aI e.p) a+bQ (aI e.p) b+3*aM (aI e.p) a:=rfl
        have zT:ku (aI e.p) (aV (.add a b)) (aV (.add a b)).length=bQ (aI e.p) a+bQ (aI e.p) b:=by simp[aV,ku,nth]
        have pw:Y.length=X.length:=by rw[wX,wY];exact di.2.2.symm
        have wv:eo (aw e) T.1 Y X.length:=by rw[←pw];exact nY
        have cI:mf e gs (.add a b)=((gO (aw e) T.1 X Y 0 X.length).gs,(gO (aw e) T.1 X Y 0 X.length).l):=by rw[hX,hY,hT,hS];rfl
        rw[hL]
        refine bI hp (τ':=aG [(2,.op 8 0),(5,.op 9 0)]) (H':=bH e T.1 μ1++[bP,.cells [.d (ai [X,Y])]]) ?_ ?_
        ·refine jl [0,1,2,3,4,5,6,7,8,10] ?_
         refine jk ?_
         exact jE
        refine jN ax hp hc mixed rfl [(0,[]),(1,[]),(2,[]),(3,[]),(4,[]),(5,[]),(6,[]),(7,[]),(8,[])] [[],[],[1],[1,2],[],[4],[4,5],[0,1,2,3,4,5,6],[0,1,2,3,4,5,6,7]] 0 (by kernel_rfl) fun IW nc=>?_
        refine uN ?_
        refine zt (bH e T.1 μ1) ([bP,.cells [.d (ai [X,Y])]]) (jud e T.1 μ1 X Y 0 h1 nX wv pw h1.z (by omega) (by omega)) ?_
        rintro _ _ ⟨μ2,db,rfl,rfl⟩
        refine⟨rfl,?_⟩
        refine uN ?_
        refine nc _ _ ?_
        refine bI hp (τ':=aG [(4,.d (av (((gO (aw e) T.1 X Y 0 X.length).gs,(gO (aw e) T.1 X Y 0 X.length).l)).2))]) (H':=bH e (((gO (aw e) T.1 X Y 0 X.length).gs,(gO (aw e) T.1 X Y 0 X.length).l)).1 μ2) ?_ ?_
        ·refine jl [0,1,2,3,4,5,6,7] ?_
         refine jk ?_
         exact jE
        refine bh ?_
        refine c8 (t:=4) rfl ?_
        show ∃_,_
        rw[cI];exact⟨μ2,db,rfl,rfl⟩
       ·have m6:cO ex≠6:=by simpa using ht
        refine aj (jK ·) ?_
        refine aX rfl (fun ht=>?_) (fun ht=>?_)
        ·obtain⟨a,b,cS⟩:∃a b,ex= .sub a b:=by
          have hv:cO ex=7:=by simpa using ht
          rcases r8 di with⟨v,w,rfl⟩|⟨i,rfl⟩|⟨i,rfl⟩|⟨a,rfl⟩|⟨a,b,rfl⟩|⟨a,b,rfl⟩|⟨a,b,rfl⟩|⟨a,b,rfl⟩|⟨a,b,rfl⟩|⟨a,b,rfl⟩|⟨a,b,rfl⟩|⟨a,b,d,rfl⟩|⟨a,b,rfl⟩|⟨i,w,a,rfl⟩|⟨w,a,rfl⟩|⟨i,a,rfl⟩<;>first|exact⟨_,_,rfl⟩|(exfalso;revert hv;simp[cO];done)
         subst cS
         obtain⟨X,hX⟩:∃X,X=nth T.2 0:=⟨_,rfl⟩
         have wX:X.length=aM (aI e.p) a:=by rw[hX];exact ha.wid 0 (by simp[aV])
         have nX:eo (aw e) T.1 X X.length:=fun i hi=>by rw[hX];exact ha.nd 0 (by simp[aV]) i (by rw[wX]at hi;exact hi)
         have bX:=jy he.k.ct (kQ di 0 (by simp[aV]))
         simp only[aV,nth,List.getD_cons_zero,List.getD_cons_succ]at bX
         obtain⟨Y,hY⟩:∃Y,Y=nth T.2 1:=⟨_,rfl⟩
         have wY:Y.length=aM (aI e.p) b:=by rw[hY];exact ha.wid 1 (by simp[aV])
         have nY:eo (aw e) T.1 Y Y.length:=fun i hi=>by rw[hY];exact ha.nd 1 (by simp[aV]) i (by rw[wY]at hi;exact hi)
         have bY:=jy he.k.ct (kQ di 1 (by simp[aV]))
         simp only[aV,nth,List.getD_cons_zero,List.getD_cons_succ]at bY
         have hL:T.2=[X,Y]:=by rw[hX];rw[hY];exact AU ha.ln
         have xH:bQ (aI e.p) (.sub a b)=bQ (aI e.p) a+bQ (aI e.p) b+4*aM (aI e.p) a:=rfl
         have zT:ku (aI e.p) (aV (.sub a b)) (aV (.sub a b)).length=bQ (aI e.p) a+bQ (aI e.p) b:=by simp[aV,ku,nth]
         have pw:Y.length=X.length:=by rw[wX,wY];exact di.2.2.symm
         have wv:eo (aw e) T.1 Y X.length:=by rw[←pw];exact nY
         obtain⟨Z,hZ⟩:∃Z,Z=n8 (aw e) T.1 Y Y.length:=⟨_,rfl⟩
         have E2:=jmk nw h1.g nY (bm _)
         have nL:=jfb e T.1 μ1 Y h1 nY (by omega) (by omega)
         rw[←hZ]at E2 nL
         have Qs:=E2.len
         have hzw:=E2.wid
         have cI:mf e gs (.sub a b)=((gO (aw e) Z.1 X Z.2 1 X.length).gs,(gO (aw e) Z.1 X Z.2 1 X.length).l):=by rw[hZ,hX,hY,hT,hS];rfl
         rw[hL]
         refine bI hp (τ':=aG [(2,.op 8 0),(5,.op 9 0)]) (H':=bH e T.1 μ1++[bP,.cells [.d (ai [X,Y])]]) ?_ ?_
         ·refine jl [0,1,2,3,4,5,6,7,8,10] ?_
          refine jk ?_
          exact jE
         refine jN ax hp hc mixed rfl [(0,[]),(1,[]),(2,[]),(3,[]),(4,[]),(5,[]),(6,[]),(7,[]),(8,[0,1,3]),(9,[]),(10,[])] [[],[],[1],[1,2],[],[],[5],[5,6],[4,5,6,7],[0,1,2,3,4,5,6,7,8],[0,1,2,3,4,5,6,7,8,9]] 0 (by kernel_rfl) fun Dm jT=>?_
         refine uN ?_
         refine zt (bH e T.1 μ1) ([bP,.cells [.d (ai [X,Y])]]) (nL) ?_
         rintro _ _ ⟨μ3,nK,rfl,rfl⟩
         refine⟨rfl,?_⟩
         have h3:dx e Z.1 μ3:=⟨nK,E2.gi,h.i,by omega⟩
         refine uN ?_
         refine zt (bH e Z.1 μ3) ([bP,.cells [.d (ai [X,Y])]]) (jud e Z.1 μ3 X Z.2 1 h3 (nX.pre E2.pre) (fun k hk=>E2.nd k (by omega)) (by omega) ⟨by omega,by unfold aw;omega⟩ (by omega) (by omega)) ?_
         rintro _ _ ⟨μ2,db,rfl,rfl⟩
         refine⟨rfl,?_⟩
         refine uN ?_
         refine jT _ _ ?_
         refine bI hp (τ':=aG [(4,.d (av (((gO (aw e) Z.1 X Z.2 1 X.length).gs,(gO (aw e) Z.1 X Z.2 1 X.length).l)).2))]) (H':=bH e (((gO (aw e) Z.1 X Z.2 1 X.length).gs,(gO (aw e) Z.1 X Z.2 1 X.length).l)).1 μ2) ?_ ?_
         ·refine jl [0,1,2,3,4,5,6,7] ?_
          refine jk ?_
          exact jE
         refine bh ?_
         refine c8 (t:=4) rfl ?_
         show ∃_,_
         rw[cI];exact⟨μ2,db,rfl,rfl⟩
        ·have m7:cO ex≠7:=by simpa using ht
         refine aj (jK ·) ?_
         refine aX rfl (fun ht=>?_) (fun ht=>?_)
         ·obtain⟨a,b,cS⟩:∃a b,ex= .eq a b:=by
           have hv:cO ex=8:=by simpa using ht
           rcases r8 di with⟨v,w,rfl⟩|⟨i,rfl⟩|⟨i,rfl⟩|⟨a,rfl⟩|⟨a,b,rfl⟩|⟨a,b,rfl⟩|⟨a,b,rfl⟩|⟨a,b,rfl⟩|⟨a,b,rfl⟩|⟨a,b,rfl⟩|⟨a,b,rfl⟩|⟨a,b,d,rfl⟩|⟨a,b,rfl⟩|⟨i,w,a,rfl⟩|⟨w,a,rfl⟩|⟨i,a,rfl⟩<;>first|exact⟨_,_,rfl⟩|(exfalso;revert hv;simp[cO];done)
          subst cS
          obtain⟨X,hX⟩:∃X,X=nth T.2 0:=⟨_,rfl⟩
          have wX:X.length=aM (aI e.p) a:=by rw[hX];exact ha.wid 0 (by simp[aV])
          have nX:eo (aw e) T.1 X X.length:=fun i hi=>by rw[hX];exact ha.nd 0 (by simp[aV]) i (by rw[wX]at hi;exact hi)
          have bX:=jy he.k.ct (kQ di 0 (by simp[aV]))
          simp only[aV,nth,List.getD_cons_zero,List.getD_cons_succ]at bX
          obtain⟨Y,hY⟩:∃Y,Y=nth T.2 1:=⟨_,rfl⟩
          have wY:Y.length=aM (aI e.p) b:=by rw[hY];exact ha.wid 1 (by simp[aV])
          have nY:eo (aw e) T.1 Y Y.length:=fun i hi=>by rw[hY];exact ha.nd 1 (by simp[aV]) i (by rw[wY]at hi;exact hi)
          have bY:=jy he.k.ct (kQ di 1 (by simp[aV]))
          simp only[aV,nth,List.getD_cons_zero,List.getD_cons_succ]at bY
          have hL:T.2=[X,Y]:=by rw[hX];rw[hY];exact AU ha.ln
          have xH:bQ (aI e.p) (.eq a b)=bQ (aI e.p) a+bQ (aI e.p) b+3*aM (aI e.p) a:=rfl
          have zT:ku (aI e.p) (aV (.eq a b)) (aV (.eq a b)).length=bQ (aI e.p) a+bQ (aI e.p) b:=by simp[aV,ku,nth]
          have pw:Y.length=X.length:=by rw[wX,wY];exact di.2.2.symm
          have wv:eo (aw e) T.1 Y X.length:=by rw[←pw];exact nY
          obtain⟨Q,hQ⟩:∃Q,Q=nR (aw e) T.1 X Y X.length:=⟨_,rfl⟩
          have nL:=jpw e T.1 μ1 X Y h1 nX wv pw (by omega)
          rw[←hQ]at nL
          have cI:mf e gs (.eq a b)=(Q.1,[Q.2]):=by rw[hQ,hX,hY,hT,hS];rfl
          rw[hL]
          refine bI hp (τ':=aG [(2,.op 8 0),(5,.op 9 0)]) (H':=bH e T.1 μ1++[bP,.cells [.d (ai [X,Y])]]) ?_ ?_
          ·refine jl [0,1,2,3,4,5,6,7,8,10] ?_
           refine jk ?_
           exact jE
          refine jN ax hp hc mixed rfl [(0,[]),(1,[]),(2,[]),(3,[]),(4,[]),(5,[]),(6,[]),(7,[]),(8,[]),(9,[])] [[],[],[1],[1,2],[],[4],[4,5],[0,1,2,3,4,5,6],[0,1,2,3,4,5,6,7],[0,1,2,3,4,5,6,7,8]] 1 (by kernel_rfl) fun R2 tC=>?_
          refine uN ?_
          refine zt (bH e T.1 μ1) ([bP,.cells [.d (ai [X,Y])],.free]) (nL) ?_
          rintro _ _ ⟨μ2,db,rfl,rfl⟩
          refine⟨rfl,?_⟩
          refine uN ?_
          refine tC _ _ ?_
          refine bI hp (τ':=aG [(4,.d (av [Q.2]))]) (H':=bH e Q.1 μ2) ?_ ?_
          ·refine jl [0,1,2,3,4,5,6,7] ?_
           refine jk ?_
           exact jE
          refine bh ?_
          refine c8 (t:=4) rfl ?_
          show ∃_,_
          rw[cI];exact⟨μ2,db,rfl,rfl⟩
         ·have m8:cO ex≠8:=by simpa using ht
          refine aj (jK ·) ?_
          refine aX rfl (fun ht=>?_) (fun ht=>?_)
          ·obtain⟨a,b,cS⟩:∃a b,ex= .lt a b:=by
            have hv:cO ex=9:=by simpa using ht
            rcases r8 di with⟨v,w,rfl⟩|⟨i,rfl⟩|⟨i,rfl⟩|⟨a,rfl⟩|⟨a,b,rfl⟩|⟨a,b,rfl⟩|⟨a,b,rfl⟩|⟨a,b,rfl⟩|⟨a,b,rfl⟩|⟨a,b,rfl⟩|⟨a,b,rfl⟩|⟨a,b,d,rfl⟩|⟨a,b,rfl⟩|⟨i,w,a,rfl⟩|⟨w,a,rfl⟩|⟨i,a,rfl⟩<;>first|exact⟨_,_,rfl⟩|(exfalso;revert hv;simp[cO];done)
           subst cS
           obtain⟨X,hX⟩:∃X,X=nth T.2 0:=⟨_,rfl⟩
           have wX:X.length=aM (aI e.p) a:=by rw[hX];exact ha.wid 0 (by simp[aV])
           have nX:eo (aw e) T.1 X X.length:=fun i hi=>by rw[hX];exact ha.nd 0 (by simp[aV]) i (by rw[wX]at hi;exact hi)
           have bX:=jy he.k.ct (kQ di 0 (by simp[aV]))
           simp only[aV,nth,List.getD_cons_zero,List.getD_cons_succ]at bX
           obtain⟨Y,hY⟩:∃Y,Y=nth T.2 1:=⟨_,rfl⟩
           have wY:Y.length=aM (aI e.p) b:=by rw[hY];exact ha.wid 1 (by simp[aV])
           have nY:eo (aw e) T.1 Y Y.length:=fun i hi=>by rw[hY];exact ha.nd 1 (by simp[aV]) i (by rw[wY]at hi;exact hi)
           have bY:=jy he.k.ct (kQ di 1 (by simp[aV]))
           simp only[aV,nth,List.getD_cons_zero,List.getD_cons_succ]at bY
           have hL:T.2=[X,Y]:=by rw[hX];rw[hY];exact AU ha.ln
           have xH:bQ (aI e.p) (.lt a b)=bQ (aI e.p) a+bQ (aI e.p) b+(2*aM (aI e.p) a+1):=rfl
           have zT:ku (aI e.p) (aV (.lt a b)) (aV (.lt a b)).length=bQ (aI e.p) a+bQ (aI e.p) b:=by simp[aV,ku,nth]
           have pw:Y.length=X.length:=by rw[wX,wY];exact di.2.2.symm
           have wv:eo (aw e) T.1 Y X.length:=by rw[←pw];exact nY
           obtain⟨Q,hQ⟩:∃Q,Q=dW (aw e) (nJ (aw e) T.1 X Y X.length).1 (nJ (aw e) T.1 X Y X.length).2:=⟨_,rfl⟩
           have nL:=jxg e T.1 μ1 X Y h1 nX wv pw (by omega)
           rw[←hQ]at nL
           have cI:mf e gs (.lt a b)=(Q.1,[Q.2]):=by rw[hQ,hX,hY,hT,hS];rfl
           rw[hL]
           refine bI hp (τ':=aG [(2,.op 8 0),(5,.op 9 0)]) (H':=bH e T.1 μ1++[bP,.cells [.d (ai [X,Y])]]) ?_ ?_
           ·refine jl [0,1,2,3,4,5,6,7,8,10] ?_
            refine jk ?_
            exact jE
           refine jN ax hp hc mixed rfl [(0,[]),(1,[]),(2,[]),(3,[]),(4,[]),(5,[]),(6,[]),(7,[]),(8,[]),(9,[])] [[],[],[1],[1,2],[],[4],[4,5],[0,1,2,3,4,5,6],[0,1,2,3,4,5,6,7],[0,1,2,3,4,5,6,7,8]] 1 (by kernel_rfl) fun K39 x2=>?_
           refine uN ?_
           refine zt (bH e T.1 μ1) ([bP,.cells [.d (ai [X,Y])],.free]) (nL) ?_
           rintro _ _ ⟨μ2,db,rfl,rfl⟩
           refine⟨rfl,?_⟩
           refine uN ?_
           refine x2 _ _ ?_
           refine bI hp (τ':=aG [(4,.d (av [Q.2]))]) (H':=bH e Q.1 μ2) ?_ ?_
           ·refine jl [0,1,2,3,4,5,6,7] ?_
            refine jk ?_
            exact jE
           refine bh ?_
           refine c8 (t:=4) rfl ?_
           show ∃_,_
           rw[cI];exact⟨μ2,db,rfl,rfl⟩
          ·have m9:cO ex≠9:=by simpa using ht
           refine aj (jK ·) ?_
           refine aX rfl (fun ht=>?_) (fun ht=>?_)
           ·obtain⟨a,b,d,cS⟩:∃a b d,ex= .lU a b d:=by
             have hv:cO ex=10:=by simpa using ht
             rcases r8 di with⟨v,w,rfl⟩|⟨i,rfl⟩|⟨i,rfl⟩|⟨a,rfl⟩|⟨a,b,rfl⟩|⟨a,b,rfl⟩|⟨a,b,rfl⟩|⟨a,b,rfl⟩|⟨a,b,rfl⟩|⟨a,b,rfl⟩|⟨a,b,rfl⟩|⟨a,b,d,rfl⟩|⟨a,b,rfl⟩|⟨i,w,a,rfl⟩|⟨w,a,rfl⟩|⟨i,a,rfl⟩<;>first|exact⟨_,_,_,rfl⟩|(exfalso;revert hv;simp[cO];done)
            subst cS
            obtain⟨X,hX⟩:∃X,X=nth T.2 0:=⟨_,rfl⟩
            have wX:X.length=aM (aI e.p) a:=by rw[hX];exact ha.wid 0 (by simp[aV])
            have nX:eo (aw e) T.1 X X.length:=fun i hi=>by rw[hX];exact ha.nd 0 (by simp[aV]) i (by rw[wX]at hi;exact hi)
            have bX:=jy he.k.ct (kQ di 0 (by simp[aV]))
            simp only[aV,nth,List.getD_cons_zero,List.getD_cons_succ]at bX
            obtain⟨Y,hY⟩:∃Y,Y=nth T.2 1:=⟨_,rfl⟩
            have wY:Y.length=aM (aI e.p) b:=by rw[hY];exact ha.wid 1 (by simp[aV])
            have nY:eo (aw e) T.1 Y Y.length:=fun i hi=>by rw[hY];exact ha.nd 1 (by simp[aV]) i (by rw[wY]at hi;exact hi)
            have bY:=jy he.k.ct (kQ di 1 (by simp[aV]))
            simp only[aV,nth,List.getD_cons_zero,List.getD_cons_succ]at bY
            obtain⟨Z,hZ⟩:∃Z,Z=nth T.2 2:=⟨_,rfl⟩
            have wZ:Z.length=aM (aI e.p) d:=by rw[hZ];exact ha.wid 2 (by simp[aV])
            have nZ:eo (aw e) T.1 Z Z.length:=fun i hi=>by rw[hZ];exact ha.nd 2 (by simp[aV]) i (by rw[wZ]at hi;exact hi)
            have bZ:=jy he.k.ct (kQ di 2 (by simp[aV]))
            simp only[aV,nth,List.getD_cons_zero,List.getD_cons_succ]at bZ
            have hL:T.2=[X,Y,Z]:=by rw[hX];rw[hY];rw[hZ];exact yp5 ha.ln
            have xH:bQ (aI e.p) (.lU a b d)=bQ (aI e.p) a+bQ (aI e.p) b+bQ (aI e.p) d+2*aM (aI e.p) b:=rfl
            have zT:ku (aI e.p) (aV (.lU a b d)) (aV (.lU a b d)).length=bQ (aI e.p) a+bQ (aI e.p) b+bQ (aI e.p) d:=by simp[aV,ku,nth]
            have Z4:Z.length=Y.length:=by rw[wY,wZ];exact di.2.2.2.2.symm
            have hX1:X.length=1:=by rw[wX];exact di.2.2.2.1
            have nZY:eo (aw e) T.1 Z Y.length:=by rw[←Z4];exact nZ
            have cI:mf e gs (.lU a b d)=rZ (aw e) T.1 (nth X 0) Y Z Y.length:=by rw[hX,hY,hZ,hT,hS];rfl
            rw[hL]
            refine bI hp (τ':=aG [(2,.op 8 0),(5,.op 9 0)]) (H':=bH e T.1 μ1++[bP,.cells [.d (ai [X,Y,Z])]]) ?_ ?_
            ·refine jl [0,1,2,3,4,5,6,7,8,10] ?_
             refine jk ?_
             exact jE
            refine bC hp ax hc rfl fun K41 xZ=>?_
            refine jK ?_
            refine F8 (bH e T.1 μ1++[bP,.cells [.d (ai [X,Y,Z])]]) ([]) (jp9 e T.1 μ1 X Y Z h1 (by omega) (nX 0 (by omega)) nY nZY Z4 (by omega) (by omega)) ?_
            rintro _ _ ⟨μ2,db,rfl,rfl⟩
            refine⟨rfl,?_⟩
            refine jK ?_
            refine xZ _ _ ?_
            refine bI hp (τ':=aG [(4,.d (av (rZ (aw e) T.1 (nth X 0) Y Z Y.length).2))]) (H':=bH e (rZ (aw e) T.1 (nth X 0) Y Z Y.length).1 μ2) ?_ ?_
            ·refine jl [0,1,2,3,4,5,6,7] ?_
             refine jk ?_
             exact jE
            refine bh ?_
            refine c8 (t:=4) rfl ?_
            show ∃_,_
            rw[cI];exact⟨μ2,db,rfl,rfl⟩
           ·have m10:cO ex≠10:=by simpa using ht
            refine aj (jK ·) ?_
            refine aX rfl (fun ht=>?_) (fun ht=>?_)
            ·obtain⟨a,b,cS⟩:∃a b,ex= .cat a b:=by
              have hv:cO ex=11:=by simpa using ht
              rcases r8 di with⟨v,w,rfl⟩|⟨i,rfl⟩|⟨i,rfl⟩|⟨a,rfl⟩|⟨a,b,rfl⟩|⟨a,b,rfl⟩|⟨a,b,rfl⟩|⟨a,b,rfl⟩|⟨a,b,rfl⟩|⟨a,b,rfl⟩|⟨a,b,rfl⟩|⟨a,b,d,rfl⟩|⟨a,b,rfl⟩|⟨i,w,a,rfl⟩|⟨w,a,rfl⟩|⟨i,a,rfl⟩<;>first|exact⟨_,_,rfl⟩|(exfalso;revert hv;simp[cO];done)
             subst cS
             obtain⟨X,hX⟩:∃X,X=nth T.2 0:=⟨_,rfl⟩
             have wX:X.length=aM (aI e.p) a:=by rw[hX];exact ha.wid 0 (by simp[aV])
             have nX:eo (aw e) T.1 X X.length:=fun i hi=>by rw[hX];exact ha.nd 0 (by simp[aV]) i (by rw[wX]at hi;exact hi)
             have bX:=jy he.k.ct (kQ di 0 (by simp[aV]))
             simp only[aV,nth,List.getD_cons_zero,List.getD_cons_succ]at bX
             obtain⟨Y,hY⟩:∃Y,Y=nth T.2 1:=⟨_,rfl⟩
             have wY:Y.length=aM (aI e.p) b:=by rw[hY];exact ha.wid 1 (by simp[aV])
             have nY:eo (aw e) T.1 Y Y.length:=fun i hi=>by rw[hY];exact ha.nd 1 (by simp[aV]) i (by rw[wY]at hi;exact hi)
             have bY:=jy he.k.ct (kQ di 1 (by simp[aV]))
             simp only[aV,nth,List.getD_cons_zero,List.getD_cons_succ]at bY
             have hL:T.2=[X,Y]:=by rw[hX];rw[hY];exact AU ha.ln
             have cI:mf e gs (.cat a b)=(T.1,Y++X):=by rw[hX,hY,hT,hS];rfl
             have rC:=jfd [Y,X] (by simp) (by simp[qv];omega)
             rw[show[Y,X].flatten=Y++X by simp]at rC
             unfold ai at rC
             rw[hL]
             refine bI hp (τ':=aG [(2,.op 8 0),(5,.op 9 0)]) (H':=bH e T.1 μ1++[bP,.cells [.d (ai [X,Y])]]) ?_ ?_
             ·refine jl [0,1,2,3,4,5,6,7,8,10] ?_
              refine jk ?_
              exact jE
             refine eN ax hc mixed rfl (q:=1) (by kernel_rfl) (by kernel_rfl) fun K43 xY=>?_
             refine jK ?_
             refine cQ (rC) rfl ?_
             refine jK ?_
             refine xY _ _ ?_
             refine bI hp (τ':=aG [(4,.d (av (Y++X)))]) (H':=bH e T.1 μ1) ?_ ?_
             ·refine jl [0,1,2,3,4,5,6,7] ?_
              refine jk ?_
              exact jE
             refine bh ?_
             refine c8 (t:=4) rfl ?_
             show ∃_,_
             rw[cI];exact⟨μ1,cZ,rfl,rfl⟩
            ·have m11:cO ex≠11:=by simpa using ht
             refine aj (jK ·) ?_
             refine aX rfl (fun ht=>?_) (fun ht=>?_)
             ·obtain⟨i,w,a,cS⟩:∃i w a,ex= .mT i w a:=by
               have hv:cO ex=12:=by simpa using ht
               rcases r8 di with⟨v,w,rfl⟩|⟨i,rfl⟩|⟨i,rfl⟩|⟨a,rfl⟩|⟨a,b,rfl⟩|⟨a,b,rfl⟩|⟨a,b,rfl⟩|⟨a,b,rfl⟩|⟨a,b,rfl⟩|⟨a,b,rfl⟩|⟨a,b,rfl⟩|⟨a,b,d,rfl⟩|⟨a,b,rfl⟩|⟨i,w,a,rfl⟩|⟨w,a,rfl⟩|⟨i,a,rfl⟩<;>first|exact⟨_,_,_,rfl⟩|(exfalso;revert hv;simp[cO];done)
              subst cS
              obtain⟨X,hX⟩:∃X,X=nth T.2 0:=⟨_,rfl⟩
              have wX:X.length=aM (aI e.p) a:=by rw[hX];exact ha.wid 0 (by simp[aV])
              have nX:eo (aw e) T.1 X X.length:=fun i hi=>by rw[hX];exact ha.nd 0 (by simp[aV]) i (by rw[wX]at hi;exact hi)
              have bX:=jy he.k.ct (kQ di 0 (by simp[aV]))
              simp only[aV,nth,List.getD_cons_zero,List.getD_cons_succ]at bX
              have hL:T.2=[X]:=by rw[hX];exact JZ ha.ln
              have cI:mf e gs (.mT i w a)=(T.1,(X.drop i).take w):=by rw[hX,hT,hS];rfl
              have L2:=di.2.2
              have hkx:i+w≤X.length:=by rw[wX];exact L2
              have hto:((i:Int)+(w:Int)).toNat - i=w:=by omega
              have HY:min w (X.length - i)=w:=by omega
              have hb8:i+w≤1000:=by omega
              rw[hL]
              clear hX hT hS wX nX bX kX pz hL ha QI
              refine bI hp (τ':=aG [(2,.op 8 0),(5,.op 9 0),(8,.op 10 0),(9,.d (iD w))]) (H':=bH e T.1 μ1++[bP,.cells [.d (ai [X])],.cells [.d (iD i)]]) ?_ ?_
              ·refine jl [0,1,2,3,4,5,6,7,8,10,11] ?_
               refine jk ?_
               exact jE
              refine eN ax hc mixed rfl (q:=0) (by kernel_rfl) (by kernel_rfl) fun K45 RO=>?_
              refine jK ?_
              refine RO _ _ ?_
              refine bI hp (τ':=aG [(4,.d (av ((X.drop i).take w)))]) (H':=bH e T.1 μ1) ?_ ?_
              ·refine jl [0,1,2,3,4,5,6,7] ?_
               refine jk ?_
               exact jE
              refine bh ?_
              refine c8 (t:=4) rfl ?_
              show ∃_,_
              rw[cI];exact⟨μ1,cZ,rfl,rfl⟩
             ·have m12:cO ex≠12:=by simpa using ht
              refine aj (jK ·) ?_
              refine aX rfl (fun ht=>?_) (fun ht=>?_)
              ·obtain⟨w,a,cS⟩:∃w a,ex= .ext w a:=by
                have hv:cO ex=13:=by simpa using ht
                rcases r8 di with⟨v,w,rfl⟩|⟨i,rfl⟩|⟨i,rfl⟩|⟨a,rfl⟩|⟨a,b,rfl⟩|⟨a,b,rfl⟩|⟨a,b,rfl⟩|⟨a,b,rfl⟩|⟨a,b,rfl⟩|⟨a,b,rfl⟩|⟨a,b,rfl⟩|⟨a,b,d,rfl⟩|⟨a,b,rfl⟩|⟨i,w,a,rfl⟩|⟨w,a,rfl⟩|⟨i,a,rfl⟩<;>first|exact⟨_,_,rfl⟩|(exfalso;revert hv;simp[cO];done)
               subst cS
               obtain⟨X,hX⟩:∃X,X=nth T.2 0:=⟨_,rfl⟩
               have wX:X.length=aM (aI e.p) a:=by rw[hX];exact ha.wid 0 (by simp[aV])
               have nX:eo (aw e) T.1 X X.length:=fun i hi=>by rw[hX];exact ha.nd 0 (by simp[aV]) i (by rw[wX]at hi;exact hi)
               have bX:=jy he.k.ct (kQ di 0 (by simp[aV]))
               simp only[aV,nth,List.getD_cons_zero,List.getD_cons_succ]at bX
               have hL:T.2=[X]:=by rw[hX];exact JZ ha.ln
               have cI:mf e gs (.ext w a)=(T.1,X++List.replicate (w - X.length) 0):=by rw[hX,hT,hS];rfl
               have hwa:=di.2.1;have rp:=di.2.2
               have rC:=jfd [X,List.replicate (w - X.length) 0] (by simp) (by simp[qv];omega)
               have BC:=jp4 [X,List.replicate (w - X.length) 0] (by simp) (by simp[qv];omega)
               rw[show[X,List.replicate (w - X.length) (0:Int)].flatten=X++List.replicate (w - X.length) 0 by simp]at rC BC
               have HV:((w:Int) - (X.length:Int)).toNat=w - X.length:=by omega
               simp only[ai,av,List.map_cons,List.map_nil,List.map_replicate,List.length_replicate,List.length_cons,List.length_nil,Nat.zero_add,Nat.reduceAdd]at rC BC
               rw[hL]
               refine bI hp (τ':=aG [(2,.op 8 0),(5,.op 9 0),(9,.d (iD w))]) (H':=bH e T.1 μ1++[bP,.cells [.d (ai [X])]]) ?_ ?_
               ·refine jl [0,1,2,3,4,5,6,7,8,10] ?_
                refine jk ?_
                exact jE
               refine eN ax hc mixed rfl (q:=2) (by kernel_rfl) (by kernel_rfl) fun K47 vF=>?_
               by_cases hz:X.length<w
               ·have jr:(0<w - X.length)=True:=by simp;omega
                refine KS (aL HV jr) ?_
                refine cQ (rC) rfl ?_
                refine KS (aL HV jr) ?_
                refine vF _ _ ?_
                refine bI hp (τ':=aG [(4,.d (av (X++List.replicate (w - X.length) 0)))]) (H':=bH e T.1 μ1) ?_ ?_
                ·refine jl [0,1,2,3,4,5,6,7] ?_
                 refine jk ?_
                 exact jE
                refine bh ?_
                refine c8 (t:=4) rfl ?_
                show ∃_,_
                rw[cI];exact⟨μ1,cZ,rfl,rfl⟩
               ·have jr:((0:Nat)<0)=False:=by simp
                have hz1:w - X.length=0:=by omega
                rw[hz1]at HV BC cI
                simp only[List.replicate_zero]at BC cI
                refine KS (aL HV jr) ?_
                refine P0 (BC) ?_ ?_
                ·simp (disch:=first|assumption|omega|(simp only[aK,aT,bx,gP]<;>omega)|decide) only[gF,Nat.reduceAdd,D.fix,↓reduceIte,Nat.reduceEqDiff,bR,bH,bO,aD,bE,bP,dE,cg,nS,vV,mK,ai,List.cons_append,List.nil_append]
                refine KS (aL HV jr) ?_
                refine vF _ _ ?_
                refine bI hp (τ':=aG [(4,.d (av (X++[])))]) (H':=bH e T.1 μ1) ?_ ?_
                ·refine jl [0,1,2,3,4,5,6,7] ?_
                 refine jk ?_
                 exact jE
                refine bh ?_
                refine c8 (t:=4) rfl ?_
                show ∃_,_
                rw[cI];exact⟨μ1,cZ,rfl,rfl⟩
              ·have m13:cO ex≠13:=by simpa using ht
               obtain⟨i,a,cS⟩:∃i a,ex= .rd i a:=by
                clear ht
                rcases r8 di with⟨v,w,rfl⟩|⟨i,rfl⟩|⟨i,rfl⟩|⟨a,rfl⟩|⟨a,b,rfl⟩|⟨a,b,rfl⟩|⟨a,b,rfl⟩|⟨a,b,rfl⟩|⟨a,b,rfl⟩|⟨a,b,rfl⟩|⟨a,b,rfl⟩|⟨a,b,d,rfl⟩|⟨a,b,rfl⟩|⟨i,w,a,rfl⟩|⟨w,a,rfl⟩|⟨i,a,rfl⟩<;>first|exact⟨_,_,rfl⟩|(exfalso;simp_all [cO];done)
               subst cS
               obtain⟨X,hX⟩:∃X,X=nth T.2 0:=⟨_,rfl⟩
               have wX:X.length=aM (aI e.p) a:=by rw[hX];exact ha.wid 0 (by simp[aV])
               have nX:eo (aw e) T.1 X X.length:=fun i hi=>by rw[hX];exact ha.nd 0 (by simp[aV]) i (by rw[wX]at hi;exact hi)
               have bX:=jy he.k.ct (kQ di 0 (by simp[aV]))
               simp only[aV,nth,List.getD_cons_zero,List.getD_cons_succ]at bX
               have hL:T.2=[X]:=by rw[hX];exact JZ ha.ln
               have xH:bQ (aI e.p) (.rd i a)=bQ (aI e.p) a+(nth (aI e.p).mems i).2:=rfl
               have zT:ku (aI e.p) (aV (.rd i a)) (aV (.rd i a)).length=bQ (aI e.p) a:=by simp[aV,ku,nth]
               have gb:i<e.p.mems.length:=by have:=di.2;simpa[aI]using this
               have em:nth (aI e.p).mems i=((nth e.p.mems i).words,(nth e.p.mems i).w):=lQ gb
               have hm8:=he.k.ct.m i (by simpa[aI]using gb)
               have mC:=he.k.ct.l
               rw[em]at hm8 xH
               simp only at hm8 xH
               have QW:(aI e.p).mems.length=e.p.mems.length:=by simp[aI]
               have q1:=NV gb
               have jr:(0<(nth e.p.mems i).w)=True:=by simp;omega
               have q2:=WV gb
               obtain⟨A,hA⟩:∃A,A=gS X (nth e.p.mems i).words:=⟨_,rfl⟩
               have Dd:A=[nth A 0,nth A 1,nth A 2]:=by
                have:A.length=3:=by rw[hA];exact tX _ _
                match A,this with
                |[x,y,z],_=>rfl
               have nA:∀j,j<3→br (aw e) T.1 (nth A j):=fun j hj=>by rw[hA];exact Dt nw nX hj
               have rC:=jmn X (nth e.p.mems i).words (by omega) (by omega)
               rw[←hA,Dd]at rC
               have cI:mf e gs (.rd i a)=rh (aw e) T.1 (nth A 0) (nth A 1) (nth A 2) i (nth e.p.mems i).w:=by
                have e0:mf e gs (.rd i a)=rh (aw e) T.1 (nth (gS X (nth (aI e.p).mems i).1) 0) (nth (gS X (nth (aI e.p).mems i).1) 1) (nth (gS X (nth (aI e.p).mems i).1) 2) i (nth (aI e.p).mems i).2:=by rw[hX,hT,hS];rfl
                rw[e0,em,←hA]
               rw[hL]
               refine bB (fB _ _ ?_)
               refine bI hp (τ':=aG [(2,.op 8 0),(5,.op 9 0),(8,.op 10 0)]) (H':=bH e T.1 μ1++[bP,.cells [.d (ai [X])],.cells [.d (iD i)]]) ?_ ?_
               ·refine jl [0,1,2,3,4,5,6,7,8,10,11] ?_
                refine jk ?_
                exact jE
               refine eN ax hc mixed rfl (q:=1) (by kernel_rfl) (by kernel_rfl) fun K48 RM=>?_
               refine XT q2 ?_
               refine cQ (rC) rfl ?_
               refine XT q2 ?_
               refine RM _ _ ?_
               refine bI hp (τ':=aG [(2,.op 8 0),(13,.op 9 0),(8,.op 10 0)]) (H':=bH e T.1 μ1++[bP,.cells [.d (iD (nth A 0)),.d (iD (nth A 1)),.d (iD (nth A 2))],.cells [.d (iD i)]]) ?_ ?_
               ·refine jl [0,1,2,3,4,5,6,7,8,11,10] ?_
                refine jk ?_
                exact jE
               refine jN ax hp hc mixed rfl [(0,[]),(1,[]),(2,[]),(3,[]),(4,[]),(5,[]),(6,[]),(7,[]),(8,[]),(9,[]),(10,[]),(11,[]),(12,[])] [[],[0],[0,1],[0,1,2],[0,1,2,3],[],[0,1,2,3,4,5],[0,1,2,3,4,5,6],[0,1,2,3,4,5,6,7],[0,1,2,3,4,5,6,7,8],[],[0,1,2,3,4,5,6,7,8,9,10],[0,1,2,3,4,5,6,7,8,9,10,11]] 1 (by kernel_rfl) fun K49 Da=>?_
               refine KU (aL q1 jr) ?_
               refine zt (bH e T.1 μ1++[bP,.cells [.d (iD (nth A 0)),.d (iD (nth A 1)),.d (iD (nth A 2))],.cells [.d (iD i)]]) ([.dead]) (jxx e T.1 μ1 (nth A 0) (nth A 1) (nth A 2) i (nth e.p.mems i).w h1 (nA 0 (by decide)) (nA 1 (by decide)) (nA 2 (by decide)) (by omega) (by omega)) ?_
               rintro _ _ ⟨μ2,db,rfl,rfl⟩
               refine⟨rfl,?_⟩
               refine KU (aL q1 jr) ?_
               refine Da _ _ ?_
               refine bI hp (τ':=aG [(4,.d (av (rh (aw e) T.1 (nth A 0) (nth A 1) (nth A 2) i (nth e.p.mems i).w).2))]) (H':=bH e (rh (aw e) T.1 (nth A 0) (nth A 1) (nth A 2) i (nth e.p.mems i).w).1 μ2) ?_ ?_
               ·refine jl [0,1,2,3,4,5,6,7] ?_
                refine jk ?_
                exact jE
               refine bh ?_
               refine c8 (t:=4) rfl ?_
               show ∃_,_
               rw[cI];exact⟨μ2,db,rfl,rfl⟩
theorem MR(e:BE)(he:vI e)(q:Bool)(ex:Ex):XV e q ex:=by
 generalize hn:SizeOf.sizeOf ex=n
 induction n using Nat.strongRecOn generalizing ex with
 |_ n ih=>exact fun gs μ h gH di gj=>ygx e he q ex (fun k hk=>ih _ (hn▸Sn hk) _ rfl) gs μ h gH di gj
end Go.Proofs.YtapjobndmmkanaaGreat
