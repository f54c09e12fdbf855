/- netlist's builder: the firing bit. -/
import Derived.Test.YtapjobndmmkanaaGreatQr
import Derived.Test.YtapjobndmmkanaaGreatYn
import Derived.Test.YtapjobndmmkanaaGreatYp
set_option linter.unusedVariables false
set_option linter.unusedSimpArgs false
set_option maxRecDepth 100000
set_option maxHeartbeats 4000000
namespace Go.Proofs.YtapjobndmmkanaaGreat
open Go.Proofs.Tryz
open Go Go.RowKit
def sO(ins:List aB)(kind:Int)(j k:Nat):Int:=((2+mc ⟨kind,(j:Int),(k:Int)⟩ ins:Nat):Int)
theorem LF{e:BE}{kind:Int}{j k:Nat}(h:(⟨kind,(j:Int),(k:Int)⟩:aB)∈e.ins)(gs:Gs):br (aw e) gs (sO e.ins kind j k):=by
 have:=(FU h).1
 unfold sO
 exact⟨by omega,by unfold aw;omega⟩
theorem ER{p q r:Prop}(e:r)(hq:q)(h:r→p=q:=by
 intro hY
 conv=>lhs;simp -dsimp -implicitDefEqProofs (disch:=first|assumption|omega|(simp only[aK,aT,bx]<;>omega)|decide) only[aP,↓reduceIte,Nat.reduceEqDiff,Nat.reduceAdd,D.fix,Int.reduceToNat,Nat.reduceMul,Nat.reduceBNe,Nat.reduceBEq,mz,bR,bH,bO,aD,bE,bP,List.cons_append,List.nil_append,FD,yq,Pf J6 lZ hm.ok,Option.getD_some,bw,hY]):p:=(h e).mpr hq
theorem Kt{P:Program}{sm:List Nat}{N:Nat}{τ0 τ:Fr}{H:ak}{f:FuncId}{args:List AV}{K0 KK:AV→ak→Prop}{ks:List Nat}(S T:ak)(h:cM P ks f args S K0)(hK:∀x S',K0 x S'→S'.length=S.length∧KK x (S'++T))(hH:H=S++T:=by
 rfl) (hN:S.length≤N:=by
 exact bN rfl) (hm:sm.all (aJ ks S.length)=true:=by
 first|rfl|(simp[AV.ah,AV.allI,bc,bg,bf,aJ,aN,aY,aZ,bH,bO,bP];done)|(intro o ho;simp at ho;done)) (hτ:∀t,(τ t).allI (aJ ks S.length)=true:=by
 exact fun t=>fU (by first|rfl|(simp[AV.ah,AV.allI,bc,bg,bf,aJ,aN,aY,aZ,bH,bO,bP];done)|(intro o ho;simp at ho;done)) t) (h0:∀t,(τ0 t).allI (aJ ks S.length)=true:=by
 exact fun t=>fU (by first|rfl|(simp[AV.ah,AV.allI,bc,bg,bf,aJ,aN,aY,aZ,bH,bO,bP];done)|(intro o ho;simp at ho;done)) t) (ha:AV.ah (aN S.length) args=true:=by
 first|rfl|(simp[AV.ah,AV.allI,bc,bg,bf,aJ,aN,aY,aZ,bH,bO,bP];done)|(intro o ho;simp at ho;done)) (hS:∀o∈S,o.allI (aN S.length)=true:=by
 first|rfl|(simp[AV.ah,AV.allI,bc,bg,bf,aJ,aN,aY,aZ,bH,bO,bP];done)|(intro o ho;simp at ho;done)) (hT:∀o∈T,o.allI (aJ ks S.length)=true:=by
 first|rfl|(simp[AV.ah,AV.allI,bc,bg,bf,aJ,aN,aY,aZ,bH,bO,bP];done)|(intro o ho;simp at ho;done)):kE P sm N τ0 τ H (.d (.val (.func (.func f) #[] #[]))) args (tg KK):=uL h hH hN hm hτ h0 ha hS hT hK
theorem Gg(k:List Nat){m:List Nat}{τ τ1:Fr}{H H1:ak}(h:Rt m (fun t=>c7 k (τ t)) (dg k H) τ1 H1)(a:∀i∈m,k[i]? =some i:=by decide)(b:k.Nodup:=by decide)(c:∀i∈k,i<H.length:=by
 simp[eS,dg]):Rt m τ H τ1 H1:=Rt.trans (Rt.gc a b c) h
theorem Eo{m:List Nat}{τ τ':Fr}{H H':ak}(h2:H=H')(h:fm τ τ':=by
 repeat (first|exact bT _|refine bM ?_ (by first|rfl|(simp[aR,aT,bx];done)|simp[aR,aT,bx, *]))):Rt m τ H τ' H':=Rt.end h h2
theorem Wl{p:Prop}(h:p:=by
 first|rfl|(simp only[cD,Nat.reduceAdd,↓reduceIte,Nat.reduceEqDiff,bR,bH,bO,aD,bE,bP,List.cons_append,List.nil_append];first|done|rfl)):p:=h
theorem yma(e:BE)(gs:Gs)(μ:Mp)(u:Int)(j i:Nat)(x:Int)(h:dx e gs μ)(hm:o7 e.ins e.mi)(hw:(⟨2,(j:Int),(i:Int)⟩:aB)∈e.ins)(hu:br (aw e) gs u)(hj:j≤1000)(hi:i≤1000):cM prog [0,1,3,4,5,6,7,8,9,10] 139 [.d (iD i),.d (iD x),.op 8 0,.op 9 0,.op 10 0] (bH e gs μ++[bP,.cells [.d (iD u)],.cells [.d (iD j)]]) (vf e [bP,.cells [.d (iD u)],.cells [.d (iD j)]] (du (aw e) gs u (sO e.ins 2 j i))):=by
 refine fV (fn:=f139) (by kernel_rfl) func139 rfl (bN rfl) fun c hc hp=>?_
 refine DE ?_
 unfold bH bP
 have lZ:pU prog AL (wV ⟨2,(j:Int),(i:Int)⟩):=Fw (a:=2) (b:=(j:Int)) (c:=(i:Int)) (nP (by decide) (by decide)) (nP (by omega) (by omega)) (nP (by omega) (by omega))
 have js:=hm.gt ⟨2,(j:Int),(i:Int)⟩
 rw[if_pos hw]at js
 have gj:=xd e gs μ u (sO e.ins 2 j i) h hu (LF hw gs)
 have px:sO e.ins 2 j i=((2+mc ⟨2,(j:Int),(i:Int)⟩ e.ins:Nat):Int):=rfl
 rw[←px]at js
 generalize sO e.ins 2 j i=W at *
 refine bC hp ax hc rfl fun K1 rE=>?_
 simp -dsimp -implicitDefEqProofs (disch:=first|assumption|omega|(simp only[aK,aT,bx]<;>omega)|decide) only[aP,↓reduceIte,Nat.reduceEqDiff,Nat.reduceAdd,D.fix,Int.reduceToNat,Nat.reduceMul,Nat.reduceBNe,Nat.reduceBEq,bR,bH,bO,aD,bE,bP,List.cons_append,List.nil_append]
 refine rE _ _ ?_
 refine jN ax hp hc mixed rfl [(0,[]),(1,[]),(2,[]),(3,[]),(4,[]),(5,[]),(6,[]),(7,[]),(8,[]),(9,[]),(10,[]),(11,[])] [[],[],[],[2],[2,3],[2,3,4],[],[],[6,7],[2,3,4,5,6,7,8],[0,1,2,3,4,5,6,7,8,9],[0,1,2,3,4,5,6,7,8,9,10]] 0 (by kernel_rfl) fun K2 bG=>?_
 refine ER js ?_
 refine Kt (bH e gs μ) ([bP,.cells [.d (iD u)],.cells [.d (iD j)]]) (gj) ?_
 rintro _ _ ⟨μ1,cZ,rfl,rfl⟩
 refine⟨rfl,?_⟩
 refine ER js ?_
 refine bG _ _ ?_
 refine bI hp (τ':=aG [(7,.d (iD (du (aw e) gs u W).2))]) (H':=bH e (du (aw e) gs u W).1 μ1++[bP,.cells [.d (iD u)],.cells [.d (iD j)]]) ?_ ?_
 ·refine Gg [0,1,2,3,4,5,6,7,8,9,10] ?_
  refine Eo ?_
  exact Wl
 refine bh ?_
 refine c8 (t:=7) rfl ?_
 show ∃_,_
 exact⟨μ1,cZ,rfl,rfl⟩
def uj(m:Nat)(ins:List aB)(gs:Gs)(u:Int)(j k:Nat):Gs × List Int:=dh (fun gs i=>du m gs u (sO ins 2 j i)) gs k
theorem jmw{m:Nat}{ins:List aB}{gs:Gs}{u:Int}{j k:Nat}:uj m ins gs u j (k+1)=((du m (uj m ins gs u j k).1 u (sO ins 2 j k)).1,(uj m ins gs u j k).2++[(du m (uj m ins gs u j k).1 u (sO ins 2 j k)).2]):=rfl
theorem jx0{e:BE}{gs:Gs}{u:Int}{j n k:Nat}(h:GI (aw e) gs)(hu:br (aw e) gs u)(hw:∀i,i<n→(⟨2,(j:Int),(i:Int)⟩:aB)∈e.ins)(hk:k≤n):Bs (aw e) (1*k) k gs (uj (aw e) e.ins gs u j k):=nB h fun i hi cW hp hg=>qJ nw hg (hu.pre hp) (LF (hw i (by omega)) _)
theorem X7{p q:Prop}(hq:q)(h:p=q:=by
 conv=>lhs;simp -dsimp -implicitDefEqProofs (disch:=first|assumption|omega|(simp only[aK,aT,bx]<;>omega)|decide) only[aP,↓reduceIte,Nat.reduceEqDiff,Nat.reduceAdd,D.fix,Int.reduceToNat,Nat.reduceMul,Nat.reduceBNe,Nat.reduceBEq,bR,bH,bO,aD,bE,cB,List.cons_append,List.nil_append,bP]):p:=h.mpr hq
theorem EP{p q:Prop}(hq:q)(h:p=q:=by
 conv=>lhs;simp -dsimp -implicitDefEqProofs (disch:=first|assumption|omega|(simp only[aK,aT,bx]<;>omega)|decide) only[aP,↓reduceIte,Nat.reduceEqDiff,Nat.reduceAdd,D.fix,Int.reduceToNat,Nat.reduceMul,Nat.reduceBNe,Nat.reduceBEq,bR,bH,bO,aD,bE,cB,List.cons_append,List.nil_append,bP,bw]):p:=h.mpr hq
theorem Wk{p q:Prop}(hq:q)(h:p=q:=by
 conv=>lhs;simp only[cD,Nat.reduceAdd,↓reduceIte,Nat.reduceEqDiff,bR,bH,bO,aD,bE,cB,List.cons_append,List.nil_append,bP]):p:=h.mpr hq
theorem jqj(e:BE)(gs:Gs)(μ:Mp)(u:Int)(j n:Nat)(h:dx e gs μ)(hm:o7 e.ins e.mi)(px:∀i,i<n→(⟨2,(j:Int),(i:Int)⟩:aB)∈e.ins)(hu:br (aw e) gs u)(hj:j≤1000)(HR:n≤60)(hl:gs.length+n≤99990):cM prog [0,1,3,4,5,6,7,8,9,10] 138 [.d (.fs (List.replicate n (iD 0)) n),.dk (.func 139) [] [.op 8 0,.op 9 0,.op 10 0]] (bH e gs μ++[bP,.cells [.d (iD u)],.cells [.d (iD j)]]) (zu e [bP,.cells [.d (iD u)],.cells [.d (iD j)]] (uj (aw e) e.ins gs u j n)):=by
 refine fV (fn:=f138) (by kernel_rfl) func138 rfl (bN rfl) fun c hc hp=>?_
 refine oc ?_
 unfold bH bP
 refine aj (X7 ·) ?_
 refine aj (EP ·) ?_
 refine aH fun K3 bS=>?_
 refine aj (EP ·) ?_
 refine aW ?_
 refine c9 hp (fun τ' H' mm=>∃(k:Nat) (μ1:Mp),(k≤n∧ic (aw e) (uj (aw e) e.ins gs u j k).1 μ1)∧mm=n - k∧H'=bH e (uj (aw e) e.ins gs u j k).1 μ1++[bP,.cells [.d (iD u)],.cells [.d (iD j)],cB (uj (aw e) e.ins gs u j k).2 n]∧τ'=aG [(1,.dk (.func 139) [] [.op 8 0,.op 9 0,.op 10 0]),(5,.os 1 11 0 n),(11,.d (.fs (List.replicate n (iD 0)) n)),(12,.d (iD n)),(13,.d (iD k))]) (n) ?_ ⟨0,μ,⟨cy _,h.n⟩,rfl,rfl,rfl⟩ ?_
 ·refine Eo ?_
  refine Wk ?_;simp[uj,dh,cB,bH,bO,aD,iD,au,bP]
 rintro τ' H' mm ⟨k,μ1,⟨hk,cZ⟩,rfl,rfl,rfl⟩
 have hb:=jx0 h.g hu px hk
 have dY:=@jmw (aw e) e.ins gs u j k
 have jS:k=n→uj (aw e) e.ins gs u j n=uj (aw e) e.ins gs u j k:=fun e=>by rw[←e]
 generalize uj (aw e) e.ins gs u j k=s at *
 have hw:=hb.wid
 have pC:=hb.len
 have h1:dx e s.1 μ1:=⟨cZ,hb.gi,h.i,by have:=h.l;omega⟩
 refine aj (EP ·) ?_
 refine aH fun K6 cF=>?_
 refine aX rfl (fun ht=>?_) (fun ht=>?_)
 ·have aA:k<n:=by simp at ht;omega
  have tm:(List.replicate n (D.val (.int .i64 0)))[k]? =some (.val (.int .i64 0)):=by simp[aA]
  have cu:=xf hw aA (du (aw e) s.1 u (sO e.ins 2 j k)).2
  refine bB (cF _ _ ?_)
  refine aH fun K7 de=>?_
  refine aW ?_
  refine bC hp ax hc rfl fun K8 dC=>?_
  simp -dsimp -implicitDefEqProofs (disch:=first|assumption|omega|(simp only[aK,aT,bx]<;>omega)|decide) only[aP,↓reduceIte,Nat.reduceEqDiff,Nat.reduceAdd,D.fix,Int.reduceToNat,Nat.reduceMul,Nat.reduceBNe,Nat.reduceBEq,bR,bH,bO,aD,bE,cB,List.cons_append,List.nil_append,bP,tm,bw]
  refine dC _ _ ?_
  refine bA hp ax hc rfl fun K9 cJ=>?_
  refine EP ?_
  refine Aw (S:=bH e s.1 μ1++[bP,.cells [.d (iD u)],.cells [.d (iD j)]]) (T:=[cB s.2 n]) (yma e s.1 μ1 u j k _ h1 hm (px k aA) (hu.pre hb.pre) hj (by omega)) rfl (by first|rfl|(simp[AV.ah,AV.allI,bc,bg,bf,aJ,aN,aY,aZ,bH,bO,cB,bP];done)|(intro o ho;simp at ho;done)) (fun t=>fU (by first|rfl|(simp[AV.ah,AV.allI,bc,bg,bf,aJ,aN,aY,aZ,bH,bO,cB,bP];done)|(intro o ho;simp at ho;done)) t) (by first|rfl|(simp[AV.ah,AV.allI,bc,bg,bf,aJ,aN,aY,aZ,bH,bO,cB,bP];done)|(intro o ho;simp at ho;done)) (by first|rfl|(simp[AV.ah,AV.allI,bc,bg,bf,aJ,aN,aY,aZ,bH,bO,cB,bP];done)|(intro o ho;simp at ho;done)) (by first|rfl|(simp[AV.ah,AV.allI,bc,bg,bf,aJ,aN,aY,aZ,bH,bO,cB,bP];done)|(intro o ho;simp at ho;done)) ?_
  rintro _ _ ⟨μ2,db,rfl,rfl⟩
  refine⟨rfl,?_⟩
  refine EP ?_
  refine cJ _ _ (de _ _ ?_)
  refine bA hp ax hc rfl fun kL bU=>?_
  refine EP ?_
  refine bU _ _ ⟨_,_,_,?_,⟨k+1,μ2,⟨by omega,by rw[dY];exact db⟩,rfl,rfl,rfl⟩,?_⟩
  ·first|omega|(simp only[List.length_cons];omega)|(dsimp only;omega)
  ·refine Gg [0,1,2,3,4,5,6,7,8,9,10,11] ?_
   refine Eo ?_
   refine Wk ?_;rw[dY];dsimp only;rw[←cu];simp[bH,bO,aD,au,iD,bP]
 ·have cf:k=n:=by simp at ht;omega
  have hz:s.2++List.replicate (n - s.2.length) (0:Int)=s.2:=by rw[hw,cf,Nat.sub_self];simp
  rw[hz]
  refine cL (bS _ _ ?_)
  refine aj (X7 ·) ?_
  refine bI hp (τ':=aG [(4,.d (.fs (s.2.map iD) n))]) (H':=bH e s.1 μ1++[bP,.cells [.d (iD u)],.cells [.d (iD j)]]) ?_ ?_
  ·refine Rt.trans (Rt.fz (id:=11) (l:=(s.2.map iD)) rfl) ?_
   refine Rt.trans (Rt.slot 4 (qL (iN (by simp[hw,cf])))) ?_
   refine Gg [0,1,2,3,4,5,6,7,8,9,10] ?_
   refine Eo ?_
   first|rfl|(simp only[cD,Nat.reduceAdd,↓reduceIte,Nat.reduceEqDiff,bR,bH,bO,aD,bE,cB,List.cons_append,List.nil_append,bP];first|done|rfl)
  refine bh ?_
  refine c8 (t:=4) rfl ?_
  show ∃_,_
  rw[jS cf];exact⟨μ1,cZ,by show AV.d (.fs (s.2.map iD) n)= .d (.fs (s.2.map iD) s.2.length);rw[hw,cf],rfl⟩
def pR(m:Nat)(ins:List aB)(kind:Int)(l:List Int)(s:Re):Nat→Re
 |0=>s
 |k+1=>let r:=pR m ins kind l s k;yY m r.1 r.2 (nth l k) (sO ins kind k 0)
theorem jmx{e:BE}{kind:Int}{l:List Int}{gs:Gs}{f:Int}(h:GI (aw e) gs)(hf:br (aw e) gs f)(hl:eo (aw e) gs l l.length)(hw:∀k,k<l.length→(⟨kind,(k:Int),((0:Nat):Int)⟩:aB)∈e.ins):∀k,k≤l.length→Rs (aw e) (3*k) gs (pR (aw e) e.ins kind l (gs,f) k)
 |0,_=>Rs.same h hf
 |k+1,hk=>by
  have ih:=jmx h hf hl hw k (by omega)
  exact(ih.trans (Mv nw ih.gi ih.nd ((hl k (by omega)).pre ih.pre) (LF (hw k (by omega)) _))).mono (by omega)
def NeK(e:BE)(r:Re)(x:AV)(S':ak):Prop:=∃μ,ic (aw e) r.1 μ∧x= .dc []∧S'=bH e r.1 μ++[bP,.cells [.d (iD r.2)]]
theorem OI{p q:Prop}(hq:q)(h:p=q:=by
 conv=>lhs;simp -dsimp -implicitDefEqProofs (disch:=first|assumption|omega|(simp only[aK,aT,bx]<;>omega)|decide) only[aP,↓reduceIte,Nat.reduceEqDiff,Nat.reduceAdd,D.fix,Int.reduceToNat,Nat.reduceMul,Nat.reduceBNe,Nat.reduceBEq,bR,bH,bO,aD,bE,bP,List.cons_append,List.nil_append,bw]):p:=h.mpr hq
theorem Wj{p q:Prop}(hq:q)(h:p=q:=by
 conv=>lhs;simp only[cD,Nat.reduceAdd,↓reduceIte,Nat.reduceEqDiff,bR,bH,bO,aD,bE,bP,List.cons_append,List.nil_append]):p:=h.mpr hq
theorem jmy(e:BE)(gs:Gs)(μ:Mp)(kind f:Int)(l:List Int)(h:dx e gs μ)(hm:o7 e.ins e.mi)(dP:0≤kind)(zR:kind≤100)(hf:br (aw e) gs f)(lj:eo (aw e) gs l l.length)(QZ:∀k,k<l.length→(⟨kind,(k:Int),((0:Nat):Int)⟩:aB)∈e.ins)(pz:l.length≤1000)(hl:gs.length+3*l.length≤99990):cM prog [0,1,3,4,5,6,7,8,9] 140 [.d (iD kind),.d (av l),.op 8 0,.op 9 0] (bH e gs μ++[bP,.cells [.d (iD f)]]) (NeK e (pR (aw e) e.ins kind l (gs,f) l.length)):=by
 refine fV (fn:=f140) (by kernel_rfl) func140 rfl (bN rfl) fun c hc hp=>?_
 refine B8 ?_
 refine Jt hp ?_
 unfold bH bP
 refine aj (OI ·) ?_
 refine aW ?_
 refine c9 hp (fun τ' H' mm=>∃(k:Nat) (μ1:Mp),(k≤l.length∧ic (aw e) (pR (aw e) e.ins kind l (gs,f) k).1 μ1)∧mm=l.length - k∧H'=bH e (pR (aw e) e.ins kind l (gs,f) k).1 μ1++[bP,.cells [.d (iD (pR (aw e) e.ins kind l (gs,f) k).2)]]∧τ'=aG [(0,.d (iD kind)),(2,.op 8 0),(3,.op 9 0),(8,.d (av l)),(9,.d (iD l.length)),(10,.d (iD k))]) (l.length) ?_ ⟨0,μ,⟨cy _,h.n⟩,rfl,rfl,rfl⟩ ?_
 ·refine Eo ?_
  refine Wj ?_;rfl
 rintro τ' H' mm ⟨k,μ1,⟨hk,cZ⟩,rfl,rfl,rfl⟩
 have hr:=jmx h.g hf lj QZ k hk
 have dY:pR (aw e) e.ins kind l (gs,f) (k+1)=yY (aw e) (pR (aw e) e.ins kind l (gs,f) k).1 (pR (aw e) e.ins kind l (gs,f) k).2 (nth l k) (sO e.ins kind k 0):=rfl
 have jS:k=l.length→pR (aw e) e.ins kind l (gs,f) l.length=pR (aw e) e.ins kind l (gs,f) k:=fun e=>by rw[←e]
 generalize pR (aw e) e.ins kind l (gs,f) k=s at *
 have h1:=h.next hr cZ (by omega)
 have jR:=hr.len
 refine aj (OI ·) ?_
 refine aH fun K3 bS=>?_
 refine aX rfl (fun ht=>?_) (fun ht=>?_)
 ·have aA:k<l.length:=by simp at ht;omega
  have lZ:pU prog AL (wV ⟨kind,(k:Int),0⟩):=Fw (a:=kind) (b:=(k:Int)) (c:=0) (nP (by omega) (by omega)) (nP (by omega) (by omega)) (nP (by decide) (by decide))
  have js:=hm.gt ⟨kind,(k:Int),0⟩
  rw[if_pos (show(⟨kind,(k:Int),0⟩:aB)∈e.ins from QZ k aA)]at js
  have hwn:=LF (QZ k aA) s.1
  have px:sO e.ins kind k 0=((2+mc ⟨kind,(k:Int),0⟩ e.ins:Nat):Int):=rfl
  rw[←px]at js
  generalize sO e.ins kind k 0=W at *
  obtain⟨A,eA⟩:∃A,A=dW (aw e) s.1 (nth l k):=⟨_,rfl⟩
  obtain⟨O,eO⟩:∃O,O=ko (aw e) A.1 A.2 W:=⟨_,rfl⟩
  have hsv:yY (aw e) s.1 s.2 (nth l k) W=du (aw e) O.1 s.2 O.2:=by rw[eO,eA];rfl
  have c1:=As e s.1 μ1 (nth l k) h1 ((lj k aA).pre hr.pre)
  have r1:=oL nw h1.g ((lj k aA).pre hr.pre)
  rw[←eA]at c1 r1
  have l1:=r1.len
  refine bB (bS _ _ ?_)
  refine aH fun K4 dD=>?_
  refine aW ?_
  refine bC hp ax hc rfl fun K5 fA=>?_
  simp -dsimp -implicitDefEqProofs (disch:=first|assumption|omega|(simp only[aK,aT,bx]<;>omega)|decide) only[aP,↓reduceIte,Nat.reduceEqDiff,Nat.reduceAdd,D.fix,Int.reduceToNat,Nat.reduceMul,Nat.reduceBNe,Nat.reduceBEq,bR,bH,bO,aD,bE,bP,List.cons_append,List.nil_append,dm,bw]
  refine fA _ _ ?_
  refine y6 ax hp hc mixed rfl [(0,[]),(1,[]),(2,[]),(3,[]),(4,[]),(6,[]),(7,[]),(8,[]),(9,[]),(10,[]),(11,[]),(12,[]),(13,[]),(5,[0,1,2,6,9,13]),(14,[0,1]),(15,[]),(16,[])] [[],[],[],[],[],[3,4],[],[6],[6,7],[6,7,8],[],[],[10,11],[6,7,8,9,10,11,12],[2,3,4,5,6,7,8,9,10,11,12,13],[0,1,2,3,4,5,6,7,8,9,10,11,12,13,14],[0,1,2,3,4,5,6,7,8,9,10,11,12,13,14,15]] 0 (by kernel_rfl) fun K6 cF=>?_
  refine ER js ?_
  refine Kt (bH e s.1 μ1) ([bP,.cells [.d (iD s.2)]]) (c1) ?_
  rintro _ _ ⟨μ2,db,rfl,rfl⟩
  refine⟨rfl,?_⟩
  have h2:=h1.next r1 db (by omega)
  have c2:=G3 e A.1 μ2 A.2 W h2 r1.nd (hwn.pre r1.pre)
  have r2:=Am nw h2.g r1.nd (hwn.pre r1.pre)
  rw[←eO]at c2 r2
  have l2:=r2.len
  refine ER js ?_
  refine Kt (bH e A.1 μ2) ([bP,.cells [.d (iD s.2)]]) (c2) ?_
  rintro _ _ ⟨μ3,nK,rfl,rfl⟩
  refine⟨rfl,?_⟩
  have h3:=h2.next r2 nK (by omega)
  refine ER js ?_
  refine Kt (bH e O.1 μ3) ([bP,.cells [.d (iD s.2)]]) (xd e O.1 μ3 s.2 O.2 h3 (hr.nd.pre (r1.pre.trans r2.pre)) r2.nd) ?_
  rintro _ _ ⟨μ4,qo,rfl,rfl⟩
  refine⟨rfl,?_⟩
  refine ER js ?_
  refine cF _ _ (dD _ _ ?_)
  refine bA hp ax hc rfl fun K7 de=>?_
  refine OI ?_
  refine de _ _ ⟨_,_,_,?_,⟨k+1,μ4,⟨by omega,by rw[dY,hsv];exact qo⟩,rfl,rfl,rfl⟩,?_⟩
  ·first|omega|(simp only[List.length_cons];omega)|(dsimp only;omega)
  ·refine Gg [0,1,2,3,4,5,6,7,8,9] ?_
   refine Eo ?_
   refine Wj ?_;rw[dY,hsv];rfl
 ·have cf:k=l.length:=by simp at ht;omega
  refine cL ?_
  try dsimp only[fb,fc]
  refine⟨aG [],bH e s.1 μ1++[bP,.cells [.d (iD s.2)]],?_,?_⟩
  ·refine Gg [0,1,2,3,4,5,6,7,8,9] ?_
   refine Rt.end (bT _) ?_
   exact Wl
  refine JA rfl ?_
  show ∃_,_
  rw[jS cf];exact⟨μ1,cZ,rfl,rfl⟩
section
def eP(p:Pr)(mi:Mp)(out:List aB)(dr:List Int)(dZ:List (List Int)):BE:=⟨p,dN p,mi,out,dr,dZ⟩
structure vG (p:Pr) (mi:Mp):Prop where
 k:bJ p
 m:o7 (dN p) mi
 il:(dN p).length≤1000
 co:qB p≤80000
section
variable {p:Pr} {mi:Mp} {out:List aB} {dr:List Int} {dZ:List (List Int)}
theorem vG.be(h:vG p mi):vI (eP p mi out dr dZ):=⟨rfl,h.m,h.il,h.k,h.k.rl⟩
end
@[simp] theorem yov {e:BE} {gs:Gs} {μ:Mp}:(bH e gs μ).length=8:=rfl
def ec(x:Int):bq:=.cells [.d (iD x)]
def jb(l:List Int):bq:=.cells (au (l.map iD))
def FiK(p:Pr)(mi:Mp)(out:List aB)(dr:List Int)(x:AV)(S':ak):Prop:=∃μ,ic (mP p) (p5 p p.ao.length).1 μ∧x= .dc [.d (av (lD p)),.d (av (kB p)),.d (iD (fI p))]∧S'=bH (eP p mi out dr (ch p)) (p5 p p.ao.length).1 μ++[ec (fI p)]
theorem BZ{p:Pr}(h:bJ p):(lD p).length=p.ae.length:=(vX h _ (bm _)).tl
theorem BU{p:Pr}(h:bJ p):(kB p).length=p.ao.length:=(tW h _ (bm _)).ql
theorem jmz{p:Pr}:∀k,p6 p k=pR (mP p) (dN p) 3 (lD p) ((j5 p p.ao.length).gs,1) k
 |0=>rfl
 |k+1=>by rw[p6,pR,←jmz k];rfl
theorem jm0{p:Pr}:∀k,p5 p k=pR (mP p) (dN p) 4 (kB p) (p6 p p.ae.length) k
 |0=>rfl
 |k+1=>by rw[p5,pR,←jm0 k];rfl
theorem pX{p q:Prop}(hq:q)(h:p=q:=by
 conv=>lhs;simp -dsimp -implicitDefEqProofs (disch:=first|assumption|omega|(simp only[aK,aT,bx,dT,dS]<;>omega)|decide) only[aP,↓reduceIte,Nat.reduceEqDiff,Nat.reduceAdd,D.fix,Int.reduceToNat,Nat.reduceMul,Nat.reduceBNe,Nat.reduceBEq,bR,bH,bO,aD,bE,bP,List.cons_append,List.nil_append,eP,ec,jb,pk,mb,fZ,lF,kg,eR,nS,bw]):p:=h.mpr hq
theorem Cr(k:List Nat){m:List Nat}{τ τ1:Fr}{H H1:ak}(h:Rt m (fun t=>c7 k (τ t)) (dg k H) τ1 H1)(a:∀i∈m,k[i]? =some i:=by decide)(b:k.Nodup:=by decide)(c:∀i∈k,i<H.length:=by
 simp[eS,dg]):Rt m τ H τ1 H1:=Rt.trans (Rt.gc a b c) h
theorem Cq{m:List Nat}{τ τ':Fr}{H H':ak}(h2:H=H')(h:fm τ τ':=by
 repeat (first|exact bT _|refine bM ?_ (by first|rfl|(simp[aR,aT,bx,dT,dS];done)|simp[aR,aT,bx,dT,dS, *]))):Rt m τ H τ' H':=Rt.end h h2
theorem Wi{P:Program}{sm:List Nat}{N:Nat}{τ:Fr}{H:ak}{f:FuncId}{args:List AV}{K0 KK:AV→ak→Prop}{ks:List Nat}(S T:ak)(h:cM P ks f args S K0)(hK:∀x S',K0 x S'→S'.length=S.length∧KK x (S'++T))(hH:H=S++T:=by
 rfl) (hm:sm.all (aJ ks S.length)=true:=by
 first|rfl|(simp[AV.ah,AV.allI,bc,bg,bf,aJ,aN,aY,aZ,bH,bO,bP,eP,ec,jb,fZ,eR];done)|(intro o ho;simp at ho;done)) (hτ:∀t,(τ t).allI (aJ ks S.length)=true:=by
 exact fun t=>fU (by first|rfl|(simp[AV.ah,AV.allI,bc,bg,bf,aJ,aN,aY,aZ,bH,bO,bP,eP,ec,jb,fZ,eR];done)|(intro o ho;simp at ho;done)) t) (ha:AV.ah (aN S.length) args=true:=by
 first|rfl|(simp[AV.ah,AV.allI,bc,bg,bf,aJ,aN,aY,aZ,bH,bO,bP,eP,ec,jb,fZ,eR];done)|(intro o ho;simp at ho;done)) (hS:∀o∈S,o.allI (aN S.length)=true:=by
 first|rfl|(simp[AV.ah,AV.allI,bc,bg,bf,aJ,aN,aY,aZ,bH,bO,bP,eP,ec,jb,fZ,eR];done)|(intro o ho;simp at ho;done)) (hT:∀o∈T,o.allI (aJ ks S.length)=true:=by
 first|rfl|(simp[AV.ah,AV.allI,bc,bg,bf,aJ,aN,aY,aZ,bH,bO,bP,eP,ec,jb,fZ,eR];done)|(intro o ho;simp at ho;done)):kC P sm N H τ (.d (.val (.func (.func f) #[] #[]))) args true (tg KK):=r7 h hH hm hτ ha hS hT hK
theorem X6{p q r:Prop}(e:r)(hq:q)(h:r→p=q:=by
 intro hY
 conv=>lhs;simp -dsimp -implicitDefEqProofs (disch:=first|assumption|omega|(simp only[aK,aT,bx,dT,dS]<;>omega)|decide) only[aP,↓reduceIte,Nat.reduceEqDiff,Nat.reduceAdd,D.fix,Int.reduceToNat,Nat.reduceMul,Nat.reduceBNe,Nat.reduceBEq,mz,bR,bH,bO,aD,bE,bP,List.cons_append,List.nil_append,eP,ec,jb,pk,mb,fZ,lF,kg,eR,nS,bw,hY]):p:=(h e).mpr hq
theorem X5{p q:Prop}(hq:q)(h:p=q:=by
 conv=>lhs;simp -dsimp -implicitDefEqProofs (disch:=first|assumption|omega|(simp only[aK,aT,bx,dT,dS]<;>omega)|decide) only[aP,↓reduceIte,Nat.reduceEqDiff,Nat.reduceAdd,D.fix,Int.reduceToNat,Nat.reduceMul,Nat.reduceBNe,Nat.reduceBEq,bR,bH,bO,aD,bE,bP,List.cons_append,List.nil_append,eP,ec,jb,pk,mb,fZ,lF,kg,eR,nS,dm,bw]):p:=h.mpr hq
theorem Wh{P:Program}{sm:List Nat}{N:Nat}{τ:Fr}{H:ak}{f:FuncId}{fi ca args:List AV}{K0 KK:AV→ak→Prop}{ks:List Nat}(S T:ak)(h:cM P ks f (fi++args++ca) S K0)(hK:∀x S',K0 x S'→S'.length=S.length∧KK x (S'++T))(hH:H=S++T:=by
 rfl) (hm:sm.all (aJ ks S.length)=true:=by
 first|rfl|(simp[AV.ah,AV.allI,bc,bg,bf,aJ,aN,aY,aZ,bH,bO,bP,eP,ec,jb,fZ,eR];done)|(intro o ho;simp at ho;done)) (hτ:∀t,(τ t).allI (aJ ks S.length)=true:=by
 exact fun t=>fU (by first|rfl|(simp[AV.ah,AV.allI,bc,bg,bf,aJ,aN,aY,aZ,bH,bO,bP,eP,ec,jb,fZ,eR];done)|(intro o ho;simp at ho;done)) t) (ha:AV.ah (aN S.length) (fi++args++ca)=true:=by
 first|rfl|(simp[AV.ah,AV.allI,bc,bg,bf,aJ,aN,aY,aZ,bH,bO,bP,eP,ec,jb,fZ,eR];done)|(intro o ho;simp at ho;done)) (hS:∀o∈S,o.allI (aN S.length)=true:=by
 first|rfl|(simp[AV.ah,AV.allI,bc,bg,bf,aJ,aN,aY,aZ,bH,bO,bP,eP,ec,jb,fZ,eR];done)|(intro o ho;simp at ho;done)) (hT:∀o∈T,o.allI (aJ ks S.length)=true:=by
 first|rfl|(simp[AV.ah,AV.allI,bc,bg,bf,aJ,aN,aY,aZ,bH,bO,bP,eP,ec,jb,fZ,eR];done)|(intro o ho;simp at ho;done)):kC P sm N H τ (.dk (.func f) fi ca) args true (tg KK):=Aw h hH hm hτ ha hS hT hK
theorem Gf{p q:Prop}(hq:q)(h:p=q:=by
 conv=>lhs;simp only[cD,Nat.reduceAdd,↓reduceIte,Nat.reduceEqDiff,bR,bH,bO,aD,bE,bP,List.cons_append,List.nil_append,eP,ec,jb,pk,mb,fZ,lF,kg,eR,nS]):p:=h.mpr hq
theorem Wg{p:Prop}(h:p:=by
 first|rfl|(simp only[cD,Nat.reduceAdd,↓reduceIte,Nat.reduceEqDiff,bR,bH,bO,aD,bE,bP,List.cons_append,List.nil_append,eP,ec,jb,pk,mb,fZ,lF,kg,eR,nS];first|done|rfl)):p:=h
theorem jx5(p:Pr)(mi:Mp)(out:List aB)(dr:List Int)(hv:vG p mi)(μ:Mp)(CS:ic (mP p) [] μ):cM prog [0,1,3,4,5,6] 91 [.op 0 0] (bH (eP p mi out dr []) [] μ++[.free]) (FiK p mi out dr):=by
 refine fV (fn:=f91) (by kernel_rfl) func91 rfl (bN rfl) fun c hc hp=>?_
 refine Mn ?_
 have gb:=hv.il;have E8:=hv.co;have vt:=hv.k.tl;have wI:=hv.k.ql
 refine aj (pX ·) ?_
 refine aj (pX ·) ?_
 refine aH fun K3 bS=>?_
 refine aj (pX ·) ?_
 refine aW ?_
 refine c9 hp (fun τ' H' mm=>∃(k:Nat) (μ1:Mp),(k≤p.ae.length∧ic (mP p) (gk p k).gs μ1)∧mm=p.ae.length - k∧H'=bH (eP p mi out dr (gk p k).data) (gk p k).gs μ1++[bP,ec 1,jb (gk p k).ae]∧τ'=aG [(1,.op 8 0),(2,.os 1 10 0 k),(3,.d (.val (.slice none 0 0))),(4,.op 9 0),(15,.d (.fs (p.ae.flatMap oW) p.ae.length)),(16,.d (iD p.ae.length)),(17,.d (iD k))]) (p.ae.length) ?_ ⟨0,μ,⟨cy _,CS⟩,rfl,rfl,rfl⟩ ?_
 ·refine Rt.trans (Rt.nil 2 1 rfl) ?_
  refine Cr [0,1,2,3,4,5,6,7,9,10,11] ?_
  refine Cq ?_
  refine Gf ?_;simp[bH,bO,eP,gk,bP,ec,jb,au,aD,iD]
 rintro τ' H' mm ⟨k,μ1,⟨hk,cZ⟩,rfl,rfl,rfl⟩
 refine aj (pX ·) ?_
 refine aH fun K6 cF=>?_
 refine aX rfl (fun ht=>?_) (fun ht=>?_)
 ·have aA:k<p.ae.length:=by simp at ht;omega
  have hs:=vX hv.k k hk
  have cu:=PG hv.k aA hs
  have dY:gk p (k+1)=⟨(dh (fun gs i=>du (mP p) gs (nth (fa p (gk p k).data (gk p k).gs (nth p.ae k).wh).2 0) (bL p 2 k i)) (fa p (gk p k).data (gk p k).gs (nth p.ae k).wh).1 (nth p.ae k).w).1,(gk p k).ae++[nth (fa p (gk p k).data (gk p k).gs (nth p.ae k).wh).2 0],(gk p k).data++[(dh (fun gs i=>du (mP p) gs (nth (fa p (gk p k).data (gk p k).gs (nth p.ae k).wh).2 0) (bL p 2 k i)) (fa p (gk p k).data (gk p k).gs (nth p.ae k).wh).1 (nth p.ae k).w).2]⟩:=rfl
  have gj:=yb1 (p:=p) (show k+1≤p.ae.length by omega)
  rw[x9]at gj
  generalize gk p k=s at *
  have htl2:=hs.tl;have mG:=hs.dl
  have pz:=hs.len
  have h1:dx (eP p mi out dr s.data) s.gs μ1:=⟨cZ,hs.gi,gb,by omega⟩
  have eU:=MR (eP p mi out dr s.data) hv.be false (nth p.ae k).wh s.gs μ1 h1 (kM.mk (by intro e;cases e) (by intro e;cases e) (by intro e;cases e)) (hv.k.tw k aA).1 (by show s.gs.length+bQ (aI p) _≤_;omega)
  rw[Qg hv.be]at eU
  obtain⟨R,hR⟩:∃R,R=fa p s.data s.gs (nth p.ae k).wh:=⟨_,rfl⟩
  have RB:fa (eP p mi out dr s.data).p (eP p mi out dr s.data).dZ s.gs (nth p.ae k).wh=R:=hR.symm
  rw[RB]at eU
  rw[←hR]at cu dY
  have RA:=cu.b.len;have Rz:=cu.b.wid
  have hu:br (mP p) R.1 (nth R.2 0):=cu.b.nd 0 (by decide)
  have CQ:=hv.k.ct.t k (by simpa[aI]using aA)
  rw[zA aA]at CQ
  have jr:(0<(nth p.ae k).w)=True:=by simp;omega
  have px:∀i,i<(nth p.ae k).w→(⟨2,(k:Int),(i:Int)⟩:aB)∈dN p:=fun i hi=>Hr aA hi
  refine bB (cF _ _ ?_)
  refine aH fun K7 de=>?_
  refine aW ?_
  refine aj (pX ·) ?_
  refine bC hp ax hc rfl fun K9 cJ=>?_
  refine pX ?_
  refine Wi (bH (eP p mi out dr s.data) s.gs μ1) ([bP,ec 1,jb s.ae,ec k,.cells (au (fZ (nth p.ae k)))]) (eU) ?_
  rintro _ _ ⟨μ2,db,rfl,rfl⟩
  refine⟨rfl,?_⟩
  have h2:dx (eP p mi out dr s.data) R.1 μ2:=⟨db,cu.b.gi,gb,by omega⟩
  refine pX ?_
  refine cJ _ _ ?_
  refine aj (pX ·) ?_
  refine bI hp (τ':=aG [(1,.op 8 0),(2,.os 1 12 0 (k+1)),(3,.d (.val (.slice none 0 0))),(4,.op 11 0),(5,.op 10 0),(6,.op 13 0),(7,.op 9 0),(15,.d (.fs (p.ae.flatMap oW) p.ae.length)),(16,.d (iD p.ae.length)),(17,.d (iD k))]) (H':=bH (eP p mi out dr s.data) R.1 μ2++[bP,ec (nth R.2 0),ec k,ec 1,jb (s.ae++[nth R.2 0]),.cells (au (fZ (nth p.ae k)))]) ?_ ?_
  ·refine Cr [0,1,2,3,4,5,6,7,8,13,11,9,15,12] ?_
   refine Cq ?_
   refine Gf ?_;simp[bH,bO,eP,bP,ec,jb,au,aD,iD,fZ]
  refine y6 ax hp hc mixed rfl [(0,[]),(1,[]),(2,[]),(3,[]),(4,[]),(5,[]),(6,[]),(7,[]),(8,[]),(9,[0,1,4]),(10,[]),(11,[0]),(12,[]),(13,[]),(14,[])] [[],[],[1],[1,2],[1,2,3],[],[5],[5,6],[],[5,6,7,8],[5,6,7,8,9],[1,2,3,4,5,6,7,8,9,10],[0,1,2,3,4,5,6,7,8,9,10,11],[0,1,2,3,4,5,6,7,8,9,10,11,12],[0,1,2,3,4,5,6,7,8,9,10,11,12,13]] 2 (by kernel_rfl) fun lz cm=>?_
  refine X6 jr ?_
  refine uL (S:=bH (eP p mi out dr s.data) R.1 μ2++[bP,ec (nth R.2 0),ec k]) (T:=[ec 1,jb (s.ae++[nth R.2 0]),.cells (au (fZ (nth p.ae k))),.dead,.free]) (jqj (eP p mi out dr s.data) R.1 μ2 (nth R.2 0) k (nth p.ae k).w h2 hv.m px hu (by omega) (by omega) (by omega)) rfl (bN rfl) (by first|rfl|(simp[AV.ah,AV.allI,bc,bg,bf,aJ,aN,aY,aZ,bH,bO,bP,eP,ec,jb,fZ,eR];done)|(intro o ho;simp at ho;done)) (fun t=>fU (by first|rfl|(simp[AV.ah,AV.allI,bc,bg,bf,aJ,aN,aY,aZ,bH,bO,bP,eP,ec,jb,fZ,eR];done)|(intro o ho;simp at ho;done)) t) (fun t=>fU (by first|rfl|(simp[AV.ah,AV.allI,bc,bg,bf,aJ,aN,aY,aZ,bH,bO,bP,eP,ec,jb,fZ,eR];done)|(intro o ho;simp at ho;done)) t) (by first|rfl|(simp[AV.ah,AV.allI,bc,bg,bf,aJ,aN,aY,aZ,bH,bO,bP,eP,ec,jb,fZ,eR];done)|(intro o ho;simp at ho;done)) (by first|rfl|(simp[AV.ah,AV.allI,bc,bg,bf,aJ,aN,aY,aZ,bH,bO,bP,eP,ec,jb,fZ,eR];done)|(intro o ho;simp at ho;done)) (by first|rfl|(simp[AV.ah,AV.allI,bc,bg,bf,aJ,aN,aY,aZ,bH,bO,bP,eP,ec,jb,fZ,eR];done)|(intro o ho;simp at ho;done)) ?_
  rintro _ _ ⟨μ3,nK,rfl,rfl⟩
  refine⟨rfl,?_⟩
  refine X6 jr ?_
  refine cm _ _ (de _ _ ?_)
  refine bA hp ax hc rfl fun nk cU=>?_
  refine pX ?_
  refine cU _ _ ⟨_,_,_,?_,⟨k+1,μ3,⟨by omega,by rw[dY];exact nK⟩,rfl,rfl,rfl⟩,?_⟩
  ·first|omega|(simp only[List.length_cons];omega)|(dsimp only;omega)
  ·refine Cr [0,1,2,3,4,5,6,16,8,11,12] ?_
   refine Cq ?_
   refine Gf ?_;rw[dY];simp[bH,bO,eP,bP,ec,jb,au,aD,iD,av,uj,aw,mP,sO,bL]
 ·have cf:k=p.ae.length:=by simp at ht;omega
  subst cf
  have hT:=vX hv.k _ (bm _)
  have vu:=BZ hv.k
  have xN:=BU hv.k
  refine cL (bS _ _ ?_)
  refine aH fun rN dQ=>?_
  refine aj (pX ·) ?_
  refine aW ?_
  refine c9 hp (fun τ' H' mm=>∃(k:Nat) (μ1:Mp),(k≤p.ao.length∧ic (mP p) (j5 p k).gs μ1)∧mm=p.ao.length - k∧H'=bH (eP p mi out dr (ch p)) (j5 p k).gs μ1++[bP,ec 1,jb (lD p),jb (j5 p k).ao]∧τ'=aG [(1,.op 8 0),(2,.os 1 10 0 p.ae.length),(3,.os 1 11 0 k),(4,.op 9 0),(51,.d (.fs (p.ao.flatMap sb) p.ao.length)),(52,.d (iD p.ao.length)),(53,.d (iD k))]) (p.ao.length) ?_ ⟨0,μ1,⟨cy _,cZ⟩,rfl,rfl,rfl⟩ ?_
  ·refine Rt.trans (Rt.nil 3 1 rfl) ?_
   refine Cr [0,1,2,3,4,5,6,7,8,9,10,11] ?_
   refine Cq ?_
   refine Gf ?_;simp[bH,bO,eP,j5,bP,ec,jb,au,aD,iD,lD,ch]
  rintro τ' H' mm ⟨k,μ1,⟨mZ,qo⟩,rfl,rfl,rfl⟩
  refine aj (pX ·) ?_
  refine aH fun pM df=>?_
  refine aX rfl (fun ht=>?_) (fun ht=>?_)
  ·have aA:k<p.ao.length:=by simp at ht;omega
   have hs:=tW hv.k k mZ
   have cu:=O9 hv.k aA hs
   have dY:j5 p (k+1)=⟨(fa p (ch p) (j5 p k).gs (nth p.ao k).wh).1,(j5 p k).ao++[nth (fa p (ch p) (j5 p k).gs (nth p.ao k).wh).2 0]⟩:=rfl
   have gj:=PD (p:=p) (show k+1≤p.ao.length by omega)
   rw[wP]at gj
   generalize j5 p k=s at *
   have hql2:=hs.ql
   have pz:=hs.len
   have h1:dx (eP p mi out dr (ch p)) s.gs μ1:=⟨qo,hs.gi,gb,by omega⟩
   have eU:=MR (eP p mi out dr (ch p)) hv.be true (nth p.ao k).wh s.gs μ1 h1 (Lm hv.k hs.pre) (hv.k.qw k aA).1 (by show s.gs.length+bQ (aI p) _≤_;omega)
   rw[Qg hv.be]at eU
   obtain⟨R,hR⟩:∃R,R=fa p (ch p) s.gs (nth p.ao k).wh:=⟨_,rfl⟩
   have RB:fa (eP p mi out dr (ch p)).p (eP p mi out dr (ch p)).dZ s.gs (nth p.ao k).wh=R:=hR.symm
   rw[RB]at eU
   rw[←hR]at cu dY
   have RA:=cu.len;have Rz:=cu.wid
   refine bB (df _ _ ?_)
   refine aH fun tF eh=>?_
   refine aW ?_
   refine aj (pX ·) ?_
   refine bA hp ax hc rfl fun wT fC=>?_
   refine X5 ?_
   refine Wi (bH (eP p mi out dr (ch p)) s.gs μ1) ([bP,ec 1,jb (lD p),jb s.ao,.cells (au (eR (nth p.ao k)))]) (eU) ?_
   rintro _ _ ⟨μ2,db,rfl,rfl⟩
   refine⟨rfl,?_⟩
   refine X5 ?_
   refine fC _ _ (eh _ _ ?_)
   refine bA hp ax hc rfl fun uK eG=>?_
   refine pX ?_
   refine eG _ _ ⟨_,_,_,?_,⟨k+1,μ2,⟨by omega,by rw[dY];exact db⟩,rfl,rfl,rfl⟩,?_⟩
   ·first|omega|(simp only[List.length_cons];omega)|(dsimp only;omega)
   ·refine Cr [0,1,2,3,4,5,6,7,8,9,10,14] ?_
    refine Cq ?_
    refine Gf ?_;rw[dY];simp[bH,bO,eP,bP,ec,jb,au,aD,iD,av]
  ·have cf:k=p.ao.length:=by simp at ht;omega
   subst cf
   have hQ:=tW hv.k _ (bm _)
   have Mc:=Jv hv.k _ (bm p.ae.length)
   have hFQ:=yw hv.k _ (bm p.ao.length)
   have hcq:=PD (p:=p) (bm p.ao.length)
   have L7:=LJ (p:=p) (cy p.ag.length)
   rw[pG]at L7
   have wI:=hQ.len;have hftl:=Mc.len;have hfql:=hFQ.len
   have h1:dx (eP p mi out dr (ch p)) (j5 p p.ao.length).gs μ1:=⟨qo,hQ.gi,gb,by omega⟩
   have c1:=jmy (eP p mi out dr (ch p)) (j5 p p.ao.length).gs μ1 3 1 (lD p) h1 hv.m (by decide) (by decide) ⟨by decide,by have:=@nH p;show(1:Int)<((mP p:Nat):Int)+_;omega⟩ (fun k hk=>(hT.tn k (by omega)).pre hQ.pre) (fun k hk=>LU (by omega)) (by omega) (by omega)
   have e1:pR (aw (eP p mi out dr (ch p))) (eP p mi out dr (ch p)).ins 3 (lD p) ((j5 p p.ao.length).gs,1) (lD p).length=p6 p p.ae.length:=by rw[vu];exact(jmz _).symm
   rw[e1]at c1
   rw[show av (lD p)= .fs ((lD p).map iD) p.ae.length by unfold av;rw[vu]]at c1
   have c2:=fun μ2 (h2:dx (eP p mi out dr (ch p)) (p6 p p.ae.length).1 μ2)=>jmy (eP p mi out dr (ch p)) (p6 p p.ae.length).1 μ2 4 (p6 p p.ae.length).2 (kB p) h2 hv.m (by decide) (by decide) Mc.nd (fun k hk=>(hQ.qn k (by omega)).pre Mc.pre) (fun k hk=>LS (by omega)) (by omega) (by omega)
   have e2:pR (aw (eP p mi out dr (ch p))) (eP p mi out dr (ch p)).ins 4 (kB p) ((p6 p p.ae.length).1,(p6 p p.ae.length).2) (kB p).length=p5 p p.ao.length:=by rw[xN];exact(jm0 _).symm
   rw[e2]at c2
   rw[show av (kB p)= .fs ((kB p).map iD) p.ao.length by unfold av;rw[xN]]at c2
   have CX:(j5 p p.ao.length).ao=kB p:=rfl
   rw[CX]
   refine cL (dQ _ _ ?_)
   refine bC hp ax hc rfl fun yU ib=>?_
   simp -dsimp -implicitDefEqProofs (disch:=first|assumption|omega|(simp only[aK,aT,bx,dT,dS]<;>omega)|decide) only[aP,↓reduceIte,Nat.reduceEqDiff,Nat.reduceAdd,D.fix,Int.reduceToNat,Nat.reduceMul,Nat.reduceBNe,Nat.reduceBEq,bR,bH,bO,aD,bE,bP,List.cons_append,List.nil_append,eP,ec,jb,pk,mb,fZ,lF,kg,eR,nS]
   refine ib _ _ ?_
   refine bI hp (τ':=aG [(2,.d (.fs ((lD p).map iD) p.ae.length)),(3,.d (.fs ((kB p).map iD) p.ao.length)),(4,.op 9 0),(10,.dk (.func 140) [] [.op 8 0,.op 9 0])]) (H':=bH (eP p mi out dr (ch p)) (j5 p p.ao.length).gs μ1++[bP,ec 1]) ?_ ?_
   ·refine Rt.trans (Rt.fz (id:=10) (l:=((lD p).map iD)) rfl) ?_
    refine Rt.trans (Rt.slot 2 (qL (iN (by simp[vu])))) ?_
    refine Rt.trans (Rt.heap (H':=bH (eP p mi out dr (ch p)) (j5 p p.ao.length).gs μ1++[bP,ec 1,.dead,jb (kB p)]) (by simp only[cD,Nat.reduceAdd,↓reduceIte,Nat.reduceEqDiff,bR,bH,bO,aD,bE,bP,List.cons_append,List.nil_append,eP,ec,jb,pk,mb,fZ,lF,kg,eR,nS];first|done|rfl)) ?_
    refine Rt.trans (Rt.fz (id:=11) (l:=((kB p).map iD)) rfl) ?_
    refine Rt.trans (Rt.slot 3 (qL (iN (by simp[xN])))) ?_
    refine Cr [0,1,2,3,4,5,6,7,8,9] ?_
    refine Cq ?_
    exact Wg
   refine bC hp ax hc rfl fun wS fB=>?_
   refine pX ?_
   refine Wh (bH (eP p mi out dr (ch p)) (j5 p p.ao.length).gs μ1++[bP,ec 1]) ([]) (c1) ?_
   rintro _ _ ⟨μ2,db,rfl,rfl⟩
   refine⟨rfl,?_⟩
   have h2:dx (eP p mi out dr (ch p)) (p6 p p.ae.length).1 μ2:=⟨db,Mc.gi,gb,by omega⟩
   refine pX ?_
   refine fB _ _ ?_
   refine bC hp ax hc rfl fun yd gw=>?_
   refine pX ?_
   refine Wh (bH (eP p mi out dr (ch p)) (p6 p p.ae.length).1 μ2++[bP,ec (p6 p p.ae.length).2]) ([]) (c2 μ2 h2) ?_
   rintro _ _ ⟨μ3,nK,rfl,rfl⟩
   refine⟨rfl,?_⟩
   refine pX ?_
   refine gw _ _ ?_
   refine eN ax hc mixed rfl (q:=0) (by kernel_rfl) (by kernel_rfl) fun BL iF=>?_
   refine pX ?_
   refine iF _ _ ?_
   refine bI hp (τ':=aG [(2,.d (.fs ((lD p).map iD) p.ae.length)),(3,.d (.fs ((kB p).map iD) p.ao.length)),(4,.op 8 0)]) (H':=bH (eP p mi out dr (ch p)) (p5 p p.ao.length).1 μ3++[ec (p5 p p.ao.length).2]) ?_ ?_
   ·refine Cr [0,1,2,3,4,5,6,7,9] ?_
    refine Cq ?_
    exact Wg
   refine bh ?_
   try dsimp only[fb,fc]
   refine F3 rfl ?_
   refine vP ?_
   refine vP ?_
   refine PA ?_
   simp -dsimp -implicitDefEqProofs (disch:=first|assumption|omega|(simp only[aK,aT,bx,dT,dS]<;>omega)|decide) only[aP,↓reduceIte,Nat.reduceEqDiff,Nat.reduceAdd,D.fix,Int.reduceToNat,Nat.reduceMul,Nat.reduceBNe,Nat.reduceBEq,bR,bH,bO,aD,bE,bP,List.cons_append,List.nil_append,eP,ec,jb,pk,mb,fZ,lF,kg,eR,nS,Nz,Ny]
   show ∃_,_
   refine⟨μ3,nK,?_,rfl⟩
   unfold av;rw[vu,xN];rfl
end
end Go.Proofs.YtapjobndmmkanaaGreat
