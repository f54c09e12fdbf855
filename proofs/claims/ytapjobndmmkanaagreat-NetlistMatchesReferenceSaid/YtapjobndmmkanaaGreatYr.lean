/- netlist's builder: the firing bit. -/
import Derived.Test.YtapjobndmmkanaaGreatQr
import Derived.Test.YtapjobndmmkanaaGreatYn
import Derived.Test.YtapjobndmmkanaaGreatYp
set_option linter.unusedVariables false
set_option linter.unusedSimpArgs false
set_option maxRecDepth 100000
set_option maxHeartbeats 4000000
namespace Go.Proofs.YtapjobndmmkanaaGreat
open Go.Proofs.Tryz
open Go Go.RowKit
def ss(ins:List aT)(kind:Int)(j k:Nat):Int:=((2+kL ⟨kind,(j:Int),(k:Int)⟩ ins:Nat):Int)
theorem KI{e:BE}{kind:Int}{j k:Nat}(h:(⟨kind,(j:Int),(k:Int)⟩:aT)∈e.ins)(gs:Gs):bm (aB e) gs (ss e.ins kind j k):=by
 have:=(yE h).1
 unfold ss
 exact⟨by omega,by unfold aB;omega⟩
theorem DZ{p q r:Prop}(e:r)(hq:q)(h:r→p=q:=by
 intro hY
 conv=>lhs;simp -dsimp -implicitDefEqProofs (disch:=first|assumption|omega|(simp only[aH,aQ,bc]<;>omega)|decide) only[aN,↓reduceIte,Nat.reduceEqDiff,Nat.reduceAdd,D.fix,Int.reduceToNat,Nat.reduceMul,Nat.reduceBNe,Nat.reduceBEq,mC,ch,bH,bO,aK,aY,bP,List.cons_append,List.nil_append,E6,vK,Om Jn mb hm.ok,Option.getD_some,bw,hY]):p:=(h e).mpr hq
theorem Jc{P:Program}{sm:List Nat}{N:Nat}{τ0 τ:Fr}{H:av}{f:FuncId}{args:List AV}{K0 KK:AV→av→Prop}{ks:List Nat}(S T:av)(h:cY P ks f args S K0)(hK:∀x S',K0 x S'→S'.length=S.length∧KK x (S'++T))(hH:H=S++T:=by
 rfl) (hN:S.length≤N:=by
 exact cn rfl) (hm:sm.all (aL ks S.length)=true:=by
 first|rfl|(simp[AV.aj,AV.allI,bo,bq,bp,aL,aO,bn,br,bH,bO,bP];done)|(intro o ho;simp at ho;done)) (hτ:∀t,(τ t).allI (aL ks S.length)=true:=by
 exact fun t=>fL (by first|rfl|(simp[AV.aj,AV.allI,bo,bq,bp,aL,aO,bn,br,bH,bO,bP];done)|(intro o ho;simp at ho;done)) t) (h0:∀t,(τ0 t).allI (aL ks S.length)=true:=by
 exact fun t=>fL (by first|rfl|(simp[AV.aj,AV.allI,bo,bq,bp,aL,aO,bn,br,bH,bO,bP];done)|(intro o ho;simp at ho;done)) t) (ha:AV.aj (aO S.length) args=true:=by
 first|rfl|(simp[AV.aj,AV.allI,bo,bq,bp,aL,aO,bn,br,bH,bO,bP];done)|(intro o ho;simp at ho;done)) (hS:∀o∈S,o.allI (aO S.length)=true:=by
 first|rfl|(simp[AV.aj,AV.allI,bo,bq,bp,aL,aO,bn,br,bH,bO,bP];done)|(intro o ho;simp at ho;done)) (hT:∀o∈T,o.allI (aL ks S.length)=true:=by
 first|rfl|(simp[AV.aj,AV.allI,bo,bq,bp,aL,aO,bn,br,bH,bO,bP];done)|(intro o ho;simp at ho;done)):kE P sm N τ0 τ H (.d (.val (.func (.func f) #[] #[]))) args (tg KK):=tm h hH hN hm hτ h0 ha hS hT hK
theorem FD(k:List Nat){m:List Nat}{τ τ1:Fr}{H H1:av}(h:Rt m (fun t=>du k (τ t)) (dg k H) τ1 H1)(a:∀i∈m,k[i]? =some i:=by decide)(b:k.Nodup:=by decide)(c:∀i∈k,i<H.length:=by
 simp[eJ,dg]):Rt m τ H τ1 H1:=Rt.trans (Rt.gc a b c) h
theorem Dx{m:List Nat}{τ τ':Fr}{H H':av}(h2:H=H')(h:fw τ τ':=by
 repeat (first|exact cw _|refine cg ?_ (by first|rfl|(simp[aX,aQ,bc];done)|simp[aX,aQ,bc, *]))):Rt m τ H τ' H':=Rt.end h h2
theorem V9{p:Prop}(h:p:=by
 first|rfl|(simp only[cP,Nat.reduceAdd,↓reduceIte,Nat.reduceEqDiff,ch,bH,bO,aK,aY,bP,List.cons_append,List.nil_append];first|done|rfl)):p:=h
theorem ygt(e:BE)(gs:Gs)(μ:Mp)(u:Int)(j i:Nat)(x:Int)(h:dM e gs μ)(hm:oU e.ins e.mi)(hw:(⟨2,(j:Int),(i:Int)⟩:aT)∈e.ins)(hu:bm (aB e) gs u)(hj:j≤1000)(hi:i≤1000):cY prog [0,1,3,4,5,6,7,8,9,10] 139 [.d (iD i),.d (iD x),.op 8 0,.op 9 0,.op 10 0] (bH e gs μ++[bP,.cells [.d (iD u)],.cells [.d (iD j)]]) (uo e [bP,.cells [.d (iD u)],.cells [.d (iD j)]] (dj (aB e) gs u (ss e.ins 2 j i))):=by
 refine fX (fn:=f139) (by kernel_rfl) func139 rfl (cn rfl) fun c hc hp=>?_
 refine Dg ?_
 unfold bH bP
 have mb:pL prog Ap (wV ⟨2,(j:Int),(i:Int)⟩):=EP (a:=2) (b:=(j:Int)) (c:=(i:Int)) (n9 (by decide) (by decide)) (n9 (by omega) (by omega)) (n9 (by omega) (by omega))
 have jv:=hm.gt ⟨2,(j:Int),(i:Int)⟩
 rw[if_pos hw]at jv
 have fT:=vH e gs μ u (ss e.ins 2 j i) h hu (KI hw gs)
 have pe:ss e.ins 2 j i=((2+kL ⟨2,(j:Int),(i:Int)⟩ e.ins:Nat):Int):=rfl
 rw[←pe]at jv
 generalize ss e.ins 2 j i=W at *
 refine aZ hp ax hc rfl fun K1 nw=>?_
 simp -dsimp -implicitDefEqProofs (disch:=first|assumption|omega|(simp only[aH,aQ,bc]<;>omega)|decide) only[aN,↓reduceIte,Nat.reduceEqDiff,Nat.reduceAdd,D.fix,Int.reduceToNat,Nat.reduceMul,Nat.reduceBNe,Nat.reduceBEq,ch,bH,bO,aK,aY,bP,List.cons_append,List.nil_append]
 refine nw _ _ ?_
 refine jP ax hp hc mixed rfl [(0,[]),(1,[]),(2,[]),(3,[]),(4,[]),(5,[]),(6,[]),(7,[]),(8,[]),(9,[]),(10,[]),(11,[])] [[],[],[],[2],[2,3],[2,3,4],[],[],[6,7],[2,3,4,5,6,7,8],[0,1,2,3,4,5,6,7,8,9],[0,1,2,3,4,5,6,7,8,9,10]] 0 (by kernel_rfl) fun K2 bS=>?_
 refine DZ jv ?_
 refine Jc (bH e gs μ) ([bP,.cells [.d (iD u)],.cells [.d (iD j)]]) (fT) ?_
 rintro _ _ ⟨μ1,de,rfl,rfl⟩
 refine⟨rfl,?_⟩
 refine DZ jv ?_
 refine bS _ _ ?_
 refine bC hp (τ':=aF [(7,.d (iD (dj (aB e) gs u W).2))]) (H':=bH e (dj (aB e) gs u W).1 μ1++[bP,.cells [.d (iD u)],.cells [.d (iD j)]]) ?_ ?_
 ·refine FD [0,1,2,3,4,5,6,7,8,9,10] ?_
  refine Dx ?_
  exact V9
 refine aM ?_
 refine dJ (t:=7) rfl ?_
 show ∃_,_
 exact⟨μ1,de,rfl,rfl⟩
def tC(m:Nat)(ins:List aT)(gs:Gs)(u:Int)(j k:Nat):Gs × List Int:=bL (fun gs i=>dj m gs u (ss ins 2 j i)) gs k
theorem jjv{m:Nat}{ins:List aT}{gs:Gs}{u:Int}{j k:Nat}:tC m ins gs u j (k+1)=((dj m (tC m ins gs u j k).1 u (ss ins 2 j k)).1,(tC m ins gs u j k).2++[(dj m (tC m ins gs u j k).1 u (ss ins 2 j k)).2]):=rfl
theorem juc{e:BE}{gs:Gs}{u:Int}{j n k:Nat}(h:GI (aB e) gs)(hu:bm (aB e) gs u)(hw:∀i,i<n→(⟨2,(j:Int),(i:Int)⟩:aT)∈e.ins)(hk:k≤n):Bs (aB e) (1*k) k gs (tC (aB e) e.ins gs u j k):=kz h fun i hi fH hp hg=>rK nG hg (hu.pre hp) (KI (hw i (by omega)) _)
theorem Xb{p q:Prop}(hq:q)(h:p=q:=by
 conv=>lhs;simp -dsimp -implicitDefEqProofs (disch:=first|assumption|omega|(simp only[aH,aQ,bc]<;>omega)|decide) only[aN,↓reduceIte,Nat.reduceEqDiff,Nat.reduceAdd,D.fix,Int.reduceToNat,Nat.reduceMul,Nat.reduceBNe,Nat.reduceBEq,ch,bH,bO,aK,aY,di,List.cons_append,List.nil_append,bP]):p:=h.mpr hq
theorem DY{p q:Prop}(hq:q)(h:p=q:=by
 conv=>lhs;simp -dsimp -implicitDefEqProofs (disch:=first|assumption|omega|(simp only[aH,aQ,bc]<;>omega)|decide) only[aN,↓reduceIte,Nat.reduceEqDiff,Nat.reduceAdd,D.fix,Int.reduceToNat,Nat.reduceMul,Nat.reduceBNe,Nat.reduceBEq,ch,bH,bO,aK,aY,di,List.cons_append,List.nil_append,bP,bw]):p:=h.mpr hq
theorem V8{p q:Prop}(hq:q)(h:p=q:=by
 conv=>lhs;simp only[cP,Nat.reduceAdd,↓reduceIte,Nat.reduceEqDiff,ch,bH,bO,aK,aY,di,List.cons_append,List.nil_append,bP]):p:=h.mpr hq
theorem jnj(e:BE)(gs:Gs)(μ:Mp)(u:Int)(j n:Nat)(h:dM e gs μ)(hm:oU e.ins e.mi)(pe:∀i,i<n→(⟨2,(j:Int),(i:Int)⟩:aT)∈e.ins)(hu:bm (aB e) gs u)(hj:j≤1000)(G4:n≤60)(hl:gs.length+n≤99990):cY prog [0,1,3,4,5,6,7,8,9,10] 138 [.d (.fs (List.replicate n (iD 0)) n),.dC (.func 139) [] [.op 8 0,.op 9 0,.op 10 0]] (bH e gs μ++[bP,.cells [.d (iD u)],.cells [.d (iD j)]]) (yO e [bP,.cells [.d (iD u)],.cells [.d (iD j)]] (tC (aB e) e.ins gs u j n)):=by
 refine fX (fn:=f138) (by kernel_rfl) func138 rfl (cn rfl) fun c hc hp=>?_
 refine pX ?_
 unfold bH bP
 refine ah (Xb ·) ?_
 refine ah (DY ·) ?_
 refine aD fun K3 cm=>?_
 refine ah (DY ·) ?_
 refine aW ?_
 refine cU hp (fun τ' H' mm=>∃(k:Nat) (μ1:Mp),(k≤n∧ir (aB e) (tC (aB e) e.ins gs u j k).1 μ1)∧mm=n - k∧H'=bH e (tC (aB e) e.ins gs u j k).1 μ1++[bP,.cells [.d (iD u)],.cells [.d (iD j)],di (tC (aB e) e.ins gs u j k).2 n]∧τ'=aF [(1,.dC (.func 139) [] [.op 8 0,.op 9 0,.op 10 0]),(5,.os 1 11 0 n),(11,.d (.fs (List.replicate n (iD 0)) n)),(12,.d (iD n)),(13,.d (iD k))]) (n) ?_ ⟨0,μ,⟨cF _,h.n⟩,rfl,rfl,rfl⟩ ?_
 ·refine Dx ?_
  refine V8 ?_;simp[tC,bL,di,bH,bO,aK,iD,ak,bP]
 rintro τ' H' mm ⟨k,μ1,⟨hk,de⟩,rfl,rfl,rfl⟩
 have hb:=juc h.g hu pe hk
 have ej:=@jjv (aB e) e.ins gs u j k
 have jV:k=n→tC (aB e) e.ins gs u j n=tC (aB e) e.ins gs u j k:=fun e=>by rw[←e]
 generalize tC (aB e) e.ins gs u j k=s at *
 have hw:=hb.wid
 have sN:=hb.len
 have h1:dM e s.1 μ1:=⟨de,hb.gi,h.i,by have:=h.l;omega⟩
 refine ah (DY ·) ?_
 refine aD fun K6 cK=>?_
 refine bf rfl (fun ht=>?_) (fun ht=>?_)
 ·have aA:k<n:=by simp at ht;omega
  have sC:(List.replicate n (D.val (.int .i64 0)))[k]? =some (.val (.int .i64 0)):=by simp[aA]
  have cd:=xH hw aA (dj (aB e) s.1 u (ss e.ins 2 j k)).2
  refine bg (cK _ _ ?_)
  refine aD fun K7 cL=>?_
  refine aW ?_
  refine aZ hp ax hc rfl fun K8 dP=>?_
  simp -dsimp -implicitDefEqProofs (disch:=first|assumption|omega|(simp only[aH,aQ,bc]<;>omega)|decide) only[aN,↓reduceIte,Nat.reduceEqDiff,Nat.reduceAdd,D.fix,Int.reduceToNat,Nat.reduceMul,Nat.reduceBNe,Nat.reduceBEq,ch,bH,bO,aK,aY,di,List.cons_append,List.nil_append,bP,sC,bw]
  refine dP _ _ ?_
  refine bT hp ax hc rfl fun K9 cX=>?_
  refine DY ?_
  refine BA (S:=bH e s.1 μ1++[bP,.cells [.d (iD u)],.cells [.d (iD j)]]) (T:=[di s.2 n]) (ygt e s.1 μ1 u j k _ h1 hm (pe k aA) (hu.pre hb.pre) hj (by omega)) rfl (by first|rfl|(simp[AV.aj,AV.allI,bo,bq,bp,aL,aO,bn,br,bH,bO,di,bP];done)|(intro o ho;simp at ho;done)) (fun t=>fL (by first|rfl|(simp[AV.aj,AV.allI,bo,bq,bp,aL,aO,bn,br,bH,bO,di,bP];done)|(intro o ho;simp at ho;done)) t) (by first|rfl|(simp[AV.aj,AV.allI,bo,bq,bp,aL,aO,bn,br,bH,bO,di,bP];done)|(intro o ho;simp at ho;done)) (by first|rfl|(simp[AV.aj,AV.allI,bo,bq,bp,aL,aO,bn,br,bH,bO,di,bP];done)|(intro o ho;simp at ho;done)) (by first|rfl|(simp[AV.aj,AV.allI,bo,bq,bp,aL,aO,bn,br,bH,bO,di,bP];done)|(intro o ho;simp at ho;done)) ?_
  rintro _ _ ⟨μ2,dA,rfl,rfl⟩
  refine⟨rfl,?_⟩
  refine DY ?_
  refine cX _ _ (cL _ _ ?_)
  refine bT hp ax hc rfl fun j4 bW=>?_
  refine DY ?_
  refine bW _ _ ⟨_,_,_,?_,⟨k+1,μ2,⟨by omega,by rw[ej];exact dA⟩,rfl,rfl,rfl⟩,?_⟩
  ·first|omega|(simp only[List.length_cons];omega)|(dsimp only;omega)
  ·refine FD [0,1,2,3,4,5,6,7,8,9,10,11] ?_
   refine Dx ?_
   refine V8 ?_;rw[ej];dsimp only;rw[←cd];simp[bH,bO,aK,ak,iD,bP]
 ·have bM:k=n:=by simp at ht;omega
  have hz:s.2++List.replicate (n - s.2.length) (0:Int)=s.2:=by rw[hw,bM,Nat.sub_self];simp
  rw[hz]
  refine cJ (cm _ _ ?_)
  refine ah (Xb ·) ?_
  refine bC hp (τ':=aF [(4,.d (.fs (s.2.map iD) n))]) (H':=bH e s.1 μ1++[bP,.cells [.d (iD u)],.cells [.d (iD j)]]) ?_ ?_
  ·refine Rt.trans (Rt.fz (id:=11) (l:=(s.2.map iD)) rfl) ?_
   refine Rt.trans (Rt.slot 4 (mU (fE (by simp[hw,bM])))) ?_
   refine FD [0,1,2,3,4,5,6,7,8,9,10] ?_
   refine Dx ?_
   first|rfl|(simp only[cP,Nat.reduceAdd,↓reduceIte,Nat.reduceEqDiff,ch,bH,bO,aK,aY,di,List.cons_append,List.nil_append,bP];first|done|rfl)
  refine aM ?_
  refine dJ (t:=4) rfl ?_
  show ∃_,_
  rw[jV bM];exact⟨μ1,de,by show AV.d (.fs (s.2.map iD) n)= .d (.fs (s.2.map iD) s.2.length);rw[hw,bM],rfl⟩
def pI(m:Nat)(ins:List aT)(kind:Int)(l:List Int)(s:Re):Nat→Re
 |0=>s
 |k+1=>let r:=pI m ins kind l s k;zP m r.1 r.2 (nth l k) (ss ins kind k 0)
theorem jjw{e:BE}{kind:Int}{l:List Int}{gs:Gs}{f:Int}(h:GI (aB e) gs)(hf:bm (aB e) gs f)(hl:eQ (aB e) gs l l.length)(hw:∀k,k<l.length→(⟨kind,(k:Int),((0:Nat):Int)⟩:aT)∈e.ins):∀k,k≤l.length→Rs (aB e) (3*k) gs (pI (aB e) e.ins kind l (gs,f) k)
 |0,_=>Rs.same h hf
 |k+1,hk=>by
  have ih:=jjw h hf hl hw k (by omega)
  exact(ih.trans (Lz nG ih.gi ih.nd ((hl k (by omega)).pre ih.pre) (KI (hw k (by omega)) _))).mono (by omega)
def NeK(e:BE)(r:Re)(x:AV)(S':av):Prop:=∃μ,ir (aB e) r.1 μ∧x= .dR []∧S'=bH e r.1 μ++[bP,.cells [.d (iD r.2)]]
theorem NT{p q:Prop}(hq:q)(h:p=q:=by
 conv=>lhs;simp -dsimp -implicitDefEqProofs (disch:=first|assumption|omega|(simp only[aH,aQ,bc]<;>omega)|decide) only[aN,↓reduceIte,Nat.reduceEqDiff,Nat.reduceAdd,D.fix,Int.reduceToNat,Nat.reduceMul,Nat.reduceBNe,Nat.reduceBEq,ch,bH,bO,aK,aY,bP,List.cons_append,List.nil_append,bw]):p:=h.mpr hq
theorem V7{p q:Prop}(hq:q)(h:p=q:=by
 conv=>lhs;simp only[cP,Nat.reduceAdd,↓reduceIte,Nat.reduceEqDiff,ch,bH,bO,aK,aY,bP,List.cons_append,List.nil_append]):p:=h.mpr hq
theorem jjx(e:BE)(gs:Gs)(μ:Mp)(kind f:Int)(l:List Int)(h:dM e gs μ)(hm:oU e.ins e.mi)(eZ:0≤kind)(qQ:kind≤100)(hf:bm (aB e) gs f)(ke:eQ (aB e) gs l l.length)(PM:∀k,k<l.length→(⟨kind,(k:Int),((0:Nat):Int)⟩:aT)∈e.ins)(oP:l.length≤1000)(hl:gs.length+3*l.length≤99990):cY prog [0,1,3,4,5,6,7,8,9] 140 [.d (iD kind),.d (ae l),.op 8 0,.op 9 0] (bH e gs μ++[bP,.cells [.d (iD f)]]) (NeK e (pI (aB e) e.ins kind l (gs,f) l.length)):=by
 refine fX (fn:=f140) (by kernel_rfl) func140 rfl (cn rfl) fun c hc hp=>?_
 refine BJ ?_
 refine IF hp ?_
 unfold bH bP
 refine ah (NT ·) ?_
 refine aW ?_
 refine cU hp (fun τ' H' mm=>∃(k:Nat) (μ1:Mp),(k≤l.length∧ir (aB e) (pI (aB e) e.ins kind l (gs,f) k).1 μ1)∧mm=l.length - k∧H'=bH e (pI (aB e) e.ins kind l (gs,f) k).1 μ1++[bP,.cells [.d (iD (pI (aB e) e.ins kind l (gs,f) k).2)]]∧τ'=aF [(0,.d (iD kind)),(2,.op 8 0),(3,.op 9 0),(8,.d (ae l)),(9,.d (iD l.length)),(10,.d (iD k))]) (l.length) ?_ ⟨0,μ,⟨cF _,h.n⟩,rfl,rfl,rfl⟩ ?_
 ·refine Dx ?_
  refine V7 ?_;rfl
 rintro τ' H' mm ⟨k,μ1,⟨hk,de⟩,rfl,rfl,rfl⟩
 have hr:=jjw h.g hf ke PM k hk
 have ej:pI (aB e) e.ins kind l (gs,f) (k+1)=zP (aB e) (pI (aB e) e.ins kind l (gs,f) k).1 (pI (aB e) e.ins kind l (gs,f) k).2 (nth l k) (ss e.ins kind k 0):=rfl
 have jV:k=l.length→pI (aB e) e.ins kind l (gs,f) l.length=pI (aB e) e.ins kind l (gs,f) k:=fun e=>by rw[←e]
 generalize pI (aB e) e.ins kind l (gs,f) k=s at *
 have h1:=h.next hr de (by omega)
 have p7:=hr.len
 refine ah (NT ·) ?_
 refine aD fun K3 cm=>?_
 refine bf rfl (fun ht=>?_) (fun ht=>?_)
 ·have aA:k<l.length:=by simp at ht;omega
  have mb:pL prog Ap (wV ⟨kind,(k:Int),0⟩):=EP (a:=kind) (b:=(k:Int)) (c:=0) (n9 (by omega) (by omega)) (n9 (by omega) (by omega)) (n9 (by decide) (by decide))
  have jv:=hm.gt ⟨kind,(k:Int),0⟩
  rw[if_pos (show(⟨kind,(k:Int),0⟩:aT)∈e.ins from PM k aA)]at jv
  have hwn:=KI (PM k aA) s.1
  have pe:ss e.ins kind k 0=((2+kL ⟨kind,(k:Int),0⟩ e.ins:Nat):Int):=rfl
  rw[←pe]at jv
  generalize ss e.ins kind k 0=W at *
  obtain⟨A,eA⟩:∃A,A=dH (aB e) s.1 (nth l k):=⟨_,rfl⟩
  obtain⟨O,eO⟩:∃O,O=iM (aB e) A.1 A.2 W:=⟨_,rfl⟩
  have hsv:zP (aB e) s.1 s.2 (nth l k) W=dj (aB e) O.1 s.2 O.2:=by rw[eO,eA];rfl
  have c1:=zU e s.1 μ1 (nth l k) h1 ((ke k aA).pre hr.pre)
  have r1:=oH nG h1.g ((ke k aA).pre hr.pre)
  rw[←eA]at c1 r1
  have l1:=r1.len
  refine bg (cm _ _ ?_)
  refine aD fun K4 dE=>?_
  refine aW ?_
  refine aZ hp ax hc rfl fun K5 dx=>?_
  simp -dsimp -implicitDefEqProofs (disch:=first|assumption|omega|(simp only[aH,aQ,bc]<;>omega)|decide) only[aN,↓reduceIte,Nat.reduceEqDiff,Nat.reduceAdd,D.fix,Int.reduceToNat,Nat.reduceMul,Nat.reduceBNe,Nat.reduceBEq,ch,bH,bO,aK,aY,bP,List.cons_append,List.nil_append,db,bw]
  refine dx _ _ ?_
  refine u5 ax hp hc mixed rfl [(0,[]),(1,[]),(2,[]),(3,[]),(4,[]),(6,[]),(7,[]),(8,[]),(9,[]),(10,[]),(11,[]),(12,[]),(13,[]),(5,[0,1,2,6,9,13]),(14,[0,1]),(15,[]),(16,[])] [[],[],[],[],[],[3,4],[],[6],[6,7],[6,7,8],[],[],[10,11],[6,7,8,9,10,11,12],[2,3,4,5,6,7,8,9,10,11,12,13],[0,1,2,3,4,5,6,7,8,9,10,11,12,13,14],[0,1,2,3,4,5,6,7,8,9,10,11,12,13,14,15]] 0 (by kernel_rfl) fun K6 cK=>?_
  refine DZ jv ?_
  refine Jc (bH e s.1 μ1) ([bP,.cells [.d (iD s.2)]]) (c1) ?_
  rintro _ _ ⟨μ2,dA,rfl,rfl⟩
  refine⟨rfl,?_⟩
  have h2:=h1.next r1 dA (by omega)
  have c2:=Gl e A.1 μ2 A.2 W h2 r1.nd (hwn.pre r1.pre)
  have r2:=yp nG h2.g r1.nd (hwn.pre r1.pre)
  rw[←eO]at c2 r2
  have l2:=r2.len
  refine DZ jv ?_
  refine Jc (bH e A.1 μ2) ([bP,.cells [.d (iD s.2)]]) (c2) ?_
  rintro _ _ ⟨μ3,nP,rfl,rfl⟩
  refine⟨rfl,?_⟩
  have h3:=h2.next r2 nP (by omega)
  refine DZ jv ?_
  refine Jc (bH e O.1 μ3) ([bP,.cells [.d (iD s.2)]]) (vH e O.1 μ3 s.2 O.2 h3 (hr.nd.pre (r1.pre.trans r2.pre)) r2.nd) ?_
  rintro _ _ ⟨μ4,p8,rfl,rfl⟩
  refine⟨rfl,?_⟩
  refine DZ jv ?_
  refine cK _ _ (dE _ _ ?_)
  refine bT hp ax hc rfl fun K7 cL=>?_
  refine NT ?_
  refine cL _ _ ⟨_,_,_,?_,⟨k+1,μ4,⟨by omega,by rw[ej,hsv];exact p8⟩,rfl,rfl,rfl⟩,?_⟩
  ·first|omega|(simp only[List.length_cons];omega)|(dsimp only;omega)
  ·refine FD [0,1,2,3,4,5,6,7,8,9] ?_
   refine Dx ?_
   refine V7 ?_;rw[ej,hsv];rfl
 ·have bM:k=l.length:=by simp at ht;omega
  refine cJ ?_
  try dsimp only[cC,cI]
  refine⟨aF [],bH e s.1 μ1++[bP,.cells [.d (iD s.2)]],?_,?_⟩
  ·refine FD [0,1,2,3,4,5,6,7,8,9] ?_
   refine Rt.end (cw _) ?_
   exact V9
  refine IU rfl ?_
  show ∃_,_
  rw[jV bM];exact⟨μ1,de,rfl,rfl⟩
section
def eP(p:Pr)(mi:Mp)(out:List aT)(dr:List Int)(fo:List (List Int)):BE:=⟨p,aU p,mi,out,dr,fo⟩
structure uQ (p:Pr) (mi:Mp):Prop where
 k:cB p
 m:oU (aU p) mi
 il:(aU p).length≤1000
 co:oG p≤80000
section
variable {p:Pr} {mi:Mp} {out:List aT} {dr:List Int} {fo:List (List Int)}
theorem uQ.be(h:uQ p mi):uU (eP p mi out dr fo):=⟨rfl,h.m,h.il,h.k,h.k.rl⟩
end
@[simp] theorem yi6 {e:BE} {gs:Gs} {μ:Mp}:(bH e gs μ).length=8:=rfl
def eF(x:Int):bB:=.cells [.d (iD x)]
def jb(l:List Int):bB:=.cells (ak (l.map iD))
def FiK(p:Pr)(mi:Mp)(out:List aT)(dr:List Int)(x:AV)(S':av):Prop:=∃μ,ir (mP p) (qx p p.aE.length).1 μ∧x= .dR [.d (ae (iE p)),.d (ae (iC p)),.d (iD (ft p))]∧S'=bH (eP p mi out dr (bU p)) (qx p p.aE.length).1 μ++[eF (ft p)]
theorem BF{p:Pr}(h:cB p):(iE p).length=p.ag.length:=(vb h _ (bJ _)).tl
theorem BC{p:Pr}(h:cB p):(iC p).length=p.aE.length:=(tX h _ (bJ _)).ql
theorem jjy{p:Pr}:∀k,pR p k=pI (mP p) (aU p) 3 (iE p) ((jf p p.aE.length).gs,1) k
 |0=>rfl
 |k+1=>by rw[pR,pI,←jjy k];rfl
theorem jjz{p:Pr}:∀k,qx p k=pI (mP p) (aU p) 4 (iC p) (pR p p.ag.length) k
 |0=>rfl
 |k+1=>by rw[qx,pI,←jjz k];rfl
theorem pO{p q:Prop}(hq:q)(h:p=q:=by
 conv=>lhs;simp -dsimp -implicitDefEqProofs (disch:=first|assumption|omega|(simp only[aH,aQ,bc,mW,mV]<;>omega)|decide) only[aN,↓reduceIte,Nat.reduceEqDiff,Nat.reduceAdd,D.fix,Int.reduceToNat,Nat.reduceMul,Nat.reduceBNe,Nat.reduceBEq,ch,bH,bO,aK,aY,bP,List.cons_append,List.nil_append,eP,eF,jb,vL,r8,iL,pY,mS,gm,nS,bw]):p:=h.mpr hq
theorem B5(k:List Nat){m:List Nat}{τ τ1:Fr}{H H1:av}(h:Rt m (fun t=>du k (τ t)) (dg k H) τ1 H1)(a:∀i∈m,k[i]? =some i:=by decide)(b:k.Nodup:=by decide)(c:∀i∈k,i<H.length:=by
 simp[eJ,dg]):Rt m τ H τ1 H1:=Rt.trans (Rt.gc a b c) h
theorem B4{m:List Nat}{τ τ':Fr}{H H':av}(h2:H=H')(h:fw τ τ':=by
 repeat (first|exact cw _|refine cg ?_ (by first|rfl|(simp[aX,aQ,bc,mW,mV];done)|simp[aX,aQ,bc,mW,mV, *]))):Rt m τ H τ' H':=Rt.end h h2
theorem V6{P:Program}{sm:List Nat}{N:Nat}{τ:Fr}{H:av}{f:FuncId}{args:List AV}{K0 KK:AV→av→Prop}{ks:List Nat}(S T:av)(h:cY P ks f args S K0)(hK:∀x S',K0 x S'→S'.length=S.length∧KK x (S'++T))(hH:H=S++T:=by
 rfl) (hm:sm.all (aL ks S.length)=true:=by
 first|rfl|(simp[AV.aj,AV.allI,bo,bq,bp,aL,aO,bn,br,bH,bO,bP,eP,eF,jb,iL,gm];done)|(intro o ho;simp at ho;done)) (hτ:∀t,(τ t).allI (aL ks S.length)=true:=by
 exact fun t=>fL (by first|rfl|(simp[AV.aj,AV.allI,bo,bq,bp,aL,aO,bn,br,bH,bO,bP,eP,eF,jb,iL,gm];done)|(intro o ho;simp at ho;done)) t) (ha:AV.aj (aO S.length) args=true:=by
 first|rfl|(simp[AV.aj,AV.allI,bo,bq,bp,aL,aO,bn,br,bH,bO,bP,eP,eF,jb,iL,gm];done)|(intro o ho;simp at ho;done)) (hS:∀o∈S,o.allI (aO S.length)=true:=by
 first|rfl|(simp[AV.aj,AV.allI,bo,bq,bp,aL,aO,bn,br,bH,bO,bP,eP,eF,jb,iL,gm];done)|(intro o ho;simp at ho;done)) (hT:∀o∈T,o.allI (aL ks S.length)=true:=by
 first|rfl|(simp[AV.aj,AV.allI,bo,bq,bp,aL,aO,bn,br,bH,bO,bP,eP,eF,jb,iL,gm];done)|(intro o ho;simp at ho;done)):kC P sm N H τ (.d (.val (.func (.func f) #[] #[]))) args true (tg KK):=rH h hH hm hτ ha hS hT hK
theorem Xa{p q r:Prop}(e:r)(hq:q)(h:r→p=q:=by
 intro hY
 conv=>lhs;simp -dsimp -implicitDefEqProofs (disch:=first|assumption|omega|(simp only[aH,aQ,bc,mW,mV]<;>omega)|decide) only[aN,↓reduceIte,Nat.reduceEqDiff,Nat.reduceAdd,D.fix,Int.reduceToNat,Nat.reduceMul,Nat.reduceBNe,Nat.reduceBEq,mC,ch,bH,bO,aK,aY,bP,List.cons_append,List.nil_append,eP,eF,jb,vL,r8,iL,pY,mS,gm,nS,bw,hY]):p:=(h e).mpr hq
theorem W9{p q:Prop}(hq:q)(h:p=q:=by
 conv=>lhs;simp -dsimp -implicitDefEqProofs (disch:=first|assumption|omega|(simp only[aH,aQ,bc,mW,mV]<;>omega)|decide) only[aN,↓reduceIte,Nat.reduceEqDiff,Nat.reduceAdd,D.fix,Int.reduceToNat,Nat.reduceMul,Nat.reduceBNe,Nat.reduceBEq,ch,bH,bO,aK,aY,bP,List.cons_append,List.nil_append,eP,eF,jb,vL,r8,iL,pY,mS,gm,nS,db,bw]):p:=h.mpr hq
theorem V5{P:Program}{sm:List Nat}{N:Nat}{τ:Fr}{H:av}{f:FuncId}{fi ca args:List AV}{K0 KK:AV→av→Prop}{ks:List Nat}(S T:av)(h:cY P ks f (fi++args++ca) S K0)(hK:∀x S',K0 x S'→S'.length=S.length∧KK x (S'++T))(hH:H=S++T:=by
 rfl) (hm:sm.all (aL ks S.length)=true:=by
 first|rfl|(simp[AV.aj,AV.allI,bo,bq,bp,aL,aO,bn,br,bH,bO,bP,eP,eF,jb,iL,gm];done)|(intro o ho;simp at ho;done)) (hτ:∀t,(τ t).allI (aL ks S.length)=true:=by
 exact fun t=>fL (by first|rfl|(simp[AV.aj,AV.allI,bo,bq,bp,aL,aO,bn,br,bH,bO,bP,eP,eF,jb,iL,gm];done)|(intro o ho;simp at ho;done)) t) (ha:AV.aj (aO S.length) (fi++args++ca)=true:=by
 first|rfl|(simp[AV.aj,AV.allI,bo,bq,bp,aL,aO,bn,br,bH,bO,bP,eP,eF,jb,iL,gm];done)|(intro o ho;simp at ho;done)) (hS:∀o∈S,o.allI (aO S.length)=true:=by
 first|rfl|(simp[AV.aj,AV.allI,bo,bq,bp,aL,aO,bn,br,bH,bO,bP,eP,eF,jb,iL,gm];done)|(intro o ho;simp at ho;done)) (hT:∀o∈T,o.allI (aL ks S.length)=true:=by
 first|rfl|(simp[AV.aj,AV.allI,bo,bq,bp,aL,aO,bn,br,bH,bO,bP,eP,eF,jb,iL,gm];done)|(intro o ho;simp at ho;done)):kC P sm N H τ (.dC (.func f) fi ca) args true (tg KK):=BA h hH hm hτ ha hS hT hK
theorem Fv{p q:Prop}(hq:q)(h:p=q:=by
 conv=>lhs;simp only[cP,Nat.reduceAdd,↓reduceIte,Nat.reduceEqDiff,ch,bH,bO,aK,aY,bP,List.cons_append,List.nil_append,eP,eF,jb,vL,r8,iL,pY,mS,gm,nS]):p:=h.mpr hq
theorem V4{p:Prop}(h:p:=by
 first|rfl|(simp only[cP,Nat.reduceAdd,↓reduceIte,Nat.reduceEqDiff,ch,bH,bO,aK,aY,bP,List.cons_append,List.nil_append,eP,eF,jb,vL,r8,iL,pY,mS,gm,nS];first|done|rfl)):p:=h
theorem juh(p:Pr)(mi:Mp)(out:List aT)(dr:List Int)(hv:uQ p mi)(μ:Mp)(Cr:ir (mP p) [] μ):cY prog [0,1,3,4,5,6] 91 [.op 0 0] (bH (eP p mi out dr []) [] μ++[.free]) (FiK p mi out dr):=by
 refine fX (fn:=f91) (by kernel_rfl) func91 rfl (cn rfl) fun c hc hp=>?_
 refine LF ?_
 have gL:=hv.il;have nQ:=hv.co;have vt:=hv.k.tl;have wF:=hv.k.ql
 refine ah (pO ·) ?_
 refine ah (pO ·) ?_
 refine aD fun K3 cm=>?_
 refine ah (pO ·) ?_
 refine aW ?_
 refine cU hp (fun τ' H' mm=>∃(k:Nat) (μ1:Mp),(k≤p.ag.length∧ir (mP p) (eU p k).gs μ1)∧mm=p.ag.length - k∧H'=bH (eP p mi out dr (eU p k).data) (eU p k).gs μ1++[bP,eF 1,jb (eU p k).ag]∧τ'=aF [(1,.op 8 0),(2,.os 1 10 0 k),(3,.d (.val (.slice none 0 0))),(4,.op 9 0),(15,.d (.fs (p.ag.flatMap qJ) p.ag.length)),(16,.d (iD p.ag.length)),(17,.d (iD k))]) (p.ag.length) ?_ ⟨0,μ,⟨cF _,Cr⟩,rfl,rfl,rfl⟩ ?_
 ·refine Rt.trans (Rt.nil 2 1 rfl) ?_
  refine B5 [0,1,2,3,4,5,6,7,9,10,11] ?_
  refine B4 ?_
  refine Fv ?_;simp[bH,bO,eP,eU,bP,eF,jb,ak,aK,iD]
 rintro τ' H' mm ⟨k,μ1,⟨hk,de⟩,rfl,rfl,rfl⟩
 refine ah (pO ·) ?_
 refine aD fun K6 cK=>?_
 refine bf rfl (fun ht=>?_) (fun ht=>?_)
 ·have aA:k<p.ag.length:=by simp at ht;omega
  have hs:=vb hv.k k hk
  have cd:=OM hv.k aA hs
  have ej:eU p (k+1)=⟨(bL (fun gs i=>dj (mP p) gs (nth (dW p (eU p k).data (eU p k).gs (nth p.ag k).wh).2 0) (cG p 2 k i)) (dW p (eU p k).data (eU p k).gs (nth p.ag k).wh).1 (nth p.ag k).w).1,(eU p k).ag++[nth (dW p (eU p k).data (eU p k).gs (nth p.ag k).wh).2 0],(eU p k).data++[(bL (fun gs i=>dj (mP p) gs (nth (dW p (eU p k).data (eU p k).gs (nth p.ag k).wh).2 0) (cG p 2 k i)) (dW p (eU p k).data (eU p k).gs (nth p.ag k).wh).1 (nth p.ag k).w).2]⟩:=rfl
  have fT:=Z9 (p:=p) (show k+1≤p.ag.length by omega)
  rw[vx]at fT
  generalize eU p k=s at *
  have Pp:=hs.tl;have qe:=hs.dl
  have oP:=hs.len
  have h1:dM (eP p mi out dr s.data) s.gs μ1:=⟨de,hs.gi,gL,by omega⟩
  have uL:=LW (eP p mi out dr s.data) hv.be false (nth p.ag k).wh s.gs μ1 h1 (mo.mk (by intro e;cases e) (by intro e;cases e) (by intro e;cases e)) (hv.k.tw k aA).1 (by show s.gs.length+cf (aR p) _≤_;omega)
  rw[Lw hv.be]at uL
  obtain⟨R,hR⟩:∃R,R=dW p s.data s.gs (nth p.ag k).wh:=⟨_,rfl⟩
  have Qg:dW (eP p mi out dr s.data).p (eP p mi out dr s.data).fo s.gs (nth p.ag k).wh=R:=hR.symm
  rw[Qg]at uL
  rw[←hR]at cd ej
  have Qf:=cd.b.len;have Qe:=cd.b.wid
  have hu:bm (mP p) R.1 (nth R.2 0):=cd.b.nd 0 (by decide)
  have Cm:=hv.k.ct.t k (by simpa[aR]using aA)
  rw[JX aA]at Cm
  have ju:(0<(nth p.ag k).w)=True:=by simp;omega
  have pe:∀i,i<(nth p.ag k).w→(⟨2,(k:Int),(i:Int)⟩:aT)∈aU p:=fun i hi=>KU aA hi
  refine bg (cK _ _ ?_)
  refine aD fun K7 cL=>?_
  refine aW ?_
  refine ah (pO ·) ?_
  refine aZ hp ax hc rfl fun K9 cX=>?_
  refine pO ?_
  refine V6 (bH (eP p mi out dr s.data) s.gs μ1) ([bP,eF 1,jb s.ag,eF k,.cells (ak (iL (nth p.ag k)))]) (uL) ?_
  rintro _ _ ⟨μ2,dA,rfl,rfl⟩
  refine⟨rfl,?_⟩
  have h2:dM (eP p mi out dr s.data) R.1 μ2:=⟨dA,cd.b.gi,gL,by omega⟩
  refine pO ?_
  refine cX _ _ ?_
  refine ah (pO ·) ?_
  refine bC hp (τ':=aF [(1,.op 8 0),(2,.os 1 12 0 (k+1)),(3,.d (.val (.slice none 0 0))),(4,.op 11 0),(5,.op 10 0),(6,.op 13 0),(7,.op 9 0),(15,.d (.fs (p.ag.flatMap qJ) p.ag.length)),(16,.d (iD p.ag.length)),(17,.d (iD k))]) (H':=bH (eP p mi out dr s.data) R.1 μ2++[bP,eF (nth R.2 0),eF k,eF 1,jb (s.ag++[nth R.2 0]),.cells (ak (iL (nth p.ag k)))]) ?_ ?_
  ·refine B5 [0,1,2,3,4,5,6,7,8,13,11,9,15,12] ?_
   refine B4 ?_
   refine Fv ?_;simp[bH,bO,eP,bP,eF,jb,ak,aK,iD,iL]
  refine u5 ax hp hc mixed rfl [(0,[]),(1,[]),(2,[]),(3,[]),(4,[]),(5,[]),(6,[]),(7,[]),(8,[]),(9,[0,1,4]),(10,[]),(11,[0]),(12,[]),(13,[]),(14,[])] [[],[],[1],[1,2],[1,2,3],[],[5],[5,6],[],[5,6,7,8],[5,6,7,8,9],[1,2,3,4,5,6,7,8,9,10],[0,1,2,3,4,5,6,7,8,9,10,11],[0,1,2,3,4,5,6,7,8,9,10,11,12],[0,1,2,3,4,5,6,7,8,9,10,11,12,13]] 2 (by kernel_rfl) fun mh cQ=>?_
  refine Xa ju ?_
  refine tm (S:=bH (eP p mi out dr s.data) R.1 μ2++[bP,eF (nth R.2 0),eF k]) (T:=[eF 1,jb (s.ag++[nth R.2 0]),.cells (ak (iL (nth p.ag k))),.dead,.free]) (jnj (eP p mi out dr s.data) R.1 μ2 (nth R.2 0) k (nth p.ag k).w h2 hv.m pe hu (by omega) (by omega) (by omega)) rfl (cn rfl) (by first|rfl|(simp[AV.aj,AV.allI,bo,bq,bp,aL,aO,bn,br,bH,bO,bP,eP,eF,jb,iL,gm];done)|(intro o ho;simp at ho;done)) (fun t=>fL (by first|rfl|(simp[AV.aj,AV.allI,bo,bq,bp,aL,aO,bn,br,bH,bO,bP,eP,eF,jb,iL,gm];done)|(intro o ho;simp at ho;done)) t) (fun t=>fL (by first|rfl|(simp[AV.aj,AV.allI,bo,bq,bp,aL,aO,bn,br,bH,bO,bP,eP,eF,jb,iL,gm];done)|(intro o ho;simp at ho;done)) t) (by first|rfl|(simp[AV.aj,AV.allI,bo,bq,bp,aL,aO,bn,br,bH,bO,bP,eP,eF,jb,iL,gm];done)|(intro o ho;simp at ho;done)) (by first|rfl|(simp[AV.aj,AV.allI,bo,bq,bp,aL,aO,bn,br,bH,bO,bP,eP,eF,jb,iL,gm];done)|(intro o ho;simp at ho;done)) (by first|rfl|(simp[AV.aj,AV.allI,bo,bq,bp,aL,aO,bn,br,bH,bO,bP,eP,eF,jb,iL,gm];done)|(intro o ho;simp at ho;done)) ?_
  rintro _ _ ⟨μ3,nP,rfl,rfl⟩
  refine⟨rfl,?_⟩
  refine Xa ju ?_
  refine cQ _ _ (cL _ _ ?_)
  refine bT hp ax hc rfl fun lK bN=>?_
  refine pO ?_
  refine bN _ _ ⟨_,_,_,?_,⟨k+1,μ3,⟨by omega,by rw[ej];exact nP⟩,rfl,rfl,rfl⟩,?_⟩
  ·first|omega|(simp only[List.length_cons];omega)|(dsimp only;omega)
  ·refine B5 [0,1,2,3,4,5,6,16,8,11,12] ?_
   refine B4 ?_
   refine Fv ?_;rw[ej];simp[bH,bO,eP,bP,eF,jb,ak,aK,iD,ae,tC,aB,mP,ss,cG]
 ·have bM:k=p.ag.length:=by simp at ht;omega
  subst bM
  have hT:=vb hv.k _ (bJ _)
  have wx:=BF hv.k
  have wG:=BC hv.k
  refine cJ (cm _ _ ?_)
  refine aD fun nV df=>?_
  refine ah (pO ·) ?_
  refine aW ?_
  refine cU hp (fun τ' H' mm=>∃(k:Nat) (μ1:Mp),(k≤p.aE.length∧ir (mP p) (jf p k).gs μ1)∧mm=p.aE.length - k∧H'=bH (eP p mi out dr (bU p)) (jf p k).gs μ1++[bP,eF 1,jb (iE p),jb (jf p k).aE]∧τ'=aF [(1,.op 8 0),(2,.os 1 10 0 p.ag.length),(3,.os 1 11 0 k),(4,.op 9 0),(51,.d (.fs (p.aE.flatMap rO) p.aE.length)),(52,.d (iD p.aE.length)),(53,.d (iD k))]) (p.aE.length) ?_ ⟨0,μ1,⟨cF _,de⟩,rfl,rfl,rfl⟩ ?_
  ·refine Rt.trans (Rt.nil 3 1 rfl) ?_
   refine B5 [0,1,2,3,4,5,6,7,8,9,10,11] ?_
   refine B4 ?_
   refine Fv ?_;simp[bH,bO,eP,jf,bP,eF,jb,ak,aK,iD,iE,bU]
  rintro τ' H' mm ⟨k,μ1,⟨qP,p8⟩,rfl,rfl,rfl⟩
  refine ah (pO ·) ?_
  refine aD fun pE dB=>?_
  refine bf rfl (fun ht=>?_) (fun ht=>?_)
  ·have aA:k<p.aE.length:=by simp at ht;omega
   have hs:=tX hv.k k qP
   have cd:=Oh hv.k aA hs
   have ej:jf p (k+1)=⟨(dW p (bU p) (jf p k).gs (nth p.aE k).wh).1,(jf p k).aE++[nth (dW p (bU p) (jf p k).gs (nth p.aE k).wh).2 0]⟩:=rfl
   have fT:=ER (p:=p) (show k+1≤p.aE.length by omega)
   rw[uP]at fT
   generalize jf p k=s at *
   have PA:=hs.ql
   have oP:=hs.len
   have h1:dM (eP p mi out dr (bU p)) s.gs μ1:=⟨p8,hs.gi,gL,by omega⟩
   have uL:=LW (eP p mi out dr (bU p)) hv.be true (nth p.aE k).wh s.gs μ1 h1 (yw hv.k hs.pre) (hv.k.qw k aA).1 (by show s.gs.length+cf (aR p) _≤_;omega)
   rw[Lw hv.be]at uL
   obtain⟨R,hR⟩:∃R,R=dW p (bU p) s.gs (nth p.aE k).wh:=⟨_,rfl⟩
   have Qg:dW (eP p mi out dr (bU p)).p (eP p mi out dr (bU p)).fo s.gs (nth p.aE k).wh=R:=hR.symm
   rw[Qg]at uL
   rw[←hR]at cd ej
   have Qf:=cd.len;have Qe:=cd.wid
   refine bg (dB _ _ ?_)
   refine aD fun rZ ey=>?_
   refine aW ?_
   refine ah (pO ·) ?_
   refine bT hp ax hc rfl fun rY eN=>?_
   refine W9 ?_
   refine V6 (bH (eP p mi out dr (bU p)) s.gs μ1) ([bP,eF 1,jb (iE p),jb s.aE,.cells (ak (gm (nth p.aE k)))]) (uL) ?_
   rintro _ _ ⟨μ2,dA,rfl,rfl⟩
   refine⟨rfl,?_⟩
   refine W9 ?_
   refine eN _ _ (ey _ _ ?_)
   refine bT hp ax hc rfl fun sX fa=>?_
   refine pO ?_
   refine fa _ _ ⟨_,_,_,?_,⟨k+1,μ2,⟨by omega,by rw[ej];exact dA⟩,rfl,rfl,rfl⟩,?_⟩
   ·first|omega|(simp only[List.length_cons];omega)|(dsimp only;omega)
   ·refine B5 [0,1,2,3,4,5,6,7,8,9,10,14] ?_
    refine B4 ?_
    refine Fv ?_;rw[ej];simp[bH,bO,eP,bP,eF,jb,ak,aK,iD,ae]
  ·have bM:k=p.aE.length:=by simp at ht;omega
   subst bM
   have hQ:=tX hv.k _ (bJ _)
   have Lj:=IG hv.k _ (bJ p.ag.length)
   have hFQ:=BP hv.k _ (bJ p.aE.length)
   have hcq:=ER (p:=p) (bJ p.aE.length)
   have Lf:=ES (p:=p) (cF p.aC.length)
   rw[oT]at Lf
   have wF:=hQ.len;have hftl:=Lj.len;have hfql:=hFQ.len
   have h1:dM (eP p mi out dr (bU p)) (jf p p.aE.length).gs μ1:=⟨p8,hQ.gi,gL,by omega⟩
   have c1:=jjx (eP p mi out dr (bU p)) (jf p p.aE.length).gs μ1 3 1 (iE p) h1 hv.m (by decide) (by decide) ⟨by decide,by have:=@nL p;show(1:Int)<((mP p:Nat):Int)+_;omega⟩ (fun k hk=>(hT.tn k (by omega)).pre hQ.pre) (fun k hk=>O6 (by omega)) (by omega) (by omega)
   have e1:pI (aB (eP p mi out dr (bU p))) (eP p mi out dr (bU p)).ins 3 (iE p) ((jf p p.aE.length).gs,1) (iE p).length=pR p p.ag.length:=by rw[wx];exact(jjy _).symm
   rw[e1]at c1
   rw[show ae (iE p)= .fs ((iE p).map iD) p.ag.length by unfold ae;rw[wx]]at c1
   have c2:=fun μ2 (h2:dM (eP p mi out dr (bU p)) (pR p p.ag.length).1 μ2)=>jjx (eP p mi out dr (bU p)) (pR p p.ag.length).1 μ2 4 (pR p p.ag.length).2 (iC p) h2 hv.m (by decide) (by decide) Lj.nd (fun k hk=>(hQ.qn k (by omega)).pre Lj.pre) (fun k hk=>O5 (by omega)) (by omega) (by omega)
   have e2:pI (aB (eP p mi out dr (bU p))) (eP p mi out dr (bU p)).ins 4 (iC p) ((pR p p.ag.length).1,(pR p p.ag.length).2) (iC p).length=qx p p.aE.length:=by rw[wG];exact(jjz _).symm
   rw[e2]at c2
   rw[show ae (iC p)= .fs ((iC p).map iD) p.aE.length by unfold ae;rw[wG]]at c2
   have hdq:(jf p p.aE.length).aE=iC p:=rfl
   rw[hdq]
   refine cJ (df _ _ ?_)
   refine aZ hp ax hc rfl fun yj im=>?_
   simp -dsimp -implicitDefEqProofs (disch:=first|assumption|omega|(simp only[aH,aQ,bc,mW,mV]<;>omega)|decide) only[aN,↓reduceIte,Nat.reduceEqDiff,Nat.reduceAdd,D.fix,Int.reduceToNat,Nat.reduceMul,Nat.reduceBNe,Nat.reduceBEq,ch,bH,bO,aK,aY,bP,List.cons_append,List.nil_append,eP,eF,jb,vL,r8,iL,pY,mS,gm,nS]
   refine im _ _ ?_
   refine bC hp (τ':=aF [(2,.d (.fs ((iE p).map iD) p.ag.length)),(3,.d (.fs ((iC p).map iD) p.aE.length)),(4,.op 9 0),(10,.dC (.func 140) [] [.op 8 0,.op 9 0])]) (H':=bH (eP p mi out dr (bU p)) (jf p p.aE.length).gs μ1++[bP,eF 1]) ?_ ?_
   ·refine Rt.trans (Rt.fz (id:=10) (l:=((iE p).map iD)) rfl) ?_
    refine Rt.trans (Rt.slot 2 (mU (fE (by simp[wx])))) ?_
    refine Rt.trans (Rt.heap (H':=bH (eP p mi out dr (bU p)) (jf p p.aE.length).gs μ1++[bP,eF 1,.dead,jb (iC p)]) (by simp only[cP,Nat.reduceAdd,↓reduceIte,Nat.reduceEqDiff,ch,bH,bO,aK,aY,bP,List.cons_append,List.nil_append,eP,eF,jb,vL,r8,iL,pY,mS,gm,nS];first|done|rfl)) ?_
    refine Rt.trans (Rt.fz (id:=11) (l:=((iC p).map iD)) rfl) ?_
    refine Rt.trans (Rt.slot 3 (mU (fE (by simp[wG])))) ?_
    refine B5 [0,1,2,3,4,5,6,7,8,9] ?_
    refine B4 ?_
    exact V4
   refine aZ hp ax hc rfl fun yi ik=>?_
   refine pO ?_
   refine V5 (bH (eP p mi out dr (bU p)) (jf p p.aE.length).gs μ1++[bP,eF 1]) ([]) (c1) ?_
   rintro _ _ ⟨μ2,dA,rfl,rfl⟩
   refine⟨rfl,?_⟩
   have h2:dM (eP p mi out dr (bU p)) (pR p p.ag.length).1 μ2:=⟨dA,Lj.gi,gL,by omega⟩
   refine pO ?_
   refine ik _ _ ?_
   refine aZ hp ax hc rfl fun vA fM=>?_
   refine pO ?_
   refine V5 (bH (eP p mi out dr (bU p)) (pR p p.ag.length).1 μ2++[bP,eF (pR p p.ag.length).2]) ([]) (c2 μ2 h2) ?_
   rintro _ _ ⟨μ3,nP,rfl,rfl⟩
   refine⟨rfl,?_⟩
   refine pO ?_
   refine fM _ _ ?_
   refine dO ax hc mixed rfl (q:=0) (by kernel_rfl) (by kernel_rfl) fun yh fG=>?_
   refine pO ?_
   refine fG _ _ ?_
   refine bC hp (τ':=aF [(2,.d (.fs ((iE p).map iD) p.ag.length)),(3,.d (.fs ((iC p).map iD) p.aE.length)),(4,.op 8 0)]) (H':=bH (eP p mi out dr (bU p)) (qx p p.aE.length).1 μ3++[eF (qx p p.aE.length).2]) ?_ ?_
   ·refine B5 [0,1,2,3,4,5,6,7,9] ?_
    refine B4 ?_
    exact V4
   refine aM ?_
   try dsimp only[cC,cI]
   refine Mq rfl ?_
   refine zW ?_
   refine zW ?_
   refine jzd ?_
   simp -dsimp -implicitDefEqProofs (disch:=first|assumption|omega|(simp only[aH,aQ,bc,mW,mV]<;>omega)|decide) only[aN,↓reduceIte,Nat.reduceEqDiff,Nat.reduceAdd,D.fix,Int.reduceToNat,Nat.reduceMul,Nat.reduceBNe,Nat.reduceBEq,ch,bH,bO,aK,aY,bP,List.cons_append,List.nil_append,eP,eF,jb,vL,r8,iL,pY,mS,gm,nS,Fu,MK]
   show ∃_,_
   refine⟨μ3,nP,?_,rfl⟩
   unfold ae;rw[wx,wG];rfl
end
end Go.Proofs.YtapjobndmmkanaaGreat
