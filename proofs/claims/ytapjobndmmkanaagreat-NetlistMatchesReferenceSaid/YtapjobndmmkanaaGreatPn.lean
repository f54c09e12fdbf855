/- The reference's builder: input wires. -/
import Derived.Test.YtapjobndmmkanaaGreatQr
import Derived.Test.YtapjobndmmkanaaGreatWf
import Derived.Test.YtapjobndmmkanaaGreatVi
import Derived.Test.YtapjobndmmkanaaGreatOe
import Derived.Test.YtapjobndmmkanaaGreatWe
set_option linter.unusedVariables false
set_option linter.unusedSimpArgs false
set_option maxRecDepth 100000
set_option maxHeartbeats 4000000
namespace Go.Proofs.YtapjobndmmkanaaGreat
open Go.Proofs.Tryz
open Go Go.RowKit
section
theorem vE{l:List kg}{k:Nat}(h:k<l.length):(l.flatMap qJ)[k*9+1]? =some (iD (nth l k).w):=(uc (j:=1) r8 h (by omega)).trans rfl
section
variable {p:Pr}
theorem Kg(h:cB p){i:Nat}(hi:i<p.aC.length):(nth p.aC i).w≤8:=by
 have:=(h.ct.r i (by simpa[aR]using hi)).2
 rwa[show nth (aR p).aC i=(nth p.aC i).w from tE hi]at this
theorem N6(h:cB p){i:Nat}(hi:i<p.ag.length):(nth p.ag i).w≤8:=by
 have:=(h.ct.t i (by simpa[aR]using hi)).2
 rwa[JX hi]at this
theorem LM(h:cB p):∀k,k≤p.aC.length→(gW p k).length≤8*k
 |0,_=>by simp[gW]
 |k+1,hk=>by have:=LM h k (by omega);have:=Kg h (i:=k) (by omega);rw[gW,List.length_append,dD];omega
theorem LL(h:cB p):∀k,k≤p.ag.length→(gM p k).length≤800+9*k
 |0,_=>by have:=LM h _ (bJ _);have:=h.rl;rw[gM];omega
 |k+1,hk=>by have:=LL h k (by omega);have:=N6 h (i:=k) (by omega);rw[gM,List.length_append,List.length_append,dD,dD];omega
theorem jil(h:cB p):∀k,k≤p.aE.length→(iN p k).length≤1700+k
 |0,_=>by have:=LL h _ (bJ _);have:=h.tl;rw[iN];omega
 |k+1,hk=>by have:=jil h k (by omega);rw[iN,List.length_append,dD];omega
end
theorem XQ(kind i:Int):cZ kind i 1=[⟨kind,i,0⟩]:=rfl
theorem th{p q:Prop}(hq:q)(h:p=q:=by
 conv=>lhs;simp -dsimp -implicitDefEqProofs (disch:=first|assumption|omega|(simp only[aH,aQ,dD]<;>omega)|decide) only[aN,↓reduceIte,Nat.reduceEqDiff,Nat.reduceAdd,D.fix,Int.reduceToNat,Nat.reduceMul,Nat.reduceBNe,Nat.reduceBEq,dI,aK,sD,bQ,bw]):p:=h.mpr hq
theorem D8{p q:Prop}(hq:q)(h:p=q:=by
 conv=>lhs;simp -dsimp -implicitDefEqProofs (disch:=first|assumption|omega|(simp only[aH,aQ,dD]<;>omega)|decide) only[aN,↓reduceIte,Nat.reduceEqDiff,Nat.reduceAdd,D.fix,Int.reduceToNat,Nat.reduceMul,Nat.reduceBNe,Nat.reduceBEq,dI,aK,sD,bQ]):p:=h.mpr hq
theorem wb{m:List Nat}{τ τ':Fr}{H H':av}(h2:H=H')(h:fw τ τ':=by
 repeat (first|exact cw _|refine cg ?_ (by first|rfl|(simp[aX,aQ,dD,gW,gM,iN,dD,List.length_append,Nat.add_assoc];done)|simp[aX,aQ,dD,gW,gM,iN,dD,List.length_append,Nat.add_assoc, *]))):Rt m τ H τ' H':=Rt.end h h2
theorem XP{p q r:Prop}(e:r)(hq:q)(h:r→p=q:=by
 intro hY
 conv=>lhs;simp -dsimp -implicitDefEqProofs (disch:=first|assumption|omega|(simp only[aH,aQ,dD]<;>omega)|decide) only[aN,↓reduceIte,Nat.reduceEqDiff,Nat.reduceAdd,D.fix,Int.reduceToNat,Nat.reduceMul,Nat.reduceBNe,Nat.reduceBEq,dI,aK,sD,bQ,bw,hY]):p:=(h e).mpr hq
theorem F1(k:List Nat){m:List Nat}{τ τ1:Fr}{H H1:av}(h:Rt m (fun t=>du k (τ t)) (dg k H) τ1 H1)(a:∀i∈m,k[i]? =some i:=by decide)(b:k.Nodup:=by decide)(c:∀i∈k,i<H.length:=by
 simp[eJ,dg]):Rt m τ H τ1 H1:=Rt.trans (Rt.gc a b c) h
theorem F0{p:Prop}(h:p:=by
 first|rfl|(simp only[cP,Nat.reduceAdd,↓reduceIte,Nat.reduceEqDiff,dI,aK,sD,bQ];first|done|rfl)):p:=h
theorem Jy{p q:Prop}(hq:q)(h:p=q:=by
 conv=>lhs;simp only[cP,Nat.reduceAdd,↓reduceIte,Nat.reduceEqDiff,dI,aK,sD,bQ]):p:=h.mpr hq
theorem jzx(p:Pr)(h:cB p):dq prog 57 [dI p] (.d (bQ (aU p))):=by
 have p7:=h.rl;have vt:=h.tl;have wF:=h.ql
 refine fh (fn:=f57) (by kernel_rfl) func57 rfl (cn rfl) fun c hc hp=>?_
 refine dY (τ':=aF [(0,.d (dI p))]) (by repeat (first|exact cw _|refine cg ?_ (by first|rfl|(simp[aX,aQ,dD,gW,gM,iN,dD,List.length_append,Nat.add_assoc];done)|simp[aX,aQ,dD,gW,gM,iN,dD,List.length_append,Nat.add_assoc, *]))) ?_
 refine ah (th ·) ?_
 refine ah (th ·) ?_
 refine aD fun K3 cm=>?_
 refine ah (D8 ·) ?_
 refine aW ?_
 refine cU hp (fun τ' H' mm=>∃(i:Nat),(i≤p.aC.length)∧mm=p.aC.length - i∧H'=[.cells (ak (aK p)),.cells (ak ((gW p i).flatMap cr))]∧τ'=aF [(1,.op 0 0),(3,.os 3 1 0 (gW p i).length),(4,.d (iD i))]) (p.aC.length) ?_ ⟨0,cF _,rfl,rfl,rfl⟩ ?_
 ·refine wb ?_
  exact F0
 rintro τ' H' mm ⟨i,hi,rfl,rfl,rfl⟩
 refine aD fun K5 dx=>?_
 refine ah (th ·) ?_
 refine bf rfl (fun ht=>?_) (fun ht=>?_)
 ·have aA:i<p.aC.length:=by simp at ht;omega
  have nM:=Kg h aA
  have hle:=LM h i hi
  have m1:=N7 aA
  refine bg (dx _ _ ?_)
  refine aD fun K7 cL=>?_
  refine aW ?_
  refine ah (D8 ·) ?_
  refine aW ?_
  refine cU hp (fun τ' H' mm=>∃(k:Nat),(k≤(nth p.aC i).w)∧mm=(nth p.aC i).w - k∧H'=[.cells (ak (aK p)),.cells (ak ((gW p i++cZ 1 i k).flatMap cr))]∧τ'=aF [(1,.op 0 0),(3,.os 3 1 0 ((gW p i).length+k)),(4,.d (iD i)),(5,.d (iD k))]) ((nth p.aC i).w) ?_ ⟨0,cF _,rfl,rfl,rfl⟩ ?_
  ·refine wb ?_
   first|rfl|(simp[cZ];done)|(simp[cZ];rfl)
  rintro τ' H' mm ⟨k,hk,rfl,rfl,rfl⟩
  refine aD fun K9 cX=>?_
  refine ah (XP m1 ·) ?_
  refine bf rfl (fun ht=>?_) (fun ht=>?_)
  ·have iA:k<(nth p.aC i).w:=by simp at ht;omega
   refine bg (cX _ _ ?_)
   refine aD fun mh cQ=>?_
   refine aW ?_
   refine fj (th ·) (cQ _ _ ?_)
   refine bT hp ax hc rfl fun nV df=>?_
   refine th ?_
   refine df _ _ ⟨_,_,_,?_,⟨k+1,by omega,rfl,rfl,rfl⟩,?_⟩
   ·first|omega|(simp only[List.length_cons];omega)|(dsimp only;omega)
   ·refine F1 [0,3] ?_
    refine wb ?_
    refine Jy ?_;simp[vP,cr,iD,sD,aK,ak]
  ·have bM:k=(nth p.aC i).w:=by simp at ht;omega
   subst bM
   refine cJ (cL _ _ ?_)
   refine bT hp ax hc rfl fun re dT=>?_
   refine th ?_
   refine dT _ _ ⟨_,_,_,?_,⟨i+1,by omega,rfl,rfl,rfl⟩,?_⟩
   ·first|omega|(simp only[List.length_cons];omega)|(dsimp only;omega)
   ·refine F1 [0,1] ?_
    refine wb ?_
    exact F0
 ·have kF:i=p.aC.length:=by simp at ht;omega
  subst kF
  refine cJ (cm _ _ ?_)
  refine aD fun sY eG=>?_
  refine ah (D8 ·) ?_
  refine aW ?_
  refine cU hp (fun τ' H' mm=>∃(i:Nat),(i≤p.ag.length)∧mm=p.ag.length - i∧H'=[.cells (ak (aK p)),.cells (ak ((gM p i).flatMap cr))]∧τ'=aF [(1,.op 0 0),(3,.os 3 1 0 (gM p i).length),(6,.d (iD i))]) (p.ag.length) ?_ ⟨0,cF _,rfl,rfl,rfl⟩ ?_
  ·refine wb ?_
   exact F0
  rintro τ' H' mm ⟨i,hi,rfl,rfl,rfl⟩
  refine aD fun rZ ey=>?_
  refine ah (th ·) ?_
  refine bf rfl (fun ht=>?_) (fun ht=>?_)
  ·have aA:i<p.ag.length:=by simp at ht;omega
   have nM:=N6 h aA
   have hle:=LL h i hi
   have m1:=vE aA
   refine bg (ey _ _ ?_)
   refine aD fun rY eN=>?_
   refine aW ?_
   refine aD fun sX fa=>?_
   refine ah (D8 ·) ?_
   refine aW ?_
   refine cU hp (fun τ' H' mm=>∃(k:Nat),(k≤(nth p.ag i).w)∧mm=(nth p.ag i).w - k∧H'=[.cells (ak (aK p)),.cells (ak ((gM p i++cZ 2 i k).flatMap cr))]∧τ'=aF [(1,.op 0 0),(3,.os 3 1 0 ((gM p i).length+k)),(6,.d (iD i)),(7,.d (iD k))]) ((nth p.ag i).w) ?_ ⟨0,cF _,rfl,rfl,rfl⟩ ?_
   ·refine wb ?_
    first|rfl|(simp[cZ];done)|(simp[cZ];rfl)
   rintro τ' H' mm ⟨k,hk,rfl,rfl,rfl⟩
   refine aD fun yi ik=>?_
   refine ah (XP m1 ·) ?_
   refine bf rfl (fun ht=>?_) (fun ht=>?_)
   ·have iA:k<(nth p.ag i).w:=by simp at ht;omega
    refine bg (ik _ _ ?_)
    refine aD fun yh fG=>?_
    refine aW ?_
    refine fj (th ·) (fG _ _ ?_)
    refine bT hp ax hc rfl fun EJ lE=>?_
    refine th ?_
    refine lE _ _ ⟨_,_,_,?_,⟨k+1,by omega,rfl,rfl,rfl⟩,?_⟩
    ·first|omega|(simp only[List.length_cons];omega)|(dsimp only;omega)
    ·refine F1 [0,3] ?_
     refine wb ?_
     refine Jy ?_;simp[vP,cr,iD,sD,aK,ak]
   ·have bM:k=(nth p.ag i).w:=by simp at ht;omega
    subst bM
    refine cJ (fa _ _ ?_)
    refine fj (th ·) (eN _ _ ?_)
    refine bT hp ax hc rfl fun Bk jX=>?_
    refine th ?_
    refine jX _ _ ⟨_,_,_,?_,⟨i+1,by omega,rfl,rfl,rfl⟩,?_⟩
    ·first|omega|(simp only[List.length_cons];omega)|(dsimp only;omega)
    ·refine F1 [0,3] ?_
     refine wb ?_
     refine Jy ?_;simp[gM,XQ,cr,iD,sD,aK,ak]
  ·have kF:i=p.ag.length:=by simp at ht;omega
   subst kF
   refine cJ (eG _ _ ?_)
   refine aD fun Ir nu=>?_
   refine ah (D8 ·) ?_
   refine aW ?_
   refine cU hp (fun τ' H' mm=>∃(i:Nat),(i≤p.aE.length)∧mm=p.aE.length - i∧H'=[.cells (ak (aK p)),.cells (ak ((iN p i).flatMap cr))]∧τ'=aF [(1,.op 0 0),(3,.os 3 1 0 (iN p i).length),(8,.d (iD i))]) (p.aE.length) ?_ ⟨0,cF _,rfl,rfl,rfl⟩ ?_
   ·refine wb ?_
    exact F0
   rintro τ' H' mm ⟨i,hi,rfl,rfl,rfl⟩
   refine aD fun zC ij=>?_
   refine ah (th ·) ?_
   refine bf rfl (fun ht=>?_) (fun ht=>?_)
   ·have aA:i<p.aE.length:=by simp at ht;omega
    have hle:=jil h i hi
    refine bg (ij _ _ ?_)
    refine aD fun EI lD=>?_
    refine aW ?_
    refine fj (th ·) (lD _ _ ?_)
    refine bT hp ax hc rfl fun CZ kr=>?_
    refine th ?_
    refine kr _ _ ⟨_,_,_,?_,⟨i+1,by omega,rfl,rfl,rfl⟩,?_⟩
    ·first|omega|(simp only[List.length_cons];omega)|(dsimp only;omega)
    ·refine F1 [0,3] ?_
     refine wb ?_
     refine Jy ?_;simp[iN,XQ,cr,iD,sD,aK,ak]
   ·have kF:i=p.aE.length:=by simp at ht;omega
    subst kF
    refine cJ (nu _ _ ?_)
    refine bC hp (τ':=aF [(3,.d (.fs ((iN p p.aE.length).flatMap cr) (iN p p.aE.length).length))]) (H':=[.cells (ak (aK p)),.dead]) ?_ ?_
    ·refine Rt.trans (Rt.fz (id:=1) (l:=((iN p p.aE.length).flatMap cr)) rfl) ?_
     refine Rt.trans (Rt.slot 3 (mU (fE aQ))) ?_
     refine wb ?_
     exact F0
    refine ah (D8 ·) ?_
    refine aM ?_
    show ai _ _=_
    simp (disch:=first|assumption|omega|(simp only[aH,aQ,dD]<;>omega)|decide) only[fA,Nat.reduceAdd,D.fix,↓reduceIte,Nat.reduceEqDiff,dI,aK,sD,bQ]
    rfl
end
def kK(n:Nat)(gs:Gs)(a b l:Nat):AV:=.agg [.d (iD n),.d (bt gs),.os 3 a 0 l,.os 1 b 0 l]
def jc:bB:=.cells [.d (iD 0),.d (.val (.slice none 0 0)),.d (.val (.slice none 0 0)),.d (.val (.slice none 0 0))]
def XO(n:Nat)(r:Re)(w:aT)(ws:List aT)(ds:List Int)(x:AV)(S':av):Prop:=∃a b z,x=kK n r.1 2 3 (ws.length+1)∧S'=[a,b,.cells (ak ((ws++[w]).flatMap cr)),.cells (ak ((ds++[r.2]).map iD)),.cells z]
theorem Gt{p q:Prop}(hq:q)(h:p=q:=by
 conv=>lhs;simp -dsimp -implicitDefEqProofs (disch:=first|assumption|omega|(simp only[aH,aQ]<;>omega)|decide) only[aN,↓reduceIte,Nat.reduceEqDiff,Nat.reduceAdd,D.fix,Int.reduceToNat,Nat.reduceMul,Nat.reduceBNe,Nat.reduceBEq,kK,bt,cr,dG,bw]):p:=h.mpr hq
theorem V3{m:List Nat}{τ τ':Fr}{H H':av}(h2:H=H')(h:fw τ τ':=by
 repeat (first|exact cw _|refine cg ?_ (by first|rfl|(simp[aX,aQ];done)|simp[aX,aQ, *]))):Rt m τ H τ' H':=Rt.end h h2
theorem OF(n:Nat)(gs:Gs)(ws:List aT)(ds:List Int)(w:aT)(r:Re)(hl:ds.length=ws.length)(hw:ws.length≤100000):cY prog [0,1] 61 [kK n gs 0 1 ws.length,.agg ((cr w).map .d),.agg ((dG n r).map .d)] ([.cells (ak (ws.flatMap cr)),.cells (ak (ds.map iD)),.free,.free,.free]) (XO n r w ws ds):=by
 refine fX (fn:=f61) (by kernel_rfl) func61 rfl (cn rfl) fun c hc hp=>?_
 refine tr ?_
 refine ah (Gt ·) ?_
 refine ah (Gt ·) ?_
 refine ah (Gt ·) ?_
 refine ah (Gt ·) ?_
 refine ah (Gt ·) ?_
 refine bC hp (τ':=aF [(6,.op 4 0)]) (H':=[.dead,.dead,.cells (ak ((ws++[w]).flatMap cr)),.cells (ak ((ds++[r.2]).map iD)),.cells [.d (iD n),.d (bt r.1),.os 3 2 0 (ws.length+1),.os 1 3 0 (ws.length+1)]]) ?_ ?_
 ·refine Rt.trans (Rt.gc (keep:=[0,1,10,12,8]) (by decide) (by decide) (by simp[eJ,dg])) ?_
  refine V3 ?_
  simp only[cP,Nat.reduceAdd,↓reduceIte,Nat.reduceEqDiff,kK,bt,cr,dG];simp[cr,iD]
 refine aM ?_
 try dsimp only[cC,cI]
 refine cS rfl ?_
 simp -dsimp -implicitDefEqProofs (disch:=first|assumption|omega|(simp only[aH,aQ]<;>omega)|decide) only[aN,↓reduceIte,Nat.reduceEqDiff,Nat.reduceAdd,D.fix,Int.reduceToNat,Nat.reduceMul,Nat.reduceBNe,Nat.reduceBEq,kK,bt,cr,dG,Fg,Ff]
 show ∃_,_
 exact⟨_,_,_,by simp[kK,iD,bt,hl],rfl⟩
theorem Gr{p q:Prop}(hq:q)(h:p=q:=by
 conv=>lhs;simp -dsimp -implicitDefEqProofs (disch:=first|assumption|omega|(simp only[aH,aQ]<;>omega)|decide) only[aN,↓reduceIte,Nat.reduceEqDiff,Nat.reduceAdd,D.fix,Int.reduceToNat,Nat.reduceMul,Nat.reduceBNe,Nat.reduceBEq,dy,kK,bt,cr,dG,bw]):p:=h.mpr hq
theorem KO(n:Nat)(gs:Gs)(ws:List aT)(ds:List Int)(w:aT)(r:Re)(hl:ds.length=ws.length)(hw:ws.length≤100000):cY prog [0,1] 61 [kK n gs 0 1 ws.length,.agg ((cr w).map .d),.d (dy n r)] ([.cells (ak (ws.flatMap cr)),.cells (ak (ds.map iD)),.free,.free,.free]) (XO n r w ws ds):=by
 refine fX (fn:=f61) (by kernel_rfl) func61 rfl (cn rfl) fun c hc hp=>?_
 refine tr ?_
 refine ah (Gr ·) ?_
 refine ah (Gr ·) ?_
 refine ah (Gr ·) ?_
 refine ah (Gr ·) ?_
 refine ah (Gr ·) ?_
 refine bC hp (τ':=aF [(6,.op 4 0)]) (H':=[.dead,.dead,.cells (ak ((ws++[w]).flatMap cr)),.cells (ak ((ds++[r.2]).map iD)),.cells [.d (iD n),.d (bt r.1),.os 3 2 0 (ws.length+1),.os 1 3 0 (ws.length+1)]]) ?_ ?_
 ·refine Rt.trans (Rt.gc (keep:=[0,1,10,12,8]) (by decide) (by decide) (by simp[eJ,dg])) ?_
  refine V3 ?_
  simp only[cP,Nat.reduceAdd,↓reduceIte,Nat.reduceEqDiff,dy,kK,bt,cr,dG];simp[cr,iD]
 refine aM ?_
 try dsimp only[cC,cI]
 refine cS rfl ?_
 simp -dsimp -implicitDefEqProofs (disch:=first|assumption|omega|(simp only[aH,aQ]<;>omega)|decide) only[aN,↓reduceIte,Nat.reduceEqDiff,Nat.reduceAdd,D.fix,Int.reduceToNat,Nat.reduceMul,Nat.reduceBNe,Nat.reduceBEq,dy,kK,bt,cr,dG,Fg,Ff]
 show ∃_,_
 exact⟨_,_,_,by simp[kK,iD,bt,hl],rfl⟩
theorem BV{α:Type}[Inhabited α]{f:α→List D}{w:Nat}(hw:∀a,(f a).length=w){l:List α}{k off n:Nat}(hk:k<l.length)(ho:off+n≤w):ec (l.flatMap f) (k*w+off) n=some (((f (nth l k)).drop off).take n):=by
 have e1:(l.flatMap f).drop (k*w+off)=((f (nth l k)).drop off)++(l.drop (k+1)).flatMap f:=by
  rw[←List.drop_drop,Fm hw,o7 hk,List.drop_eq_getElem_cons hk,List.flatMap_cons,List.drop_append_of_le_length (by rw[hw];omega)]
 unfold ec
 rw[if_pos (by
  rw[o9 hw]
  have:=Nat.mul_le_mul_right w (show k+1≤l.length from hk)
  rw[Nat.add_mul]at this;omega),e1,List.take_append_of_le_length (by rw[List.length_drop,hw];omega)]
theorem xv{l:List kg}{k:Nat}(h:k<l.length):ec (l.flatMap qJ) (k*9+2) 7=some (bR (nth l k).wh):=by
 rw[BV r8 h (by omega)]
 show some ((bR (nth l k).wh).take 7)=_
 rw[ui (by rw[lg];omega)]
theorem xu{l:List mg}{k:Nat}(h:k<l.length):ec (l.flatMap rO) (k*16+2) 7=some (bR (nth l k).wh):=by
 rw[BV mS h (by omega)]
 show some (((bR (nth l k).wh)++bR (nth l k).da).take 7)=_
 rw[List.take_append_of_le_length (by rw[lg];omega),ui (by rw[lg];omega)]
theorem xt{l:List mg}{k:Nat}(h:k<l.length):ec (l.flatMap rO) (k*16+9) 7=some (bR (nth l k).da):=by
 rw[BV mS h (by omega)]
 show some ((((bR (nth l k).wh)++bR (nth l k).da).drop 7).take 7)=_
 rw[List.drop_append_of_le_length (by rw[lg];omega),List.drop_of_length_le (by rw[lg];omega),List.nil_append,ui (by rw[lg];omega)]
theorem Da{l:List mf}{k:Nat}(h:k<l.length):ec (l.flatMap nf) (k*13+3) 7=some (bR (nth l k).next):=by
 rw[BV qk h (by omega)]
 show some (((bR (nth l k).next)++_).take 7)=_
 rw[List.take_append_of_le_length (by rw[lg];omega),ui (by rw[lg];omega)]
theorem jsw{c:Ct}{cG:Int→Nat→Nat→Int}{m:Nat}{d d':List (List Int)}(e:Ex):∀gs,WT c false e→dN c cG m d gs e=dN c cG m d' gs e:=by
 induction e with
 |ny v w=>intro gs h;rfl
 |gQ i=>intro gs h;rfl
 |fo i=>intro gs h;exact absurd h.1 (by simp)
 |not a ic=>intro gs h;simp only[dN];rw[ic _ h]
 |two o a b ic ly=>intro gs h;simp only[dN];rw[ic _ h.2.1,ly _ h.2.2.1]
 |add a b ic ly=>intro gs h;simp only[dN];rw[ic _ h.1,ly _ h.2.1]
 |sub a b ic ly=>intro gs h;simp only[dN];rw[ic _ h.1,ly _ h.2.1]
 |eq a b ic ly=>intro gs h;simp only[dN];rw[ic _ h.1,ly _ h.2.1]
 |lt a b ic ly=>intro gs h;simp only[dN];rw[ic _ h.1,ly _ h.2.1]
 |oq a b d ic ly O7=>intro gs h;simp only[dN];rw[ic _ h.1,ly _ h.2.1,O7 _ h.2.2.1]
 |cat a b ic ly=>intro gs h;simp only[dN];rw[ic _ h.1,ly _ h.2.1]
 |oJ k w a ic=>intro gs h;simp only[dN];rw[ic _ h.1]
 |ext w a ic=>intro gs h;simp only[dN];rw[ic _ h.1]
 |rd k a ic=>intro gs h;simp only[dN];rw[ic _ h.1]
def km(p:Pr)(k:Nat):Re:=if k≤p.ag.length then pR p k else qx p (k - p.ag.length)
theorem jsx{p:Pr}{k:Nat}(h:k<p.ag.length):km p (k+1)=zP (mP p) (km p k).1 (km p k).2 (nth (iE p) k) (cG p 3 k 0):=by
 unfold km iE
 rw[if_pos (by omega),if_pos (by omega),pR]
theorem jsy{p:Pr}{k:Nat}(h:p.ag.length≤k):km p (k+1)=zP (mP p) (km p k).1 (km p k).2 (nth (iC p) (k - p.ag.length)) (cG p 4 (k - p.ag.length) 0):=by
 have e:km p k=qx p (k - p.ag.length):=by
  unfold km
  by_cases hk:k≤p.ag.length
  ·have:k=p.ag.length:=by omega
   subst this
   rw[if_pos (bJ _),Nat.sub_self];rfl
  ·rw[if_neg hk]
 rw[e]
 unfold km iC
 rw[if_neg (by omega),show k+1 - p.ag.length=(k - p.ag.length)+1 by omega,qx]
theorem jiq{p:Pr}:km p (p.ag.length+p.aE.length)=qx p p.aE.length:=by
 unfold km
 by_cases hk:p.aE.length=0
 ·rw[if_pos (by omega),hk];rfl
 ·rw[if_neg (by omega),Nat.add_sub_cancel_left]
theorem jc3{p:Pr}(h:cB p){k:Nat}(hk:k≤p.ag.length+p.aE.length):Rs (mP p) (3*p.ag.length+3*p.aE.length) (jf p p.aE.length).gs (km p k):=by
 unfold km
 split
 ·rename_i hl;exact(IG h k hl).mono (by omega)
 ·exact(BP h (k - p.ag.length) (by omega)).mono (by omega)
def ia(p:Pr):List D:=[iD (aU p).length,bt (qx p p.aE.length).1,ae (iE p),ae (iC p),ao (bU p),iD (ft p)]
def qi:bB:=.cells [.d (iD 0),.d (.val (.slice none 0 0)),.d (.val (.slice none 0 0)),.d (.val (.slice none 0 0)),.d (.val (.slice none 0 0)),.d (iD 0)]
theorem jq{p q:Prop}(hq:q)(h:p=q:=by
 conv=>lhs;simp -dsimp -implicitDefEqProofs (disch:=first|assumption|omega|(simp only[aH,aQ,dD]<;>omega)|decide) only[aN,↓reduceIte,Nat.reduceEqDiff,Nat.reduceAdd,D.fix,Int.reduceToNat,Nat.reduceMul,Nat.reduceBNe,Nat.reduceBEq,ae,ao,qi,dI,aK,sD,dy,dG,gI,cM,bt,bQ,xv,vE,xu,bw]):p:=h.mpr hq
theorem Kf{p q:Prop}(hq:q)(h:p=q:=by
 conv=>lhs;simp -dsimp -implicitDefEqProofs (disch:=first|assumption|omega|(simp only[aH,aQ,dD]<;>omega)|decide) only[aN,↓reduceIte,Nat.reduceEqDiff,Nat.reduceAdd,D.fix,Int.reduceToNat,Nat.reduceMul,Nat.reduceBNe,Nat.reduceBEq,ae,ao,qi,dI,aK,sD,dy,dG,gI,cM,bt,bQ,xv,vE,xu]):p:=h.mpr hq
theorem xY{m:List Nat}{τ τ':Fr}{H H':av}(h2:H=H')(h:fw τ τ':=by
 repeat (first|exact cw _|refine cg ?_ (by first|rfl|(simp[aX,aQ,dD];done)|simp[aX,aQ,dD, *]))):Rt m τ H τ' H':=Rt.end h h2
theorem uV{p q r:Prop}(e:r)(hq:q)(h:r→p=q:=by
 intro hY
 conv=>lhs;simp -dsimp -implicitDefEqProofs (disch:=first|assumption|omega|(simp only[aH,aQ,dD]<;>omega)|decide) only[aN,↓reduceIte,Nat.reduceEqDiff,Nat.reduceAdd,D.fix,Int.reduceToNat,Nat.reduceMul,Nat.reduceBNe,Nat.reduceBEq,ae,ao,qi,dI,aK,sD,dy,dG,gI,cM,bt,bQ,xv,vE,xu,bw,hY]):p:=(h e).mpr hq
theorem AF(k:List Nat){m:List Nat}{τ τ1:Fr}{H H1:av}(h:Rt m (fun t=>du k (τ t)) (dg k H) τ1 H1)(a:∀i∈m,k[i]? =some i:=by decide)(b:k.Nodup:=by decide)(c:∀i∈k,i<H.length:=by
 simp[eJ,dg]):Rt m τ H τ1 H1:=Rt.trans (Rt.gc a b c) h
theorem X3{p q r:Prop}(e:r)(hq:q)(h:r→p=q:=by
 intro hY
 conv=>lhs;simp -dsimp -implicitDefEqProofs (disch:=first|assumption|omega|(simp only[aH,aQ,dD]<;>omega)|decide) only[aN,↓reduceIte,Nat.reduceEqDiff,Nat.reduceAdd,D.fix,Int.reduceToNat,Nat.reduceMul,Nat.reduceBNe,Nat.reduceBEq,ae,ao,qi,dI,aK,sD,dy,dG,gI,cM,bt,bQ,xv,vE,xu,←uH,bw,hY]):p:=(h e).mpr hq
theorem F7{p:Prop}(h:p:=by
 first|rfl|(simp only[cP,Nat.reduceAdd,↓reduceIte,Nat.reduceEqDiff,ae,ao,qi,dI,aK,sD,dy,dG,gI,cM,bt,bQ,xv,vE,xu];first|done|rfl)):p:=h
theorem F6{p q:Prop}(hq:q)(h:p=q:=by
 conv=>lhs;simp only[cP,Nat.reduceAdd,↓reduceIte,Nat.reduceEqDiff,ae,ao,qi,dI,aK,sD,dy,dG,gI,cM,bt,bQ,xv,vE,xu]):p:=h.mpr hq
theorem jsz(p:Pr)(h:cB p)(hn:(aU p).length≤1000):dq prog 58 [dI p,bQ (aU p)] (.d (.agg (ia p))):=by
 have p7:=h.rl;have vt:=h.tl;have wF:=h.ql;have fT:=h.cl
 have hm:mP p=2+(aU p).length:=rfl
 refine fh (fn:=f58) (by kernel_rfl) func58 rfl (cn rfl) fun c hc hp=>?_
 refine dY (τ':=aF [(0,.d (dI p)),(1,.d (bQ (aU p)))]) (by repeat (first|exact cw _|refine cg ?_ (by first|rfl|(simp[aX,aQ,dD];done)|simp[aX,aQ,dD, *]))) ?_
 refine ah (jq ·) ?_
 refine ah (jq ·) ?_
 refine aD fun K3 cm=>?_
 refine ah (Kf ·) ?_
 refine aW ?_
 refine cU hp (fun τ' H' mm=>∃(i:Nat),(i≤p.ag.length)∧mm=p.ag.length - i∧H'=[.cells (ak (aK p)),qi,.cells [.d (iD (aU p).length),.d (bt (eU p i).gs),.os 1 3 0 i,.d (.val (.slice none 0 0)),.os 1 4 0 i,.d (iD 1)],.cells (ak ((eU p i).ag.map iD)),.cells (ak ((eU p i).data.map ae))]∧τ'=aF [(1,.d (bQ (aU p))),(2,.op 0 0),(4,.op 1 0),(5,.op 2 0),(6,.d (iD i))]) (p.ag.length) ?_ ⟨0,cF _,rfl,rfl,rfl⟩ ?_
 ·refine Rt.trans (Rt.px 2 1 rfl rfl) ?_
  refine Rt.trans (Rt.fm 2 2 1 rfl rfl) ?_
  refine Rt.trans (Rt.fm 2 4 1 rfl rfl) ?_
  refine xY ?_
  exact F7
 rintro τ' H' mm ⟨i,hi,rfl,rfl,rfl⟩
 refine aD fun K5 dx=>?_
 refine ah (jq ·) ?_
 refine bf rfl (fun ht=>?_) (fun ht=>?_)
 ·have aA:i<p.ag.length:=by simp at ht;omega
  have hk:=vb h i hi
  have hs:=OM h aA hk
  have cu:=h.tw i aA
  have vw:=Z9 (p:=p) (k:=i+1) (by omega)
  rw[vx]at vw
  have hle:=hk.len
  have hb:=BH p h false [] hn (nth p.ag i).wh (eU p i).gs hk.gi (by omega) ⟨fun e=>(by cases e),fun e=>(by cases e),fun e=>(by cases e)⟩ cu.1
  rw[show dW p [] (eU p i).gs (nth p.ag i).wh=dW p (eU p i).data (eU p i).gs (nth p.ag i).wh from jsw _ _ cu.1]at hb
  obtain⟨r,hr⟩:∃r,r=dW p (eU p i).data (eU p i).gs (nth p.ag i).wh:=⟨_,rfl⟩
  obtain⟨kD,rR⟩:=hs
  rw[←hr]at hb kD rR
  have tI:=kD.wid
  have Pp:=hk.tl;have hdl2:=hk.dl
  have g0:(r.2.map iD)[0]? =some (iD (nth r.2 0)):=db (by omega)
  obtain⟨st,cd⟩:∃st:Gs→Nat→Re,st=fun gs k=>dj (mP p) gs (nth r.2 0) (cG p 2 i k):=⟨_,rfl⟩
  rw[←cd]at rR
  have nM:=N6 h aA
  have jB:∀k,k≤(nth p.ag i).w→Bs (mP p) (1*k) k r.1 (bL st r.1 k):=fun k hk=>by
   rw[cd]
   exact kz kD.gi fun j hj fH uz mL=>rK nL mL (kD.at uz (by decide)) (tY (KU aA (by omega)) _)
  have et:eU p (i+1)=⟨(bL st r.1 (nth p.ag i).w).1,(eU p i).ag++[nth r.2 0],(eU p i).data++[(bL st r.1 (nth p.ag i).w).2]⟩:=by rw[cd,hr,eU]
  have Ld:=kD.len
  clear hr
  refine bg (dx _ _ ?_)
  refine aD fun K7 cL=>?_
  refine aW ?_
  refine dO ax hc mixed rfl (q:=1) (by kernel_rfl) (by kernel_rfl) fun K8 dP=>?_
  refine jq ?_
  refine bx (hb) rfl ?_
  refine jq ?_
  refine dP _ _ ?_
  refine ah (jq ·) ?_
  refine dO ax hc mixed rfl (q:=2) (by kernel_rfl) (by kernel_rfl) fun j4 bW=>?_
  refine uV g0 ?_
  refine bW _ _ ?_
  refine ah (jq ·) ?_
  refine aD fun lK bN=>?_
  refine ah (Kf ·) ?_
  refine aW ?_
  refine cU hp (fun τ' H' mm=>∃(k:Nat),(k≤(nth p.ag i).w)∧mm=(nth p.ag i).w - k∧H'=[.cells (ak (aK p)),qi,.cells [.d (iD (aU p).length),.d (bt (bL st r.1 k).1),.os 1 3 0 (i+1),.d (.val (.slice none 0 0)),.os 1 4 0 i,.d (iD 1)],.cells (ak ((eU p i).ag.map iD++[iD (nth r.2 0)])),.cells (ak ((eU p i).data.map ae)),.cells (ak (cM (aU p).length r)),.cells (ak ((bL st r.1 k).2.map iD))]∧τ'=aF [(1,.d (bQ (aU p))),(2,.op 0 0),(4,.op 1 0),(5,.op 2 0),(6,.d (iD i)),(7,.op 5 0),(8,.os 1 6 0 k),(9,.d (iD k))]) ((nth p.ag i).w) ?_ ⟨0,cF _,rfl,rfl,rfl⟩ ?_
  ·refine AF [0,1,2,7,4,5,8] ?_
   refine xY ?_
   exact F7
  rintro τ' H' mm ⟨k,qQ,rfl,rfl,rfl⟩
  refine aD fun re dT=>?_
  refine ah (jq ·) ?_
  refine bf rfl (fun ht=>?_) (fun ht=>?_)
  ·have iA:k<(nth p.ag i).w:=by simp at ht;omega
   have pq:=jB k qQ
   have hlk2:=pq.len
   have Cj:=pq.wid
   have fk:=KU aA iA
   have ni:=E2 (aU p) ⟨2,(i:Int),(k:Int)⟩ (by omega) fk
   have uE:=(yE fk).1
   have e2:(2:Int)+((kL ⟨2,(i:Int),(k:Int)⟩ (aU p):Nat):Int)=cG p 2 i k:=by unfold cG;omega
   have hand:=u4 (aU p).length (bL st r.1 k).1 (nth r.2 0) (cG p 2 i k) (by omega) (by omega) pq.gi (kD.at pq.pre (by decide)) (tY fk _)
   rw[show dj (2+(aU p).length) (bL st r.1 k).1 (nth r.2 0) (cG p 2 i k)=st (bL st r.1 k).1 k by rw[cd];rfl]at hand
   clear cd
   refine bg (dT _ _ ?_)
   refine aD fun pE dB=>?_
   refine aW ?_
   refine dO ax hc mixed rfl (q:=1) (by kernel_rfl) (by kernel_rfl) fun rZ ey=>?_
   refine uV (aw g0 e2) ?_
   refine bx (ni) rfl ?_
   refine uV (aw g0 e2) ?_
   refine bx (hand) rfl ?_
   refine uV (aw g0 e2) ?_
   refine ey _ _ ?_
   refine ah (jq ·) ?_
   refine fj (jq ·) (dB _ _ ?_)
   refine bT hp ax hc rfl fun sX fa=>?_
   refine jq ?_
   refine fa _ _ ⟨_,_,_,?_,⟨k+1,by omega,rfl,rfl,rfl⟩,?_⟩
   ·first|omega|(simp only[List.length_cons];omega)|(dsimp only;omega)
   ·refine AF [0,1,2,3,4,5,9] ?_
    refine xY ?_
    refine F6 ?_;simp[bL,iD,cM,aK,ak,sD]
  ·have bM:k=(nth p.ag i).w:=by simp at ht;omega
   subst bM
   have Cj:=(jB _ (bJ _)).wid
   refine cJ (bN _ _ ?_)
   refine bC hp (τ':=aF [(1,.d (bQ (aU p))),(2,.op 0 0),(4,.op 1 0),(5,.op 2 0),(6,.d (iD i)),(8,.d (.fs ((bL st r.1 (nth p.ag i).w).2.map iD) (nth p.ag i).w))]) (H':=[.cells (ak (aK p)),qi,.cells [.d (iD (aU p).length),.d (bt (bL st r.1 (nth p.ag i).w).1),.os 1 3 0 (i+1),.d (.val (.slice none 0 0)),.os 1 4 0 i,.d (iD 1)],.cells (ak ((eU p i).ag.map iD++[iD (nth r.2 0)])),.cells (ak ((eU p i).data.map ae)),.cells (ak (cM (aU p).length r)),.dead]) ?_ ?_
   ·refine Rt.trans (Rt.fz (id:=6) (l:=((bL st r.1 (nth p.ag i).w).2.map iD)) rfl) ?_
    refine Rt.trans (Rt.slot 8 (mU (fE (by simp[Cj])))) ?_
    refine xY ?_
    exact F7
   refine fj (jq ·) (cL _ _ ?_)
   refine bT hp ax hc rfl fun yi ik=>?_
   refine jq ?_
   refine ik _ _ ⟨_,_,_,?_,⟨i+1,by omega,rfl,rfl,rfl⟩,?_⟩
   ·first|omega|(simp only[List.length_cons];omega)|(dsimp only;omega)
   ·refine AF [0,1,2,3,8] ?_
    refine xY ?_
    refine F6 ?_;simp[et,iD,ae,Cj,aK,ak,sD]
 ·have kF:i=p.ag.length:=by simp at ht;omega
  subst kF
  have hk:=vb h _ (bJ _)
  have Cn:=hk.tl;have Cz:=hk.dl
  have et:iE p=(eU p p.ag.length).ag:=rfl
  have ed:bU p=(eU p p.ag.length).data:=rfl
  refine cJ (cm _ _ ?_)
  refine aD fun vA fM=>?_
  refine ah (Kf ·) ?_
  refine aW ?_
  refine cU hp (fun τ' H' mm=>∃(i:Nat),(i≤p.aE.length)∧mm=p.aE.length - i∧H'=[.cells (ak (aK p)),qi,.cells [.d (iD (aU p).length),.d (bt (jf p i).gs),.d (ae (iE p)),.os 1 3 0 i,.d (ao (bU p)),.d (iD 1)],.cells (ak ((jf p i).aE.map iD))]∧τ'=aF [(1,.d (bQ (aU p))),(2,.op 0 0),(4,.op 1 0),(5,.op 2 0),(11,.d (iD i))]) (p.aE.length) ?_ ⟨0,cF _,rfl,rfl,rfl⟩ ?_
  ·refine Rt.trans (Rt.fz (id:=3) (l:=((eU p p.ag.length).ag.map iD)) rfl) ?_
   refine Rt.trans (Rt.heap (H':=[.cells (ak (aK p)),qi,.cells [.d (iD (aU p).length),.d (bt (eU p p.ag.length).gs),.d (.fs ((eU p p.ag.length).ag.map iD) p.ag.length),.d (.val (.slice none 0 0)),.os 1 4 0 p.ag.length,.d (iD 1)],.dead,.cells (ak ((eU p p.ag.length).data.map ae))]) (by simp only[cP,Nat.reduceAdd,↓reduceIte,Nat.reduceEqDiff,ae,ao,qi,dI,aK,sD,dy,dG,gI,cM,bt,bQ,xv,vE,xu,fE,Cn,Cz,List.length_map];first|done|rfl)) ?_
   refine Rt.trans (Rt.fz (id:=4) (l:=((eU p p.ag.length).data.map ae)) rfl) ?_
   refine Rt.trans (Rt.heap (H':=[.cells (ak (aK p)),qi,.cells [.d (iD (aU p).length),.d (bt (eU p p.ag.length).gs),.d (.fs ((eU p p.ag.length).ag.map iD) p.ag.length),.d (.val (.slice none 0 0)),.d (.fs ((eU p p.ag.length).data.map ae) p.ag.length),.d (iD 1)],.dead,.dead]) (by simp only[cP,Nat.reduceAdd,↓reduceIte,Nat.reduceEqDiff,ae,ao,qi,dI,aK,sD,dy,dG,gI,cM,bt,bQ,xv,vE,xu,fE,Cn,Cz,List.length_map];first|done|rfl)) ?_
   refine Rt.trans (Rt.fm 2 3 1 rfl rfl) ?_
   refine AF [0,1,2,5] ?_
   refine xY ?_
   refine F6 ?_;simp[et,ed,ae,ao,Cn,Cz,jf,aK,ak,sD,iD]
  rintro τ' H' mm ⟨i,hi,rfl,rfl,rfl⟩
  refine aD fun C0 jY=>?_
  refine ah (jq ·) ?_
  refine bf rfl (fun ht=>?_) (fun ht=>?_)
  ·have aA:i<p.aE.length:=by simp at ht;omega
   have hq:=tX h i hi
   have hs:=Oh h aA hq
   have cu:=h.qw i aA
   have vw:=ER (p:=p) (k:=i+1) (by omega)
   rw[uP]at vw
   have hle:=hq.len
   have hb:=BH p h true (bU p) hn (nth p.aE i).wh (jf p i).gs hq.gi (by omega) (yw h hq.pre) cu.1
   obtain⟨r,hr⟩:∃r,r=dW p (bU p) (jf p i).gs (nth p.aE i).wh:=⟨_,rfl⟩
   rw[←hr]at hb hs
   have tI:=hs.wid
   have PA:=hq.ql
   have g0:(r.2.map iD)[0]? =some (iD (nth r.2 0)):=db (by omega)
   have ep:jf p (i+1)=⟨r.1,(jf p i).aE++[nth r.2 0]⟩:=by rw[hr,jf];rfl
   clear hr
   refine bg (jY _ _ ?_)
   refine aD fun Is nv=>?_
   refine aW ?_
   refine dO ax hc mixed rfl (q:=1) (by kernel_rfl) (by kernel_rfl) fun Bk jX=>?_
   refine jq ?_
   refine bx (hb) rfl ?_
   refine jq ?_
   refine jX _ _ ?_
   refine ah (jq ·) ?_
   refine z8 ax hc mixed rfl (q:=2) (by kernel_rfl) (by kernel_rfl) fun Bj jE=>?_
   refine uV g0 ?_
   refine jE _ _ (nv _ _ ?_)
   refine bT hp ax hc rfl fun zC ij=>?_
   refine jq ?_
   refine ij _ _ ⟨_,_,_,?_,⟨i+1,by omega,rfl,rfl,rfl⟩,?_⟩
   ·first|omega|(simp only[List.length_cons];omega)|(dsimp only;omega)
   ·refine AF [0,1,2,6] ?_
    refine xY ?_
    refine F6 ?_;simp[ep,iD,aK,ak,sD]
  ·have kF:i=p.aE.length:=by simp at ht;omega
   subst kF
   have hq:=tX h _ (bJ _)
   have Pz:=hq.ql
   have QL:iC p=(jf p p.aE.length).aE:=rfl
   refine cJ (fM _ _ ?_)
   refine aD fun QX sV=>?_
   refine ah (Kf ·) ?_
   refine aW ?_
   refine cU hp (fun τ' H' mm=>∃(i:Nat),(i≤p.ag.length+p.aE.length)∧mm=p.ag.length+p.aE.length - i∧H'=[.cells (ak (aK p)),qi,.cells [.d (iD (aU p).length),.d (bt (km p i).1),.d (ae (iE p)),.d (ae (iC p)),.d (ao (bU p)),.d (iD (km p i).2)]]∧τ'=aF [(1,.d (bQ (aU p))),(2,.op 0 0),(4,.op 1 0),(5,.op 2 0),(13,.d (iD i))]) (p.ag.length+p.aE.length) ?_ ⟨0,cF _,rfl,rfl,rfl⟩ ?_
   ·refine Rt.trans (Rt.fz (id:=3) (l:=((jf p p.aE.length).aE.map iD)) rfl) ?_
    refine AF [0,1,2] ?_
    refine xY ?_
    refine F6 ?_;simp[QL,ae,ao,Pz,aK,ak,sD,iD,fE,km,pR,du]
   rintro τ' H' mm ⟨i,hi,rfl,rfl,rfl⟩
   refine aD fun Bi jD=>?_
   refine ah (jq ·) ?_
   refine bf rfl (fun ht=>?_) (fun ht=>?_)
   ·have aA:i<p.ag.length+p.aE.length:=by simp at ht;omega
    have hle:=hq.len
    have vw:=ER (p:=p) (k:=p.aE.length) (by omega)
    refine bg (jD _ _ ?_)
    refine aD fun K36 uO=>?_
    refine aW ?_
    refine ah (jq ·) ?_
    refine aD fun Iq ns=>?_
    refine ah (jq ·) ?_
    refine bf rfl (fun ht=>?_) (fun ht=>?_)
    ·have gL:i<p.ag.length:=by simp at ht;omega
     have gl:i<(iE p).length:=by rw[et];omega
     have g1:((iE p).map iD)[i]? =some (iD (nth (iE p) i)):=db (by rw[et];omega)
     have fk:=O6 (p:=p) (i:=i) (by omega)
     have ni:=E2 (aU p) ⟨3,((i:Nat):Int),((0:Nat):Int)⟩ (by omega) fk
     have uE:=(yE fk).1
     have e2:(2:Int)+((kL ⟨3,((i:Nat):Int),((0:Nat):Int)⟩ (aU p):Nat):Int)=cG p 3 i 0:=by unfold cG;omega
     obtain⟨due,uH⟩:∃due,due=nth (iE p) i:=⟨_,rfl⟩
     obtain⟨x,hx⟩:∃x,x=cG p 3 i 0:=⟨_,rfl⟩
     have y4:=tY (p:=p) fk (km p i).1
     rw[←hx]at y4 e2
     have ef:=jsx (p:=p) (k:=i) (by omega)
     rw[←uH,←hx]at ef
     have hf:=jc3 h hi
     have Ew:=hf.len
     have CA:bm (mP p) (km p i).1 due:=by rw[uH];exact(hk.tn i (by omega)).pre (hq.pre.trans hf.pre)
     have c1:=zV (aU p).length (km p i).1 due (by omega) (by omega) CA
     obtain⟨A,hA⟩:∃A,A=dH (mP p) (km p i).1 due:=⟨_,rfl⟩
     have ra:=oH (m:=mP p) nL hf.gi CA
     rw[←hm,←hA]at c1;rw[←hA]at ra
     have la:=ra.len
     have c2:=D9 (aU p).length A.1 A.2 x (by omega) (by omega) ra.gi ra.nd (y4.pre ra.pre)
     obtain⟨B,hB⟩:∃B,B=iM (mP p) A.1 A.2 x:=⟨_,rfl⟩
     have rb:=yp (m:=mP p) nL ra.gi ra.nd (y4.pre ra.pre)
     rw[←hm,←hB]at c2;rw[←hB]at rb
     have lb:=rb.len
     have c3:=u4 (aU p).length B.1 (km p i).2 B.2 (by omega) (by omega) rb.gi (hf.nd.pre (ra.pre.trans rb.pre)) rb.nd
     rw[←hm,show dj (mP p) B.1 (km p i).2 B.2=km p (i+1) by rw[ef,hB,hA];rfl]at c3
     clear hA hB ef hx
     refine ah (X3 g1 ·) ?_
     refine fj (jq ·) (ns _ _ ?_)
     refine aZ hp ax hc rfl fun Io np=>?_
     refine jq ?_
     refine bx (c1) rfl ?_
     refine jq ?_
     refine np _ _ ?_
     refine dO ax hc mixed rfl (q:=1) (by kernel_rfl) (by kernel_rfl) fun EH lC=>?_
     refine uV e2 ?_
     refine bx (ni) rfl ?_
     refine uV e2 ?_
     refine bx (c2) rfl ?_
     refine uV e2 ?_
     refine lC _ _ ?_
     refine aZ hp ax hc rfl fun K44 wS=>?_
     refine jq ?_
     refine bx (c3) rfl ?_
     refine jq ?_
     refine wS _ _ ?_
     refine ah (jq ·) ?_
     refine fj (jq ·) (uO _ _ ?_)
     refine bT hp ax hc rfl fun CY jC=>?_
     refine jq ?_
     refine jC _ _ ⟨_,_,_,?_,⟨i+1,by omega,rfl,rfl,rfl⟩,?_⟩
     ·first|omega|(simp only[List.length_cons];omega)|(dsimp only;omega)
     ·refine AF [0,1,2] ?_
      refine xY ?_
      exact F7
    ·have gL:p.ag.length≤i:=by simp at ht;omega
     have e0:(i:Int) - (p.ag.length:Int)=((i - p.ag.length:Nat):Int):=by omega
     have gl:i - p.ag.length<(iC p).length:=by rw[QL];omega
     have g1:((iC p).map iD)[i - p.ag.length]? =some (iD (nth (iC p) (i - p.ag.length))):=db (by rw[QL];omega)
     have fk:=O5 (p:=p) (i:=(i - p.ag.length)) (by omega)
     have ni:=E2 (aU p) ⟨4,(((i - p.ag.length):Nat):Int),((0:Nat):Int)⟩ (by omega) fk
     have uE:=(yE fk).1
     have e2:(2:Int)+((kL ⟨4,(((i - p.ag.length):Nat):Int),((0:Nat):Int)⟩ (aU p):Nat):Int)=cG p 4 (i - p.ag.length) 0:=by unfold cG;omega
     obtain⟨due,uH⟩:∃due,due=nth (iC p) (i - p.ag.length):=⟨_,rfl⟩
     obtain⟨x,hx⟩:∃x,x=cG p 4 (i - p.ag.length) 0:=⟨_,rfl⟩
     have y4:=tY (p:=p) fk (km p i).1
     rw[←hx]at y4 e2
     have ef:=jsy (p:=p) (k:=i) (by omega)
     rw[←uH,←hx]at ef
     have hf:=jc3 h hi
     have Ew:=hf.len
     have CA:bm (mP p) (km p i).1 due:=by rw[uH];exact(hq.qn (i - p.ag.length) (by omega)).pre hf.pre
     have c1:=zV (aU p).length (km p i).1 due (by omega) (by omega) CA
     obtain⟨A,hA⟩:∃A,A=dH (mP p) (km p i).1 due:=⟨_,rfl⟩
     have ra:=oH (m:=mP p) nL hf.gi CA
     rw[←hm,←hA]at c1;rw[←hA]at ra
     have la:=ra.len
     have c2:=D9 (aU p).length A.1 A.2 x (by omega) (by omega) ra.gi ra.nd (y4.pre ra.pre)
     obtain⟨B,hB⟩:∃B,B=iM (mP p) A.1 A.2 x:=⟨_,rfl⟩
     have rb:=yp (m:=mP p) nL ra.gi ra.nd (y4.pre ra.pre)
     rw[←hm,←hB]at c2;rw[←hB]at rb
     have lb:=rb.len
     have c3:=u4 (aU p).length B.1 (km p i).2 B.2 (by omega) (by omega) rb.gi (hf.nd.pre (ra.pre.trans rb.pre)) rb.nd
     rw[←hm,show dj (mP p) B.1 (km p i).2 B.2=km p (i+1) by rw[ef,hB,hA];rfl]at c3
     clear hA hB ef hx
     refine ah (X3 (aw e0 g1) ·) ?_
     refine fj (uV e0 ·) (ns _ _ ?_)
     refine aZ hp ax hc rfl fun K50 CO=>?_
     refine jq ?_
     refine bx (c1) rfl ?_
     refine jq ?_
     refine CO _ _ ?_
     refine dO ax hc mixed rfl (q:=1) (by kernel_rfl) (by kernel_rfl) fun K51 wR=>?_
     refine uV e2 ?_
     refine bx (ni) rfl ?_
     refine uV e2 ?_
     refine bx (c2) rfl ?_
     refine uV e2 ?_
     refine wR _ _ ?_
     refine aZ hp ax hc rfl fun K52 zt=>?_
     refine jq ?_
     refine bx (c3) rfl ?_
     refine jq ?_
     refine zt _ _ ?_
     refine ah (jq ·) ?_
     refine fj (jq ·) (uO _ _ ?_)
     refine bT hp ax hc rfl fun K55 CN=>?_
     refine jq ?_
     refine CN _ _ ⟨_,_,_,?_,⟨i+1,by omega,rfl,rfl,rfl⟩,?_⟩
     ·first|omega|(simp only[List.length_cons];omega)|(dsimp only;omega)
     ·refine AF [0,1,2] ?_
      refine xY ?_
      exact F7
   ·have kF:i=p.ag.length+p.aE.length:=by simp at ht;omega
    subst kF
    refine cJ (sV _ _ ?_)
    refine ah (jq ·) ?_
    refine aM ?_
    try dsimp only[cC,cI]
    refine cS rfl ?_
    simp -dsimp -implicitDefEqProofs (disch:=first|assumption|omega|(simp only[aH,aQ,dD]<;>omega)|decide) only[aN,↓reduceIte,Nat.reduceEqDiff,Nat.reduceAdd,D.fix,Int.reduceToNat,Nat.reduceMul,Nat.reduceBNe,Nat.reduceBEq,ae,ao,qi,dI,aK,sD,dy,dG,gI,cM,bt,bQ,xv,vE,xu,LS,LR]
    show ai _ _=_
    simp (disch:=first|assumption|omega|(simp only[aH,aQ,dD]<;>omega)|decide) only[fA,Nat.reduceAdd,D.fix,↓reduceIte,Nat.reduceEqDiff,ae,ao,qi,dI,aK,sD,dy,dG,gI,cM,bt,bQ,xv,vE,xu]
    rw[ia];unfold ft;rw[←jiq];first|done|rfl
def fe(p:Pr)(s:Os):List AV:=[.d (iD (aU p).length),.d (bt s.gs),.os 3 0 0 s.out.length,.os 1 1 0 s.out.length]
def jz4(p:Pr)(x:AV)(S':av):Prop:=∃z,x=kK (aU p).length (gT p p.ag.length).gs 0 1 (gT p p.ag.length).out.length∧S'=[.cells (ak ((gT p p.ag.length).out.flatMap cr)),.cells (ak ((gT p p.ag.length).dr.map iD)),.cells z]
theorem C9{p:Pr}(h:cB p){n:Nat}{s:Os}(hs:fP p n s):s.dr.length=s.out.length:=hs.ol.symm
theorem L3{p:Pr}(h:cB p):∀i,i≤p.aC.length→(fg p i).out.length≤8*i
 |0,_=>by simp[fg]
 |i+1,hi=>by
  have ih:=L3 h i (by omega)
  have hs:=(zY h (show i<p.aC.length by omega) (yA h i (by omega))).b.wid
  have:=Kg h (i:=i) (by omega)
  rw[fg];simp only[List.length_append,dD,hs];omega
theorem L2{p:Pr}(h:cB p):∀i,i≤p.ag.length→(gT p i).out.length≤800+i
 |0,_=>by have:=L3 h _ (bJ _);have:=h.rl;rw[gT];omega
 |i+1,hi=>by
  have ih:=L2 h i (by omega)
  rw[gT];simp only[List.length_append,List.length_cons,List.length_nil];omega
theorem tU{p q:Prop}(hq:q)(h:p=q:=by
 conv=>lhs;simp -dsimp -implicitDefEqProofs (disch:=first|assumption|omega|(simp only[aH,aQ,dD]<;>omega)|decide) only[aN,↓reduceIte,Nat.reduceEqDiff,Nat.reduceAdd,D.fix,Int.reduceToNat,Nat.reduceMul,Nat.reduceBNe,Nat.reduceBEq,fe,kK,jc,er,ia,ao,ae,aK,sD,dy,dG,gI,cM,bt,bQ,Da,cr,bw]):p:=h.mpr hq
theorem Og{p q:Prop}(hq:q)(h:p=q:=by
 conv=>lhs;simp -dsimp -implicitDefEqProofs (disch:=first|assumption|omega|(simp only[aH,aQ,dD]<;>omega)|decide) only[aN,↓reduceIte,Nat.reduceEqDiff,Nat.reduceAdd,D.fix,Int.reduceToNat,Nat.reduceMul,Nat.reduceBNe,Nat.reduceBEq,fe,kK,jc,er,ia,ao,ae,aK,sD,dy,dG,gI,cM,bt,bQ,Da,cr]):p:=h.mpr hq
theorem F5(k:List Nat){m:List Nat}{τ τ1:Fr}{H H1:av}(h:Rt m (fun t=>du k (τ t)) (dg k H) τ1 H1)(a:∀i∈m,k[i]? =some i:=by decide)(b:k.Nodup:=by decide)(c:∀i∈k,i<H.length:=by
 simp[eJ,dg]):Rt m τ H τ1 H1:=Rt.trans (Rt.gc a b c) h
theorem Cf{m:List Nat}{τ τ':Fr}{H H':av}(h2:H=H')(h:fw τ τ':=by
 repeat (first|exact cw _|refine cg ?_ (by first|rfl|(simp[aX,aQ,dD];done)|simp[aX,aQ,dD, *]))):Rt m τ H τ' H':=Rt.end h h2
theorem Bt{p q r:Prop}(e:r)(hq:q)(h:r→p=q:=by
 intro hY
 conv=>lhs;simp -dsimp -implicitDefEqProofs (disch:=first|assumption|omega|(simp only[aH,aQ,dD]<;>omega)|decide) only[aN,↓reduceIte,Nat.reduceEqDiff,Nat.reduceAdd,D.fix,Int.reduceToNat,Nat.reduceMul,Nat.reduceBNe,Nat.reduceBEq,mC,fe,kK,jc,er,ia,ao,ae,aK,sD,dy,dG,gI,cM,bt,bQ,Da,cr,bw,hY]):p:=(h e).mpr hq
theorem V2{P:Program}{sm:List Nat}{N:Nat}{τ0 τ:Fr}{H:av}{f:FuncId}{args:List AV}{K0 KK:AV→av→Prop}{ks:List Nat}(S T:av)(h:cY P ks f args S K0)(hK:∀x S',K0 x S'→S'.length=S.length∧KK x (S'++T))(hH:H=S++T:=by
 rfl) (hN:S.length≤N:=by
 exact cn rfl) (hm:sm.all (aL ks S.length)=true:=by
 first|rfl|(simp[AV.aj,AV.allI,bo,bq,bp,aL,aO,bn,br,jc,ff,fe];done)|(intro o ho;simp at ho;done)) (hτ:∀t,(τ t).allI (aL ks S.length)=true:=by
 exact fun t=>fL (by first|rfl|(simp[AV.aj,AV.allI,bo,bq,bp,aL,aO,bn,br,jc,ff,fe];done)|(intro o ho;simp at ho;done)) t) (h0:∀t,(τ0 t).allI (aL ks S.length)=true:=by
 exact fun t=>fL (by first|rfl|(simp[AV.aj,AV.allI,bo,bq,bp,aL,aO,bn,br,jc,ff,fe];done)|(intro o ho;simp at ho;done)) t) (ha:AV.aj (aO S.length) args=true:=by
 first|rfl|(simp[AV.aj,AV.allI,bo,bq,bp,aL,aO,bn,br,jc,ff,fe];done)|(intro o ho;simp at ho;done)) (hS:∀o∈S,o.allI (aO S.length)=true:=by
 first|rfl|(simp[AV.aj,AV.allI,bo,bq,bp,aL,aO,bn,br,jc,ff,fe];done)|(intro o ho;simp at ho;done)) (hT:∀o∈T,o.allI (aL ks S.length)=true:=by
 first|rfl|(simp[AV.aj,AV.allI,bo,bq,bp,aL,aO,bn,br,jc,ff,fe];done)|(intro o ho;simp at ho;done)):kE P sm N τ0 τ H (.d (.val (.func (.func f) #[] #[]))) args (tg KK):=tm h hH hN hm hτ h0 ha hS hT hK
theorem Jx{p q:Prop}(hq:q)(h:p=q:=by
 conv=>lhs;simp only[cP,Nat.reduceAdd,↓reduceIte,Nat.reduceEqDiff,fe,kK,jc,er,ia,ao,ae,aK,sD,dy,dG,gI,cM,bt,bQ,Da,cr]):p:=h.mpr hq
theorem js2(p:Pr)(h:cB p)(hn:(aU p).length≤1000):cY prog [] 59 [.agg ((er p (bU p)).map .d),.agg ((ia p).map .d)] ([.free,.free,.free]) (jz4 p):=by
 refine fX (fn:=f59) (by kernel_rfl) func59 rfl (cn rfl) fun c hc hp=>?_
 refine pX ?_
 have p7:=h.rl;have vt:=h.tl;have wF:=h.ql;have fT:=h.cl
 have hm:mP p=2+(aU p).length:=rfl
 refine ah (tU ·) ?_
 refine ah (tU ·) ?_
 refine aD fun K3 cm=>?_
 refine ah (Og ·) ?_
 refine aW ?_
 refine cU hp (fun τ' H' mm=>∃(i:Nat),(i≤p.aC.length)∧mm=p.aC.length - i∧H'=[.cells (ak ((fg p i).out.flatMap cr)),.cells (ak ((fg p i).dr.map iD)),.free,.free,.free,.cells (ak (er p (bU p))),.cells (ak (ia p)),jc,.cells (fe p (fg p i))]∧τ'=aF [(2,.op 5 0),(3,.op 6 0),(4,.op 7 0),(5,.op 8 0),(6,.d (iD i))]) (p.aC.length) ?_ ⟨0,cF _,rfl,rfl,rfl⟩ ?_
 ·refine Rt.trans (Rt.fm 6 2 3 rfl rfl) ?_
  refine Rt.trans (Rt.fm 6 3 1 rfl rfl) ?_
  refine F5 [7,8,0,1,2,3,4,5,6] ?_
  refine Cf ?_
  rfl
 rintro τ' H' mm ⟨i,hi,rfl,rfl,rfl⟩
 refine aD fun K5 dx=>?_
 refine ah (tU ·) ?_
 refine bf rfl (fun ht=>?_) (fun ht=>?_)
 ·have aA:i<p.aC.length:=by simp at ht;omega
  have ho:=yA h i hi
  have vw:=ES (p:=p) (k:=i+1) (by omega)
  rw[oT]at vw
  have hle:=ho.len
  have hs:=zY h aA ho
  obtain⟨kD,rR⟩:=hs
  have cu:=h.rn i aA
  have hb:=BH p h true (bU p) hn (nth p.aC i).next (fg p i).gs ho.gi (by omega) (yw h (ho.tp h)) cu.1
  obtain⟨r,hr⟩:∃r,r=dW p (bU p) (fg p i).gs (nth p.aC i).next:=⟨_,rfl⟩
  rw[←hr]at hb kD rR
  have tI:=kD.wid
  have nM:=Kg h aA
  obtain⟨st,cd⟩:∃st:Gs→Nat→Re,st=fun gs k=>hU (mP p) gs (ft p) (nth r.2 k) (cG p 1 i k):=⟨_,rfl⟩
  have jB:∀k,k≤(nth p.aC i).w→Bs (mP p) (2*k) k r.1 (bL st r.1 k):=fun k hk=>by
   rw[cd]
   exact kz kD.gi fun j hj fH uz mL=>C4 nL mL (ho.jZ h (kD.pre.trans uz)) (kD.at uz (by omega)) (tY (y3 aA (by omega)) _)
  have eS:fg p (i+1)=⟨(bL st r.1 (nth p.aC i).w).1,(fg p i).out++cZ 1 i (nth p.aC i).w,(fg p i).dr++(bL st r.1 (nth p.aC i).w).2⟩:=by rw[fg,←hr,←cd,tI]
  have Ld:=kD.len
  have nN:=C9 h ho
  obtain⟨O,hO⟩:∃O:Nat→Os,O=fun k=>⟨(bL st r.1 k).1,(fg p i).out++cZ 1 i k,(fg p i).dr++(bL st r.1 k).2⟩:=⟨_,rfl⟩
  have EA:O 0=⟨r.1,(fg p i).out,(fg p i).dr⟩:=by rw[hO];simp[bL,cZ]
  have Qh:fg p (i+1)=O (nth p.aC i).w:=by rw[hO,eS]
  have Hz:∀k,O (k+1)=⟨(st (O k).gs k).1,(O k).out++[⟨1,i,k⟩],(O k).dr++[(st (O k).gs k).2]⟩:=fun k=>by rw[hO];simp[bL,vP]
  have CI:∀k,k≤(nth p.aC i).w→(O k).dr.length=(O k).out.length∧(O k).out.length=(fg p i).out.length+k:=fun k hk=>by
   have:=(jB k hk).wid
   rw[hO];simp[this,dD,nN]
  have Qi:∀k,k≤(nth p.aC i).w→r.1<+:(O k).gs∧GI (mP p) (O k).gs∧(O k).gs.length≤r.1.length+2*k:=fun k hk=>by
   have:=jB k hk
   rw[hO];exact⟨this.pre,this.gi,this.len⟩
  have hout:(fg p i).out.length≤8*i:=L3 h i hi
  clear hr eS hO
  refine bg (dx _ _ ?_)
  refine aD fun K7 cL=>?_
  refine aW ?_
  refine dO ax hc mixed rfl (q:=1) (by kernel_rfl) (by kernel_rfl) fun K8 dP=>?_
  refine tU ?_
  refine bx (hb) rfl ?_
  refine tU ?_
  refine dP _ _ ?_
  refine ah (tU ·) ?_
  refine ah (Og ·) ?_
  refine aW ?_
  refine cU hp (fun τ' H' mm=>∃(k:Nat),(k≤(nth p.aC i).w)∧mm=(nth p.aC i).w - k∧H'=[.cells (ak ((O k).out.flatMap cr)),.cells (ak ((O k).dr.map iD)),.free,.free,.free,.cells (ak (er p (bU p))),.cells (ak (ia p)),jc,.cells (fe p (O k)),.cells (ak (cM (aU p).length r))]∧τ'=aF [(2,.op 5 0),(3,.op 6 0),(4,.op 7 0),(5,.op 8 0),(6,.d (iD i)),(7,.op 9 0),(8,.d (iD k))]) ((nth p.aC i).w) ?_ ⟨0,cF _,rfl,rfl,rfl⟩ ?_
  ·refine Cf ?_
   refine Jx ?_;simp[EA,fe,cM,er,ia,ao,ae,aK,sD,iD,ak,bt,bQ]
  rintro τ' H' mm ⟨k,qQ,rfl,rfl,rfl⟩
  refine aD fun mh cQ=>?_
  refine ah (tU ·) ?_
  refine bf rfl (fun ht=>?_) (fun ht=>?_)
  ·have iA:k<(nth p.aC i).w:=by simp at ht;omega
   obtain⟨b1,b2,b3⟩:=Qi k qQ
   obtain⟨l1,l2⟩:=CI k qQ
   have fk:=y3 aA iA
   have ni:=E2 (aU p) ⟨1,(i:Int),(k:Int)⟩ (by omega) fk
   have uE:=(yE fk).1
   have e2:(2:Int)+((kL ⟨1,(i:Int),(k:Int)⟩ (aU p):Nat):Int)=cG p 1 i k:=by unfold cG;omega
   have g0:(r.2.map iD)[k]? =some (iD (nth r.2 k)):=db (by omega)
   have wK:=Zx (aU p).length (O k).gs (ft p) (nth r.2 k) (cG p 1 i k) (by omega) (by omega) b2 (ho.jZ h (kD.pre.trans b1)) (kD.at b1 (by omega)) (tY fk _)
   rw[←hm,show hU (mP p) (O k).gs (ft p) (nth r.2 k) (cG p 1 i k)=st (O k).gs k by rw[cd]]at wK
   have kP:=KO (aU p).length (O k).gs (O k).out (O k).dr ⟨1,(i:Int),(k:Int)⟩ (st (O k).gs k) l1 (by omega)
   have eo:=Hz k
   clear cd
   refine bg (cQ _ _ ?_)
   refine aD fun nV df=>?_
   refine aW ?_
   refine ah (tU ·) ?_
   refine u5 ax hp hc mixed rfl [(0,[]),(1,[]),(2,[]),(3,[]),(4,[]),(5,[]),(6,[]),(7,[]),(8,[]),(9,[]),(10,[]),(11,[]),(12,[]),(13,[]),(14,[0,1,3,5,7,10]),(15,[]),(16,[]),(17,[0,1]),(18,[]),(19,[])] [[],[],[],[2],[],[4],[],[6],[],[6,7,8],[6,7,8,9],[],[11],[],[11,12,13],[11,12,13,14],[4,5,6,7,8,9,10,11,12,13,14,15],[2,3,4,5,6,7,8,9,10,11,12,13,14,15,16],[0,1,2,3,4,5,6,7,8,9,10,11,12,13,14,15,16,17],[0,1,2,3,4,5,6,7,8,9,10,11,12,13,14,15,16,17,18]] 0 (by kernel_rfl) fun sY eG=>?_
   refine Bt (aw g0 e2) ?_
   refine qy (ni) rfl ?_
   refine Bt (aw g0 e2) ?_
   refine qy (wK) rfl ?_
   refine Bt (aw g0 e2) ?_
   refine V2 ([.cells (ak ((O k).out.flatMap cr)),.cells (ak ((O k).dr.map iD)),.free,.free,.free]) ([.cells (ak (er p (bU p))),.cells (ak (ia p)),jc,.cells (fe p (O k)),.cells (ak (cM (aU p).length r)),.cells (ak (cr ⟨1,(i:Int),(k:Int)⟩))]) (kP) ?_
   rintro _ _ ⟨a,b,z,rfl,rfl⟩
   refine⟨rfl,?_⟩
   refine Bt (aw g0 e2) ?_
   refine eG _ _ (df _ _ ?_)
   refine bT hp ax hc rfl fun pE dB=>?_
   refine tU ?_
   refine dB _ _ ⟨_,_,_,?_,⟨k+1,by omega,rfl,rfl,rfl⟩,?_⟩
   ·first|omega|(simp only[List.length_cons];omega)|(dsimp only;omega)
   ·refine Rt.trans (Rt.yd) ?_
    refine F5 [2,3,11,12,13,5,6,7,8,9] ?_
    refine Cf ?_
    refine Jx ?_;simp[eo,iD,fe]
  ·have bM:k=(nth p.aC i).w:=by simp at ht;omega
   subst bM
   refine cJ (cL _ _ ?_)
   refine bT hp ax hc rfl fun rZ ey=>?_
   refine tU ?_
   refine ey _ _ ⟨_,_,_,?_,⟨i+1,by omega,rfl,rfl,rfl⟩,?_⟩
   ·first|omega|(simp only[List.length_cons];omega)|(dsimp only;omega)
   ·refine F5 [0,1,2,3,4,5,6,7,8] ?_
    refine Cf ?_
    refine Jx ?_;rw[Qh];rfl
 ·have kF:i=p.aC.length:=by simp at ht;omega
  subst kF
  refine cJ (cm _ _ ?_)
  refine aD fun zD iW=>?_
  refine ah (Og ·) ?_
  refine aW ?_
  refine cU hp (fun τ' H' mm=>∃(i:Nat),(i≤p.ag.length)∧mm=p.ag.length - i∧H'=[.cells (ak ((gT p i).out.flatMap cr)),.cells (ak ((gT p i).dr.map iD)),.free,.free,.free,.cells (ak (er p (bU p))),.cells (ak (ia p)),jc,.cells (fe p (gT p i))]∧τ'=aF [(2,.op 5 0),(3,.op 6 0),(4,.op 7 0),(5,.op 8 0),(10,.d (iD i))]) (p.ag.length) ?_ ⟨0,cF _,rfl,rfl,rfl⟩ ?_
  ·refine Cf ?_
   rfl
  rintro τ' H' mm ⟨i,hi,rfl,rfl,rfl⟩
  refine aD fun sX fa=>?_
  refine ah (tU ·) ?_
  refine bf rfl (fun ht=>?_) (fun ht=>?_)
  ·have aA:i<p.ag.length:=by simp at ht;omega
   have ho:=Iz h i hi
   have nN:=C9 h ho
   have hle:=ho.len
   have vw:=ET (p:=p) (k:=0) (by omega)
   rw[tR]at vw
   have hpo:=L2 h i hi
   have g0:((iE p).map iD)[i]? =some (iD (nth (iE p) i)):=db (by rw[show iE p=(eU p p.ag.length).ag from rfl,(vb h _ (bJ _)).tl];exact aA)
   have gl:i<(iE p).length:=by rw[show iE p=(eU p p.ag.length).ag from rfl,(vb h _ (bJ _)).tl];exact aA
   have hand:=u4 (aU p).length (gT p i).gs (ft p) (nth (iE p) i) (by omega) (by omega) ho.gi (ho.jZ h (List.prefix_refl _)) (ho.CS h (List.prefix_refl _) aA)
   obtain⟨A,hA⟩:∃A,A=dj (mP p) (gT p i).gs (ft p) (nth (iE p) i):=⟨_,rfl⟩
   rw[←hm,←hA]at hand
   have kP:=KO (aU p).length (gT p i).gs (gT p i).out (gT p i).dr ⟨5,(i:Int),0⟩ A nN (by omega)
   have eo:gT p (i+1)=⟨A.1,(gT p i).out++[⟨5,(i:Int),0⟩],(gT p i).dr++[A.2]⟩:=by rw[hA,gT]
   clear hA
   refine bg (fa _ _ ?_)
   refine aD fun yi ik=>?_
   refine aW ?_
   refine u5 ax hp hc mixed rfl [(0,[]),(1,[]),(2,[]),(3,[]),(4,[]),(5,[]),(6,[]),(7,[]),(8,[]),(9,[]),(10,[]),(11,[]),(12,[0]),(13,[]),(14,[])] [[],[],[1],[],[3],[],[5],[],[7],[],[7,8,9],[7,8,9,10],[3,4,5,6,7,8,9,10,11],[0,1,2,3,4,5,6,7,8,9,10,11,12],[0,1,2,3,4,5,6,7,8,9,10,11,12,13]] 0 (by kernel_rfl) fun vA fM=>?_
   refine Bt g0 ?_
   refine qy (hand) rfl ?_
   refine Bt g0 ?_
   refine V2 ([.cells (ak ((gT p i).out.flatMap cr)),.cells (ak ((gT p i).dr.map iD)),.free,.free,.free]) ([.cells (ak (er p (bU p))),.cells (ak (ia p)),jc,.cells (fe p (gT p i))]) (kP) ?_
   rintro _ _ ⟨a,b,z,rfl,rfl⟩
   refine⟨rfl,?_⟩
   refine Bt g0 ?_
   refine fM _ _ (ik _ _ ?_)
   refine bT hp ax hc rfl fun yh fG=>?_
   refine tU ?_
   refine fG _ _ ⟨_,_,_,?_,⟨i+1,by omega,rfl,rfl,rfl⟩,?_⟩
   ·first|omega|(simp only[List.length_cons];omega)|(dsimp only;omega)
   ·refine Rt.trans (Rt.yd) ?_
    refine F5 [2,3,9,10,11,5,6,7,8] ?_
    refine Cf ?_
    refine Jx ?_;simp[eo,iD,fe]
  ·have kF:i=p.ag.length:=by simp at ht;omega
   subst kF
   refine cJ (iW _ _ ?_)
   refine ah (tU ·) ?_
   refine bC hp (τ':=aF [(4,.op 2 0)]) (H':=[.cells (ak ((gT p p.ag.length).out.flatMap cr)),.cells (ak ((gT p p.ag.length).dr.map iD)),.cells (fe p (gT p p.ag.length))]) ?_ ?_
   ·refine F5 [0,1,7] ?_
    refine Cf ?_
    first|rfl|(simp only[cP,Nat.reduceAdd,↓reduceIte,Nat.reduceEqDiff,fe,kK,jc,er,ia,ao,ae,aK,sD,dy,dG,gI,cM,bt,bQ,Da,cr];first|done|rfl)
   refine aM ?_
   try dsimp only[cC,cI]
   refine cS rfl ?_
   simp -dsimp -implicitDefEqProofs (disch:=first|assumption|omega|(simp only[aH,aQ,dD]<;>omega)|decide) only[aN,↓reduceIte,Nat.reduceEqDiff,Nat.reduceAdd,D.fix,Int.reduceToNat,Nat.reduceMul,Nat.reduceBNe,Nat.reduceBEq,fe,kK,jc,er,ia,ao,ae,aK,sD,dy,dG,gI,cM,bt,bQ,Da,cr,Fg,Ff]
   show ∃_,_
   exact⟨_,by simp[kK,iD,bt],rfl⟩
theorem L1{p:Pr}(h:cB p):∀i,i≤p.aE.length→(gN p i).out.length≤900+9*i
 |0,_=>by have:=L2 h _ (bJ _);have:=h.tl;rw[gN];omega
 |i+1,hi=>by
  have ih:=L1 h i (by omega)
  have hs:=(By h (show i<p.aE.length by omega) (Ad h i (by omega))).hb.wid
  have:=(h.qb i (by omega)).2
  rw[gN];simp only[List.length_append,List.length_cons,List.length_nil,dD,hs];omega
theorem L0{p:Pr}(h:cB p):∀i,i≤p.au.length→(eu p i).out.length≤1800+12*i
 |0,_=>by have:=L1 h _ (bJ _);have:=h.ql;rw[eu];omega
 |i+1,hi=>by
  have ih:=L0 h i (by omega)
  have hs:=(Bx h (show i<p.au.length by omega) (ub h i (by omega)) rfl rfl rfl rfl).hw.wid
  have em:nth (aR p).au i=((nth p.au i).words,(nth p.au i).w):=tE (by omega)
  have A4:=h.ct.m i (by simp[aR];omega)
  rw[em]at A4
  simp only at A4
  rw[eu];simp only[List.length_append,List.length_cons,List.length_nil,dD,hs];omega
theorem yfl{l:List lJ}{k:Nat}(h:k<l.length):ec (l.flatMap pb) (k*27+3) 7=some (bR (nth l k).en):=by
 rw[BV qj h (by omega)]
 show some (((bR (nth l k).en)++_).take 7)=_
 rw[List.take_append_of_le_length (by rw[lg];omega),ui (by rw[lg];omega)]
theorem yfm{l:List lJ}{k:Nat}(h:k<l.length):ec (l.flatMap pb) (k*27+10) 7=some (bR (nth l k).ad):=by
 rw[BV qj h (by omega)]
 show some ((((bR (nth l k).en)++((bR (nth l k).ad)++_)).drop 7).take 7)=_
 rw[List.drop_append_of_le_length (by rw[lg];omega),List.drop_of_length_le (by rw[lg];omega),List.nil_append,List.take_append_of_le_length (by rw[lg];omega),ui (by rw[lg];omega)]
theorem yfn{l:List lJ}{k:Nat}(h:k<l.length):ec (l.flatMap pb) (k*27+17) 7=some (bR (nth l k).da):=by
 rw[BV qj h (by omega)]
 show some ((((bR (nth l k).en)++((bR (nth l k).ad)++((bR (nth l k).da)++_))).drop 14).take 7)=_
 rw[←List.append_assoc,List.drop_append_of_le_length (by rw[List.length_append,lg,lg];omega),List.drop_of_length_le (by rw[List.length_append,lg,lg];omega),List.nil_append,List.take_append_of_le_length (by rw[lg];omega),ui (by rw[lg];omega)]
def Zu(p:Pr):List D:=dp (kh p)++[iD 0]
def EY(p:Pr):List D:=if 600<2+(aU p).length+(kh p).gates.length then dp ⟨[],[],[],[]⟩++[iD 2]else Zu p
theorem kV{p q:Prop}(hq:q)(h:p=q:=by
 conv=>lhs;simp -dsimp -implicitDefEqProofs (disch:=first|assumption|omega|(simp only[aH,aQ,dD]<;>omega)|decide) only[aN,↓reduceIte,Nat.reduceEqDiff,Nat.reduceAdd,D.fix,Int.reduceToNat,Nat.reduceMul,Nat.reduceBNe,Nat.reduceBEq,fe,kK,jc,er,ia,ao,ae,dI,aK,sD,dy,dG,gI,cM,bt,bQ,xt,cr,bw]):p:=h.mpr hq
theorem wa(k:List Nat){m:List Nat}{τ τ1:Fr}{H H1:av}(h:Rt m (fun t=>du k (τ t)) (dg k H) τ1 H1)(a:∀i∈m,k[i]? =some i:=by decide)(b:k.Nodup:=by decide)(c:∀i∈k,i<H.length:=by
 simp[eJ,dg]):Rt m τ H τ1 H1:=Rt.trans (Rt.gc a b c) h
theorem se{m:List Nat}{τ τ':Fr}{H H':av}(h2:H=H')(h:fw τ τ':=by
 repeat (first|exact cw _|refine cg ?_ (by first|rfl|(simp[aX,aQ,dD];done)|simp[aX,aQ,dD, *]))):Rt m τ H τ' H':=Rt.end h h2
theorem V1{P:Program}{sm:List Nat}{N:Nat}{τ:Fr}{H:av}{f:FuncId}{args:List AV}{K0 KK:AV→av→Prop}{ks:List Nat}(S T:av)(h:cY P ks f args S K0)(hK:∀x S',K0 x S'→S'.length=S.length∧KK x (S'++T))(hH:H=S++T:=by
 rfl) (hm:sm.all (aL ks S.length)=true:=by
 first|rfl|(simp[AV.aj,AV.allI,bo,bq,bp,aL,aO,bn,br,jc,ff,fe];done)|(intro o ho;simp at ho;done)) (hτ:∀t,(τ t).allI (aL ks S.length)=true:=by
 exact fun t=>fL (by first|rfl|(simp[AV.aj,AV.allI,bo,bq,bp,aL,aO,bn,br,jc,ff,fe];done)|(intro o ho;simp at ho;done)) t) (ha:AV.aj (aO S.length) args=true:=by
 first|rfl|(simp[AV.aj,AV.allI,bo,bq,bp,aL,aO,bn,br,jc,ff,fe];done)|(intro o ho;simp at ho;done)) (hS:∀o∈S,o.allI (aO S.length)=true:=by
 first|rfl|(simp[AV.aj,AV.allI,bo,bq,bp,aL,aO,bn,br,jc,ff,fe];done)|(intro o ho;simp at ho;done)) (hT:∀o∈T,o.allI (aL ks S.length)=true:=by
 first|rfl|(simp[AV.aj,AV.allI,bo,bq,bp,aL,aO,bn,br,jc,ff,fe];done)|(intro o ho;simp at ho;done)):kC P sm N H τ (.d (.val (.func (.func f) #[] #[]))) args true (tg KK):=rH h hH hm hτ ha hS hT hK
theorem Gq{p q:Prop}(hq:q)(h:p=q:=by
 conv=>lhs;simp -dsimp -implicitDefEqProofs (disch:=first|assumption|omega|(simp only[aH,aQ,dD]<;>omega)|decide) only[aN,↓reduceIte,Nat.reduceEqDiff,Nat.reduceAdd,D.fix,Int.reduceToNat,Nat.reduceMul,Nat.reduceBNe,Nat.reduceBEq,fe,kK,jc,er,ia,ao,ae,dI,aK,sD,dy,dG,gI,cM,bt,bQ,xt,cr]):p:=h.mpr hq
theorem xr{p q r:Prop}(e:r)(hq:q)(h:r→p=q:=by
 intro hY
 conv=>lhs;simp -dsimp -implicitDefEqProofs (disch:=first|assumption|omega|(simp only[aH,aQ,dD]<;>omega)|decide) only[aN,↓reduceIte,Nat.reduceEqDiff,Nat.reduceAdd,D.fix,Int.reduceToNat,Nat.reduceMul,Nat.reduceBNe,Nat.reduceBEq,fe,kK,jc,er,ia,ao,ae,dI,aK,sD,dy,dG,gI,cM,bt,bQ,xt,cr,bw,hY]):p:=(h e).mpr hq
theorem xq{p q r:Prop}(e:r)(hq:q)(h:r→p=q:=by
 intro hY
 conv=>lhs;simp -dsimp -implicitDefEqProofs (disch:=first|assumption|omega|(simp only[aH,aQ,dD]<;>omega)|decide) only[aN,↓reduceIte,Nat.reduceEqDiff,Nat.reduceAdd,D.fix,Int.reduceToNat,Nat.reduceMul,Nat.reduceBNe,Nat.reduceBEq,mC,fe,kK,jc,er,ia,ao,ae,dI,aK,sD,dy,dG,gI,cM,bt,bQ,xt,cr,bw,hY]):p:=(h e).mpr hq
theorem Jw{P:Program}{sm:List Nat}{N:Nat}{τ0 τ:Fr}{H:av}{f:FuncId}{args:List AV}{K0 KK:AV→av→Prop}{ks:List Nat}(S T:av)(h:cY P ks f args S K0)(hK:∀x S',K0 x S'→S'.length=S.length∧KK x (S'++T))(hH:H=S++T:=by
 rfl) (hN:S.length≤N:=by
 exact cn rfl) (hm:sm.all (aL ks S.length)=true:=by
 first|rfl|(simp[AV.aj,AV.allI,bo,bq,bp,aL,aO,bn,br,jc,ff,fe];done)|(intro o ho;simp at ho;done)) (hτ:∀t,(τ t).allI (aL ks S.length)=true:=by
 exact fun t=>fL (by first|rfl|(simp[AV.aj,AV.allI,bo,bq,bp,aL,aO,bn,br,jc,ff,fe];done)|(intro o ho;simp at ho;done)) t) (h0:∀t,(τ0 t).allI (aL ks S.length)=true:=by
 exact fun t=>fL (by first|rfl|(simp[AV.aj,AV.allI,bo,bq,bp,aL,aO,bn,br,jc,ff,fe];done)|(intro o ho;simp at ho;done)) t) (ha:AV.aj (aO S.length) args=true:=by
 first|rfl|(simp[AV.aj,AV.allI,bo,bq,bp,aL,aO,bn,br,jc,ff,fe];done)|(intro o ho;simp at ho;done)) (hS:∀o∈S,o.allI (aO S.length)=true:=by
 first|rfl|(simp[AV.aj,AV.allI,bo,bq,bp,aL,aO,bn,br,jc,ff,fe];done)|(intro o ho;simp at ho;done)) (hT:∀o∈T,o.allI (aL ks S.length)=true:=by
 first|rfl|(simp[AV.aj,AV.allI,bo,bq,bp,aL,aO,bn,br,jc,ff,fe];done)|(intro o ho;simp at ho;done)):kE P sm N τ0 τ H (.d (.val (.func (.func f) #[] #[]))) args (tg KK):=tm h hH hN hm hτ h0 ha hS hT hK
theorem X2{p q:Prop}(hq:q)(h:p=q:=by
 conv=>lhs;simp -dsimp -implicitDefEqProofs (disch:=first|assumption|omega|(simp only[aH,aQ,dD]<;>omega)|decide) only[aN,↓reduceIte,Nat.reduceEqDiff,Nat.reduceAdd,D.fix,Int.reduceToNat,Nat.reduceMul,Nat.reduceBNe,Nat.reduceBEq,fe,kK,jc,er,ia,ao,ae,dI,aK,sD,dy,dG,gI,cM,bt,bQ,xt,cr,ID,Yn]):p:=h.mpr hq
theorem M5{p:Prop}(h:p:=by
 first|rfl|(simp only[cP,Nat.reduceAdd,↓reduceIte,Nat.reduceEqDiff,fe,kK,jc,er,ia,ao,ae,dI,aK,sD,dy,dG,gI,cM,bt,bQ,xt,cr];first|done|rfl)):p:=h
theorem xX{p q:Prop}(hq:q)(h:p=q:=by
 conv=>lhs;simp only[cP,Nat.reduceAdd,↓reduceIte,Nat.reduceEqDiff,fe,kK,jc,er,ia,ao,ae,dI,aK,sD,dy,dG,gI,cM,bt,bQ,xt,cr]):p:=h.mpr hq
theorem V0{p q:Prop}(hq:q)(h:p=q:=by
 conv=>lhs;simp (disch:=first|assumption|omega|(simp only[aH,aQ,dD]<;>omega)|decide) only[fA,Nat.reduceAdd,D.fix,↓reduceIte,Nat.reduceEqDiff,fe,kK,jc,er,ia,ao,ae,dI,aK,sD,dy,dG,gI,cM,bt,bQ,xt,cr]):p:=h.mpr hq
theorem jc4(p:Pr)(h:cB p)(hn:(aU p).length≤1000):dq prog 12 [dI p] (.d (.agg (EY p))):=by
 have p7:=h.rl;have vt:=h.tl;have wF:=h.ql;have fT:=h.cl
 have p9:p.au.length≤8:=by have:=h.ct.l;simpa[aR]using this
 have hm:mP p=2+(aU p).length:=rfl
 have PX:=jzx p h
 have hdu:=jsz p h (by omega)
 have cd:=js2 p h (by omega)
 refine fh (fn:=f12) (by kernel_rfl) func12 rfl (cn rfl) fun c hc hp=>?_
 refine dY (τ':=aF [(0,.d (dI p))]) (by repeat (first|exact cw _|refine cg ?_ (by first|rfl|(simp[aX,aQ,dD];done)|simp[aX,aQ,dD, *]))) ?_
 refine ah (kV ·) ?_
 refine aZ hp ax hc rfl fun K2 bS=>?_
 refine kV ?_
 refine bx (PX) rfl ?_
 refine kV ?_
 refine bS _ _ ?_
 refine aZ hp ax hc rfl fun K3 cm=>?_
 refine kV ?_
 refine bx (hdu) rfl ?_
 refine kV ?_
 refine cm _ _ ?_
 refine ah (kV ·) ?_
 refine bC hp (τ':=aF [(1,.op 3 0),(2,.op 4 0),(3,.d (bQ (aU p))),(4,.op 5 0),(5,.op 6 0)]) (H':=[.free,.free,.free,.cells (ak (aK p)),.cells [.d (.val (.slice none 0 0)),.d (.val (.slice none 0 0)),.d (.val (.slice none 0 0)),.d (.val (.slice none 0 0)),.d (iD 0)],.cells (ak (ia p)),.cells (ak (er p (bU p)))]) ?_ ?_
 ·refine Rt.trans (Rt.yd) ?_
  refine wa [4,5,6,0,1,2,3] ?_
  refine se ?_
  exact M5
 refine aZ hp ax hc rfl fun K5 dx=>?_
 refine kV ?_
 refine V1 ([.free,.free,.free]) ([.cells (ak (aK p)),.cells [.d (.val (.slice none 0 0)),.d (.val (.slice none 0 0)),.d (.val (.slice none 0 0)),.d (.val (.slice none 0 0)),.d (iD 0)],.cells (ak (ia p)),.cells (ak (er p (bU p)))]) (cd) ?_
 rintro _ _ ⟨z,rfl,rfl⟩
 refine⟨rfl,?_⟩
 refine kV ?_
 refine dx _ _ ?_
 refine aD fun K6 cK=>?_
 refine ah (Gq ·) ?_
 refine aW ?_
 refine cU hp (fun τ' H' mm=>∃(i:Nat),(i≤p.aE.length)∧mm=p.aE.length - i∧H'=[.cells (ak ((gN p i).out.flatMap cr)),.cells (ak ((gN p i).dr.map iD)),.free,.free,.free,.cells (ak (aK p)),.cells [.d (.val (.slice none 0 0)),.d (.val (.slice none 0 0)),.d (.val (.slice none 0 0)),.d (.val (.slice none 0 0)),.d (iD 0)],.cells (ak (ia p)),.cells (ak (er p (bU p))),.cells (fe p (gN p i))]∧τ'=aF [(1,.op 5 0),(2,.op 6 0),(3,.d (bQ (aU p))),(4,.op 7 0),(5,.op 8 0),(6,.op 9 0),(7,.d (iD i))]) (p.aE.length) ?_ ⟨0,cF _,rfl,rfl,rfl⟩ ?_
 ·refine Rt.trans (Rt.yd) ?_
  refine wa [0,1,8,9,10,3,4,5,6,7] ?_
  refine se ?_
  refine xX ?_;rfl
 rintro τ' H' mm ⟨i,hi,rfl,rfl,rfl⟩
 refine aD fun K8 dP=>?_
 refine ah (kV ·) ?_
 refine bf rfl (fun ht=>?_) (fun ht=>?_)
 ·have aA:i<p.aE.length:=by simp at ht;omega
  have ho:=Ad h i hi
  have nN:=C9 h ho
  have hle:=ho.len
  have vw:=ET (p:=p) (k:=i+1) (by omega)
  rw[tR]at vw
  have hpo:=L1 h i hi
  have Cp:=By h aA ho
  have gl:i<(iC p).length:=by rw[show iC p=(jf p p.aE.length).aE from rfl,(tX h _ (bJ _)).ql];exact aA
  have g0:((iC p).map iD)[i]? =some (iD (nth (iC p) i)):=db gl
  have hand:=u4 (aU p).length (gN p i).gs (ft p) (nth (iC p) i) (by omega) (by omega) ho.gi (ho.jZ h (List.prefix_refl _)) (ho.CT h (List.prefix_refl _) aA)
  obtain⟨A,hA⟩:∃A,A=dj (mP p) (gN p i).gs (ft p) (nth (iC p) i):=⟨_,rfl⟩
  rw[←hm,←hA]at hand
  rw[←hA]at Cp
  obtain⟨ra,rb,rt⟩:=Cp
  have la:=ra.len
  have cu:=h.qd i aA
  have Ba:=BH p h true (bU p) (by omega) (nth p.aE i).da A.1 ra.gi (by omega) (yw h ((ho.tp h).trans ra.pre)) cu.1
  obtain⟨r,hr⟩:∃r,r=dW p (bU p) A.1 (nth p.aE i).da:=⟨_,rfl⟩
  rw[←hr]at Ba rb rt
  have tI:=rb.wid
  have lb:=rb.len
  have nM:=(h.qb i aA).2
  obtain⟨st,cd⟩:∃st:Gs→Nat→Re,st=fun gs k=>dj (mP p) gs A.2 (nth r.2 k):=⟨_,rfl⟩
  have jB:∀k,k≤(nth p.aE i).w→Bs (mP p) (1*k) k r.1 (bL st r.1 k):=fun k hk=>by
   rw[cd]
   exact kz rb.gi fun j hj fH uz mL=>rK nL mL (ra.nd.pre (rb.pre.trans uz)) (rb.at uz (by omega))
  obtain⟨O,hO⟩:∃O:Nat→Os,O=fun k=>⟨(bL st r.1 k).1,(gN p i).out++[⟨6,i,0⟩]++cZ 7 i k,(gN p i).dr++[A.2]++(bL st r.1 k).2⟩:=⟨_,rfl⟩
  have EA:O 0=⟨r.1,(gN p i).out++[⟨6,i,0⟩],(gN p i).dr++[A.2]⟩:=by rw[hO];simp[bL,cZ]
  have Qh:gN p (i+1)=O (nth p.aE i).w:=by rw[hO,gN,←hA,←hr,←cd,tI]
  have Hz:∀k,O (k+1)=⟨(st (O k).gs k).1,(O k).out++[⟨7,i,k⟩],(O k).dr++[(st (O k).gs k).2]⟩:=fun k=>by rw[hO];simp[bL,vP]
  have CI:∀k,k≤(nth p.aE i).w→(O k).dr.length=(O k).out.length∧(O k).out.length=(gN p i).out.length+1+k:=fun k hk=>by
   have:=(jB k hk).wid
   exact⟨by rw[hO];simp[this,dD,nN],by rw[hO];simp[dD];omega⟩
  have Qi:∀k,k≤(nth p.aE i).w→r.1<+:(O k).gs∧GI (mP p) (O k).gs∧(O k).gs.length≤r.1.length+1*k:=fun k hk=>by
   have:=jB k hk
   rw[hO];exact⟨this.pre,this.gi,this.len⟩
  have kP:=OF (aU p).length (gN p i).gs (gN p i).out (gN p i).dr ⟨6,(i:Int),0⟩ A nN (by omega)
  clear hr hO hA
  refine bg (dP _ _ ?_)
  refine aD fun j4 bW=>?_
  refine aW ?_
  refine dO ax hc mixed rfl (q:=1) (by kernel_rfl) (by kernel_rfl) fun mh cQ=>?_
  refine xr g0 ?_
  refine bx (hand) rfl ?_
  refine xr g0 ?_
  refine cQ _ _ ?_
  refine aZ hp ax hc rfl fun lK bN=>?_
  refine kV ?_
  refine V1 ([.cells (ak ((gN p i).out.flatMap cr)),.cells (ak ((gN p i).dr.map iD)),.free,.free,.free]) ([.cells (ak (aK p)),.cells [.d (.val (.slice none 0 0)),.d (.val (.slice none 0 0)),.d (.val (.slice none 0 0)),.d (.val (.slice none 0 0)),.d (iD 0)],.cells (ak (ia p)),.cells (ak (er p (bU p))),.cells (fe p (gN p i)),.cells (ak (dG (aU p).length A))]) (kP) ?_
  rintro _ _ ⟨a,b,z,rfl,rfl⟩
  refine⟨rfl,?_⟩
  refine kV ?_
  refine bN _ _ ?_
  refine bC hp (τ':=aF [(1,.op 5 0),(2,.op 6 0),(3,.d (bQ (aU p))),(4,.op 7 0),(5,.op 8 0),(6,.op 9 0),(7,.d (iD i)),(8,.op 10 0)]) (H':=[.cells (ak (((gN p i).out++[(⟨6,(i:Int),0⟩:aT)]).flatMap cr)),.cells (ak (((gN p i).dr++[A.2]).map iD)),.free,.free,.free,.cells (ak (aK p)),.cells [.d (.val (.slice none 0 0)),.d (.val (.slice none 0 0)),.d (.val (.slice none 0 0)),.d (.val (.slice none 0 0)),.d (iD 0)],.cells (ak (ia p)),.cells (ak (er p (bU p))),.cells [.d (iD (aU p).length),.d (bt A.1),.os 3 0 0 ((gN p i).out.length+1),.os 1 1 0 ((gN p i).out.length+1)],.cells (ak (dG (aU p).length A))]) ?_ ?_
  ·refine Rt.trans (Rt.yd) ?_
   refine wa [2,3,11,12,13,5,6,7,8,9,10] ?_
   refine se ?_
   exact M5
  refine dO ax hc mixed rfl (q:=1) (by kernel_rfl) (by kernel_rfl) fun nV df=>?_
  refine kV ?_
  refine bx (Ba) rfl ?_
  refine kV ?_
  refine df _ _ ?_
  refine ah (kV ·) ?_
  refine ah (Gq ·) ?_
  refine aW ?_
  refine cU hp (fun τ' H' mm=>∃(k:Nat),(k≤(nth p.aE i).w)∧mm=(nth p.aE i).w - k∧H'=[.cells (ak ((O k).out.flatMap cr)),.cells (ak ((O k).dr.map iD)),.free,.free,.free,.cells (ak (aK p)),.cells [.d (.val (.slice none 0 0)),.d (.val (.slice none 0 0)),.d (.val (.slice none 0 0)),.d (.val (.slice none 0 0)),.d (iD 0)],.cells (ak (ia p)),.cells (ak (er p (bU p))),.cells (fe p (O k)),.cells (ak (dG (aU p).length A)),.cells (ak (cM (aU p).length r))]∧τ'=aF [(1,.op 5 0),(2,.op 6 0),(3,.d (bQ (aU p))),(4,.op 7 0),(5,.op 8 0),(6,.op 9 0),(7,.d (iD i)),(8,.op 10 0),(9,.op 11 0),(10,.d (iD k))]) ((nth p.aE i).w) ?_ ⟨0,cF _,rfl,rfl,rfl⟩ ?_
  ·refine se ?_
   refine xX ?_;simp[EA,fe,cM,dG,er,ia,ao,ae,aK,sD,iD,ak,bt,bQ]
  rintro τ' H' mm ⟨k,qQ,rfl,rfl,rfl⟩
  refine aD fun pE dB=>?_
  refine ah (kV ·) ?_
  refine bf rfl (fun ht=>?_) (fun ht=>?_)
  ·have iA:k<(nth p.aE i).w:=by simp at ht;omega
   obtain⟨b1,b2,b3⟩:=Qi k qQ
   obtain⟨l1,l2⟩:=CI k qQ
   have g0:(r.2.map iD)[k]? =some (iD (nth r.2 k)):=db (by omega)
   have wK:=u4 (aU p).length (O k).gs A.2 (nth r.2 k) (by omega) (by omega) b2 (ra.nd.pre (rb.pre.trans b1)) (rb.at b1 (by omega))
   rw[←hm,show dj (mP p) (O k).gs A.2 (nth r.2 k)=st (O k).gs k by rw[cd]]at wK
   have kP:=KO (aU p).length (O k).gs (O k).out (O k).dr ⟨7,(i:Int),(k:Int)⟩ (st (O k).gs k) l1 (by omega)
   have eo:=Hz k
   clear cd
   refine bg (dB _ _ ?_)
   refine aD fun zD iW=>?_
   refine aW ?_
   refine u5 ax hp hc mixed rfl [(0,[]),(1,[]),(2,[]),(3,[]),(4,[]),(5,[]),(6,[]),(7,[]),(8,[]),(9,[]),(10,[]),(11,[]),(12,[]),(13,[0]),(14,[]),(15,[])] [[],[],[],[1,2],[],[4],[],[6],[],[8],[],[8,9,10],[8,9,10,11],[4,5,6,7,8,9,10,11,12],[0,1,2,3,4,5,6,7,8,9,10,11,12,13],[0,1,2,3,4,5,6,7,8,9,10,11,12,13,14]] 0 (by kernel_rfl) fun rY eN=>?_
   refine xq g0 ?_
   refine qy (wK) rfl ?_
   refine xq g0 ?_
   refine Jw ([.cells (ak ((O k).out.flatMap cr)),.cells (ak ((O k).dr.map iD)),.free,.free,.free]) ([.cells (ak (aK p)),.cells [.d (.val (.slice none 0 0)),.d (.val (.slice none 0 0)),.d (.val (.slice none 0 0)),.d (.val (.slice none 0 0)),.d (iD 0)],.cells (ak (ia p)),.cells (ak (er p (bU p))),.cells (fe p (O k)),.cells (ak (dG (aU p).length A)),.cells (ak (cM (aU p).length r))]) (kP) ?_
   rintro _ _ ⟨a,b,z,rfl,rfl⟩
   refine⟨rfl,?_⟩
   refine xq g0 ?_
   refine eN _ _ (iW _ _ ?_)
   refine bT hp ax hc rfl fun sX fa=>?_
   refine kV ?_
   refine fa _ _ ⟨_,_,_,?_,⟨k+1,by omega,rfl,rfl,rfl⟩,?_⟩
   ·first|omega|(simp only[List.length_cons];omega)|(dsimp only;omega)
   ·refine Rt.trans (Rt.yd) ?_
    refine wa [2,3,12,13,14,5,6,7,8,9,10,11] ?_
    refine se ?_
    refine xX ?_;simp[eo,iD,fe]
  ·have bM:k=(nth p.aE i).w:=by simp at ht;omega
   subst bM
   refine cJ (bW _ _ ?_)
   refine bT hp ax hc rfl fun yj im=>?_
   refine kV ?_
   refine im _ _ ⟨_,_,_,?_,⟨i+1,by omega,rfl,rfl,rfl⟩,?_⟩
   ·first|omega|(simp only[List.length_cons];omega)|(dsimp only;omega)
   ·refine wa [0,1,2,3,4,5,6,7,8,9] ?_
    refine se ?_
    refine xX ?_;rw[Qh];rfl
 ·have kF:i=p.aE.length:=by simp at ht;omega
  subst kF
  refine cJ (cK _ _ ?_)
  refine aD fun yi ik=>?_
  refine ah (Gq ·) ?_
  refine aW ?_
  refine cU hp (fun τ' H' mm=>∃(i:Nat),(i≤p.au.length)∧mm=p.au.length - i∧H'=[.cells (ak ((eu p i).out.flatMap cr)),.cells (ak ((eu p i).dr.map iD)),.free,.free,.free,.cells (ak (aK p)),.cells [.d (.val (.slice none 0 0)),.d (.val (.slice none 0 0)),.d (.val (.slice none 0 0)),.d (.val (.slice none 0 0)),.d (iD 0)],.cells (ak (ia p)),.cells (ak (er p (bU p))),.cells (fe p (eu p i))]∧τ'=aF [(1,.op 5 0),(2,.op 6 0),(3,.d (bQ (aU p))),(4,.op 7 0),(5,.op 8 0),(6,.op 9 0),(11,.d (iD i))]) (p.au.length) ?_ ⟨0,cF _,rfl,rfl,rfl⟩ ?_
  ·refine se ?_
   rfl
  rintro τ' H' mm ⟨i,hi,rfl,rfl,rfl⟩
  refine aD fun yh fG=>?_
  refine ah (kV ·) ?_
  refine bf rfl (fun ht=>?_) (fun ht=>?_)
  ·have aA:i<p.au.length:=by simp at ht;omega
   have ho:=ub h i hi
   have nN:=C9 h ho
   have hle:=ho.len
   have vw:=EU (p:=p) (k:=i+1) (by omega)
   rw[tS]at vw
   have hpo:=L0 h i hi
   obtain⟨E,hE⟩:∃E,E=dW p (bU p) (eu p i).gs (nth p.au i).en:=⟨_,rfl⟩
   obtain⟨A,hA⟩:∃A,A=dj (mP p) E.1 (ft p) (nth E.2 0):=⟨_,rfl⟩
   obtain⟨D',hD⟩:∃D',D'=dW p (bU p) A.1 (nth p.au i).ad:=⟨_,rfl⟩
   obtain⟨W,hW⟩:∃W,W=dW p (bU p) D'.1 (nth p.au i).da:=⟨_,rfl⟩
   obtain⟨he,ha,hd,hw⟩:=Bx h aA ho hE hA hD hW
   have le:=he.len;have la:=ha.len;have ld:=hd.len;have lw:=hw.len
   have eS:eu p (i+1)=⟨W.1,(eu p i).out++[⟨8,i,0⟩]++cZ 9 i 3++cZ 10 i W.2.length,(eu p i).dr++[A.2]++jg D'.2 (nth p.au i).words++W.2⟩:=by rw[eu,←hE,←hA,←hD,←hW]
   have t0:=ho.tp h
   have cE:=BH p h true (bU p) (by omega) (nth p.au i).en (eu p i).gs ho.gi (by omega) (yw h t0) (h.me i aA).1
   have cA:=u4 (aU p).length E.1 (ft p) (nth E.2 0) (by omega) (by omega) he.gi (ho.jZ h he.pre) (he.at (List.prefix_refl _) (by decide))
   have cD:=BH p h true (bU p) (by omega) (nth p.au i).ad A.1 ha.gi (by omega) (yw h (t0.trans (he.pre.trans ha.pre))) (h.ma i aA)
   have cW:=BH p h true (bU p) (by omega) (nth p.au i).da D'.1 hd.gi (by omega) (yw h (t0.trans (he.pre.trans (ha.pre.trans hd.pre)))) (h.md i aA).1
   rw[←hE]at cE;rw[←hm,←hA]at cA;rw[←hD]at cD;rw[←hW]at cW
   have em:nth (aR p).au i=((nth p.au i).words,(nth p.au i).w):=tE aA
   have A4:=h.ct.m i (by simpa[aR]using aA)
   rw[em]at A4
   simp only at A4
   have wE:=he.wid;have wD:=hd.wid;have wW:=hw.wid
   have bD:=(fv h.ct (h.ma i aA)).2
   obtain⟨ad,yb⟩:∃ad,ad=jg D'.2 (nth p.au i).words:=⟨_,rfl⟩
   have XM:ad.length=3:=by rw[yb];exact va _ _
   have cad:=jii D'.2 (nth p.au i).words (by omega) (by omega)
   rw[←yb]at cad eS
   have m2:=M6 aA;have n1:=yfl aA;have n2:=yfm aA;have n3:=yfn aA
   have g0:(E.2.map iD)[0]? =some (iD (nth E.2 0)):=db (by omega)
   have kP:=KO (aU p).length (eu p i).gs (eu p i).out (eu p i).dr ⟨8,(i:Int),0⟩ A nN (by omega)
   obtain⟨O,hO⟩:∃O:Nat→Os,O=fun k=>⟨if k=0 then A.1 else D'.1,(eu p i).out++[⟨8,i,0⟩]++cZ 9 i k,(eu p i).dr++[A.2]++ad.take k⟩:=⟨_,rfl⟩
   have EA:O 0=⟨A.1,(eu p i).out++[⟨8,i,0⟩],(eu p i).dr++[A.2]⟩:=by rw[hO];simp[cZ]
   have Hz:∀k,k<3→O (k+1)=⟨D'.1,(O k).out++[⟨9,i,k⟩],(O k).dr++[nth ad k]⟩:=fun k hk=>by rw[hO];simp[vP,vQ (l:=ad) (k:=k) (by omega)]
   have CI:∀k,k≤3→(O k).dr.length=(O k).out.length∧(O k).out.length=(eu p i).out.length+1+k:=fun k hk=>by
    exact⟨by rw[hO];simp[dD,nN,XM];omega,by rw[hO];simp[dD];omega⟩
   have hO3:(O 3).gs=D'.1:=by rw[hO];rfl
   obtain⟨V,hV⟩:∃V:Nat→Os,V=fun k=>⟨if k=0 then D'.1 else W.1,(O 3).out++cZ 10 i k,(O 3).dr++W.2.take k⟩:=⟨_,rfl⟩
   have hV0:V 0=⟨D'.1,(O 3).out,(O 3).dr⟩:=by rw[hV];simp[cZ]
   have hVs:∀k,k<W.2.length→V (k+1)=⟨W.1,(V k).out++[⟨10,i,k⟩],(V k).dr++[nth W.2 k]⟩:=fun k hk=>by rw[hV];simp[vP,vQ hk]
   have hVl:∀k,k≤W.2.length→(V k).dr.length=(V k).out.length∧(V k).out.length=(O 3).out.length+k:=fun k hk=>by
    have:=(CI 3 (by omega)).1
    exact⟨by rw[hV];simp[dD,this];omega,by rw[hV];simp[dD]⟩
   have hVw:eu p (i+1)=V W.2.length:=by
    rw[eS,hV,hO]
    simp only[if_neg (show ¬W.2.length=0 by omega),List.take_length,List.append_assoc]
    rw[ui (show ad.length≤3 by omega)]
   have hO3l:=(CI 3 (by omega)).2
   clear hE hA hD hW yb eS hO hV
   refine bg (fG _ _ ?_)
   refine aD fun EJ lE=>?_
   refine aW ?_
   refine dO ax hc mixed rfl (q:=1) (by kernel_rfl) (by kernel_rfl) fun Is nv=>?_
   refine xr n1 ?_
   refine bx (cE) rfl ?_
   refine xr n1 ?_
   refine nv _ _ ?_
   refine jP ax hp hc mixed rfl [(0,[]),(1,[]),(2,[]),(3,[]),(4,[]),(5,[]),(6,[]),(7,[]),(8,[]),(9,[]),(10,[]),(11,[0]),(12,[]),(13,[])] [[],[],[1],[],[3],[],[5],[],[7],[7,8],[7,8,9],[3,4,5,6,7,8,9,10],[0,1,2,3,4,5,6,7,8,9,10,11],[0,1,2,3,4,5,6,7,8,9,10,11,12]] 0 (by kernel_rfl) fun Bk jX=>?_
   refine xq g0 ?_
   refine qy (cA) rfl ?_
   refine xq g0 ?_
   refine Jw ([.cells (ak ((eu p i).out.flatMap cr)),.cells (ak ((eu p i).dr.map iD)),.free,.free,.free]) ([.cells (ak (aK p)),.cells [.d (.val (.slice none 0 0)),.d (.val (.slice none 0 0)),.d (.val (.slice none 0 0)),.d (.val (.slice none 0 0)),.d (iD 0)],.cells (ak (ia p)),.cells (ak (er p (bU p))),.cells (fe p (eu p i)),.cells (ak (cM (aU p).length E))]) (kP) ?_
   rintro _ _ ⟨a,b,z,rfl,rfl⟩
   refine⟨rfl,?_⟩
   refine xq g0 ?_
   refine jX _ _ ?_
   refine bC hp (τ':=aF [(1,.op 5 0),(2,.op 6 0),(3,.d (bQ (aU p))),(4,.op 7 0),(5,.op 8 0),(6,.op 9 0),(11,.d (iD i))]) (H':=[.cells (ak ((O 0).out.flatMap cr)),.cells (ak ((O 0).dr.map iD)),.free,.free,.free,.cells (ak (aK p)),.cells [.d (.val (.slice none 0 0)),.d (.val (.slice none 0 0)),.d (.val (.slice none 0 0)),.d (.val (.slice none 0 0)),.d (iD 0)],.cells (ak (ia p)),.cells (ak (er p (bU p))),.cells (fe p (O 0))]) ?_ ?_
   ·refine Rt.trans (Rt.yd) ?_
    refine wa [2,3,11,12,13,5,6,7,8,9] ?_
    refine se ?_
    refine xX ?_;simp[EA,fe,er,ia,ao,ae,aK,sD,iD,ak,bt,bQ]
   have hOg:(O 0).gs=A.1:=by rw[EA]
   rw[←hOg]at cD
   refine dO ax hc mixed rfl (q:=1) (by kernel_rfl) (by kernel_rfl) fun Ir nu=>?_
   refine xr n2 ?_
   refine bx (cD) rfl ?_
   refine xr n2 ?_
   refine nu _ _ ?_
   refine dO ax hc mixed rfl (q:=0) (by kernel_rfl) (by kernel_rfl) fun Bj jE=>?_
   refine xr m2 ?_
   refine bx (cad) rfl ?_
   refine xr m2 ?_
   refine jE _ _ ?_
   refine aD fun zC ij=>?_
   refine ah (Gq ·) ?_
   refine aW ?_
   refine cU hp (fun τ' H' mm=>∃(k:Nat),(k≤3)∧mm=3 - k∧H'=[.cells (ak ((O k).out.flatMap cr)),.cells (ak ((O k).dr.map iD)),.free,.free,.free,.cells (ak (aK p)),.cells [.d (.val (.slice none 0 0)),.d (.val (.slice none 0 0)),.d (.val (.slice none 0 0)),.d (.val (.slice none 0 0)),.d (iD 0)],.cells (ak (ia p)),.cells (ak (er p (bU p))),.cells (fe p (O k)),.cells (ak (cM (aU p).length D'))]∧τ'=aF [(1,.op 5 0),(2,.op 6 0),(3,.d (bQ (aU p))),(4,.op 7 0),(5,.op 8 0),(6,.op 9 0),(11,.d (iD i)),(13,.op 10 0),(14,.d (ae ad)),(15,.d (iD k))]) (3) ?_ ⟨0,cF _,rfl,rfl,rfl⟩ ?_
   ·refine se ?_
    rfl
   rintro τ' H' mm ⟨k,qQ,rfl,rfl,rfl⟩
   refine aD fun EI lD=>?_
   refine ah (kV ·) ?_
   refine bf rfl (fun ht=>?_) (fun ht=>?_)
   ·have iA:k<3:=by simp at ht;omega
    obtain⟨l1,l2⟩:=CI k qQ
    have g1:(ad.map iD)[k]? =some (iD (nth ad k)):=db (by omega)
    have sA:=OF (aU p).length (O k).gs (O k).out (O k).dr ⟨9,(i:Int),(k:Int)⟩ (D'.1,nth ad k) l1 (by omega)
    have eo:=Hz k iA
    refine bg (lD _ _ ?_)
    refine aD fun CZ kr=>?_
    refine aW ?_
    refine u5 ax hp hc mixed rfl [(0,[]),(1,[]),(2,[]),(3,[]),(4,[]),(5,[]),(6,[]),(7,[]),(8,[]),(9,[]),(10,[]),(11,[]),(12,[])] [[],[],[],[1,2],[],[4],[],[],[6,7],[6,7,8],[4,5,6,7,8,9],[0,1,2,3,4,5,6,7,8,9,10],[0,1,2,3,4,5,6,7,8,9,10,11]] 0 (by kernel_rfl) fun K36 uO=>?_
    refine xq g1 ?_
    refine Jw ([.cells (ak ((O k).out.flatMap cr)),.cells (ak ((O k).dr.map iD)),.free,.free,.free]) ([.cells (ak (aK p)),.cells [.d (.val (.slice none 0 0)),.d (.val (.slice none 0 0)),.d (.val (.slice none 0 0)),.d (.val (.slice none 0 0)),.d (iD 0)],.cells (ak (ia p)),.cells (ak (er p (bU p))),.cells (fe p (O k)),.cells (ak (cM (aU p).length D'))]) (sA) ?_
    rintro _ _ ⟨a,b,z,rfl,rfl⟩
    refine⟨rfl,?_⟩
    refine xq g1 ?_
    refine uO _ _ (kr _ _ ?_)
    refine bT hp ax hc rfl fun Lp pt=>?_
    refine kV ?_
    refine pt _ _ ⟨_,_,_,?_,⟨k+1,by omega,rfl,rfl,rfl⟩,?_⟩
    ·first|omega|(simp only[List.length_cons];omega)|(dsimp only;omega)
    ·refine Rt.trans (Rt.yd) ?_
     refine wa [2,3,11,12,13,5,6,7,8,9,10] ?_
     refine se ?_
     refine xX ?_;simp[eo,iD,fe]
   ·have bM:k=3:=by simp at ht;omega
    subst bM
    refine cJ (ij _ _ ?_)
    refine bC hp (τ':=aF [(1,.op 5 0),(2,.op 6 0),(3,.d (bQ (aU p))),(4,.op 7 0),(5,.op 8 0),(6,.op 9 0),(11,.d (iD i))]) (H':=[.cells (ak ((O 3).out.flatMap cr)),.cells (ak ((O 3).dr.map iD)),.free,.free,.free,.cells (ak (aK p)),.cells [.d (.val (.slice none 0 0)),.d (.val (.slice none 0 0)),.d (.val (.slice none 0 0)),.d (.val (.slice none 0 0)),.d (iD 0)],.cells (ak (ia p)),.cells (ak (er p (bU p))),.cells (fe p (O 3))]) ?_ ?_
    ·refine wa [0,1,2,3,4,5,6,7,8,9] ?_
     refine se ?_
     exact M5
    rw[←hO3]at cW
    refine dO ax hc mixed rfl (q:=1) (by kernel_rfl) (by kernel_rfl) fun Iq ns=>?_
    refine xr n3 ?_
    refine bx (cW) rfl ?_
    refine xr n3 ?_
    refine ns _ _ ?_
    refine ah (Gq ·) ?_
    refine aW ?_
    refine cU hp (fun τ' H' mm=>∃(k:Nat),(k≤W.2.length)∧mm=W.2.length - k∧H'=[.cells (ak ((V k).out.flatMap cr)),.cells (ak ((V k).dr.map iD)),.free,.free,.free,.cells (ak (aK p)),.cells [.d (.val (.slice none 0 0)),.d (.val (.slice none 0 0)),.d (.val (.slice none 0 0)),.d (.val (.slice none 0 0)),.d (iD 0)],.cells (ak (ia p)),.cells (ak (er p (bU p))),.cells (fe p (V k)),.cells (ak (cM (aU p).length W))]∧τ'=aF [(1,.op 5 0),(2,.op 6 0),(3,.d (bQ (aU p))),(4,.op 7 0),(5,.op 8 0),(6,.op 9 0),(11,.d (iD i)),(16,.op 10 0),(17,.d (iD k))]) (W.2.length) ?_ ⟨0,cF _,rfl,rfl,rfl⟩ ?_
    ·refine se ?_
     refine xX ?_;simp[hV0,hO3,fe,cM,er,ia,ao,ae,aK,sD,iD,ak,bt,bQ]
    rintro τ' H' mm ⟨k,qQ,rfl,rfl,rfl⟩
    refine aD fun QV sR=>?_
    refine ah (kV ·) ?_
    refine bf rfl (fun ht=>?_) (fun ht=>?_)
    ·have iA:k<W.2.length:=by simp at ht;omega
     obtain⟨l1,l2⟩:=hVl k qQ
     have g1:(W.2.map iD)[k]? =some (iD (nth W.2 k)):=db (by omega)
     have sA:=OF (aU p).length (V k).gs (V k).out (V k).dr ⟨10,(i:Int),(k:Int)⟩ (W.1,nth W.2 k) l1 (by omega)
     have eo:=hVs k iA
     refine bg (sR _ _ ?_)
     refine aD fun Io np=>?_
     refine aW ?_
     refine u5 ax hp hc mixed rfl [(0,[]),(1,[]),(2,[]),(3,[]),(4,[]),(5,[]),(6,[]),(7,[]),(8,[]),(9,[]),(10,[]),(11,[]),(12,[]),(13,[])] [[],[],[],[1,2],[],[4],[],[6],[],[6,7,8],[6,7,8,9],[4,5,6,7,8,9,10],[0,1,2,3,4,5,6,7,8,9,10,11],[0,1,2,3,4,5,6,7,8,9,10,11,12]] 0 (by kernel_rfl) fun EH lC=>?_
     refine xq g1 ?_
     refine Jw ([.cells (ak ((V k).out.flatMap cr)),.cells (ak ((V k).dr.map iD)),.free,.free,.free]) ([.cells (ak (aK p)),.cells [.d (.val (.slice none 0 0)),.d (.val (.slice none 0 0)),.d (.val (.slice none 0 0)),.d (.val (.slice none 0 0)),.d (iD 0)],.cells (ak (ia p)),.cells (ak (er p (bU p))),.cells (fe p (V k)),.cells (ak (cM (aU p).length W))]) (sA) ?_
     rintro _ _ ⟨a,b,z,rfl,rfl⟩
     refine⟨rfl,?_⟩
     refine xq g1 ?_
     refine lC _ _ (np _ _ ?_)
     refine bT hp ax hc rfl fun K44 wS=>?_
     refine kV ?_
     refine wS _ _ ⟨_,_,_,?_,⟨k+1,by omega,rfl,rfl,rfl⟩,?_⟩
     ·first|omega|(simp only[List.length_cons];omega)|(dsimp only;omega)
     ·refine Rt.trans (Rt.yd) ?_
      refine wa [2,3,11,12,13,5,6,7,8,9,10] ?_
      refine se ?_
      refine xX ?_;simp[eo,iD,fe]
    ·have bM:k=W.2.length:=by simp at ht;omega
     subst bM
     refine cJ (lE _ _ ?_)
     refine bT hp ax hc rfl fun Lo sQ=>?_
     refine kV ?_
     refine sQ _ _ ⟨_,_,_,?_,⟨i+1,by omega,rfl,rfl,rfl⟩,?_⟩
     ·first|omega|(simp only[List.length_cons];omega)|(dsimp only;omega)
     ·refine wa [0,1,2,3,4,5,6,7,8,9] ?_
      refine se ?_
      refine xX ?_;rw[hVw];rfl
  ·have kF:i=p.au.length:=by simp at ht;omega
   subst kF
   have hoM:=ub h _ (bJ _)
   have qe:=C9 h hoM
   have hleM:=hoM.len
   have hcM:=EU (p:=p) (k:=p.au.length) (by omega)
   have wJ:kh p=⟨aU p,(eu p p.au.length).gs,(eu p p.au.length).out,(eu p p.au.length).dr⟩:=rfl
   have gq:=jhu (kh p) (by rw[wJ];simp only;omega) (by rw[wJ];simp only;omega)
   rw[wJ]at gq
   refine cJ (ik _ _ ?_)
   refine bC hp (τ':=aF [(2,.op 2 0),(3,.d (bQ (aU p))),(6,.op 3 0)]) (H':=[.dead,.dead,.cells [.d (.val (.slice none 0 0)),.d (.val (.slice none 0 0)),.d (.val (.slice none 0 0)),.d (.val (.slice none 0 0)),.d (iD 0)],.cells [.d (iD (aU p).length),.d (bt (eu p p.au.length).gs),.d (bQ (eu p p.au.length).out),.d (ae (eu p p.au.length).dr)]]) ?_ ?_
   ·refine wa [0,1,6,9] ?_
    refine Rt.trans (Rt.heap (H':=[.cells (ak ((eu p p.au.length).out.flatMap cr)),.cells (ak ((eu p p.au.length).dr.map iD)),.cells [.d (.val (.slice none 0 0)),.d (.val (.slice none 0 0)),.d (.val (.slice none 0 0)),.d (.val (.slice none 0 0)),.d (iD 0)],.cells (fe p (eu p p.au.length))]) (by simp only[cP,Nat.reduceAdd,↓reduceIte,Nat.reduceEqDiff,fe,kK,jc,er,ia,ao,ae,dI,aK,sD,dy,dG,gI,cM,bt,bQ,xt,cr,fE,aQ,List.length_map];first|done|rfl)) ?_
    refine Rt.trans (Rt.fz (id:=0) (l:=((eu p p.au.length).out.flatMap cr)) rfl) ?_
    refine Rt.trans (Rt.heap (H':=[.dead,.cells (ak ((eu p p.au.length).dr.map iD)),.cells [.d (.val (.slice none 0 0)),.d (.val (.slice none 0 0)),.d (.val (.slice none 0 0)),.d (.val (.slice none 0 0)),.d (iD 0)],.cells [.d (iD (aU p).length),.d (bt (eu p p.au.length).gs),.d (bQ (eu p p.au.length).out),.os 1 1 0 (eu p p.au.length).out.length]]) (by simp only[cP,Nat.reduceAdd,↓reduceIte,Nat.reduceEqDiff,fe,kK,jc,er,ia,ao,ae,dI,aK,sD,dy,dG,gI,cM,bt,bQ,xt,cr,fE,aQ,List.length_map];first|done|rfl)) ?_
    refine Rt.trans (Rt.fz (id:=1) (l:=((eu p p.au.length).dr.map iD)) rfl) ?_
    refine se ?_
    refine xX ?_;simp[fE,qe,ae,iD,bt,bQ]
   refine ah (kV ·) ?_
   refine aD fun CY jC=>?_
   refine aZ hp ax hc rfl fun QU sP=>?_
   refine kV ?_
   refine bx (gq) rfl ?_
   refine kV ?_
   refine sP _ _ ?_
   refine bf rfl (fun ht=>?_) (fun ht=>?_)
   ·have pr:600<2+(aU p).length+(kh p).gates.length:=by have:=of_decide_eq_true ht;rw[wJ];simp only;omega
    refine ah (kV ·) ?_
    refine aM ?_
    try dsimp only[cC,cI]
    refine cS rfl ?_
    refine X2 ?_
    show ai _ _=_
    refine V0 ?_
    unfold EY;rw[if_pos pr];rfl
   ·have pr:¬600<2+(aU p).length+(kh p).gates.length:=by have:=of_decide_eq_false ht;rw[wJ];simp only;omega
    refine bg (jC _ _ ?_)
    refine ah (kV ·) ?_
    refine aM ?_
    try dsimp only[cC,cI]
    refine cS rfl ?_
    refine X2 ?_
    show ai _ _=_
    refine V0 ?_
    unfold EY;rw[if_neg pr];rfl
theorem jmc(p:Pr)(h:cB p)(hn:(aU p).length≤200)(hb:2+(aU p).length+oG p≤600):dq prog 12 [dI p] (.d (.agg (Zu p))):=by
 have hr:=jc4 p h (by omega)
 have hl:=(ub h _ (bJ _)).len
 have hc:tS p p.au.length=oG p:=rfl
 unfold EY at hr
 rwa[if_neg (by show ¬600<2+(aU p).length+(eu p p.au.length).gs.length;omega)]at hr
section
section
variable {p:Pr}
theorem X1(h:jL p):∀i,i≤p.aC.length→(fg p i).out.length≤3*i
 |0,_=>by simp[fg]
 |i+1,hi=>by
  have ih:=X1 h i (by omega)
  have hs:=(zY h.ok (show i<p.aC.length by omega) (yA h.ok i (by omega))).b.wid
  have:=(h.rw i (by omega)).2
  rw[fg];simp only[List.length_append,dD,hs];omega
theorem X0(h:jL p):∀i,i≤p.ag.length→(gT p i).out.length≤9+i
 |0,_=>by have:=X1 h _ (bJ _);have:=h.r3;rw[gT];omega
 |i+1,hi=>by
  have ih:=X0 h i (by omega)
  rw[gT];simp only[List.length_append,List.length_cons,List.length_nil];omega
theorem XZ(h:jL p):∀i,i≤p.aE.length→(gN p i).out.length≤11+3*i
 |0,_=>by have:=X0 h _ (bJ _);have:=h.t2;rw[gN];omega
 |i+1,hi=>by
  have ih:=XZ h i (by omega)
  have hs:=(By h.ok (show i<p.aE.length by omega) (Ad h.ok i (by omega))).hb.wid
  have:=(h.qw i (by omega)).2
  rw[gN];simp only[List.length_append,List.length_cons,List.length_nil,dD,hs];omega
theorem Xv(h:jL p):∀i,i≤p.au.length→(eu p i).out.length≤17+6*i
 |0,_=>by have:=XZ h _ (bJ _);have:=h.q2;rw[eu];omega
 |i+1,hi=>by
  have ih:=Xv h i (by omega)
  have hs:=(Bx h.ok (show i<p.au.length by omega) (ub h.ok i (by omega)) rfl rfl rfl rfl).hw.wid
  have:=(h.mw i (by omega)).2.1
  rw[eu];simp only[List.length_append,List.length_cons,List.length_nil,dD,hs];omega
theorem vM{α:Type}{P:α→Prop}{l m:List α}(h:∀x∈l,P x)(h':∀x∈m,P x):∀x∈l++m,P x:=fun x hx=>by
 rcases p6.1 hx with hx|hx
 ·exact h x hx
 ·exact h' x hx
theorem Ab{P:aT→Prop}{kind i:Int}{w:Nat}(h:∀k,k<w→P ⟨kind,i,(k:Int)⟩):∀x∈cZ kind i w,P x:=fun x hx=>by
 obtain⟨k,hk,rfl⟩:=mF.1 hx
 exact h k (tv.1 hk)
theorem VZ(h:jL p):∀i,i≤p.aC.length→∀w∈gW p i,nB w
 |0,_=>by intro w hw;simp[gW]at hw
 |i+1,hi=>by
  rw[gW]
  have:=(h.rw i (by omega)).2;have:=h.r3
  exact vM (VZ h i (by omega)) (Ab fun k hk=>⟨by simp,by simp,by simp,by simp,by simp only;omega,by simp only;omega⟩)
theorem VY(h:jL p):∀i,i≤p.ag.length→∀w∈gM p i,nB w
 |0,_=>VZ h _ (bJ _)
 |i+1,hi=>by
  rw[gM]
  have:=(h.tw i (by omega)).2;have:=h.t2
  exact vM (vM (VY h i (by omega)) (Ab fun k hk=>⟨by simp,by simp,by simp,by simp,by simp only;omega,by simp only;omega⟩)) (Ab fun k hk=>⟨by simp,by simp,by simp,by simp,by simp only;omega,by simp only;omega⟩)
theorem VX(h:jL p):∀i,i≤p.aE.length→∀w∈iN p i,nB w
 |0,_=>VY h _ (bJ _)
 |i+1,hi=>by
  rw[iN]
  have:=h.q2
  exact vM (VX h i (by omega)) (Ab fun k hk=>⟨by simp,by simp,by simp,by simp,by simp only;omega,by simp only;omega⟩)
theorem OE{P:aT→Prop}{x:aT}(h:P x):∀w∈[x],P w:=fun w hw=>by rw[rN.1 hw];exact h
theorem VW(h:jL p):∀i,i≤p.aC.length→∀w∈(fg p i).out,jQ w
 |0,_=>by intro w hw;simp[fg]at hw
 |i+1,hi=>by
  have hs:=(zY h.ok (show i<p.aC.length by omega) (yA h.ok i (by omega))).b.wid
  rw[fg];simp only[hs]
  have:=(h.rw i (by omega)).2;have:=h.r3
  exact vM (VW h i (by omega)) (Ab fun k hk=>⟨by simp,by simp,by simp,by simp only;omega,by simp only;omega⟩)
theorem VV(h:jL p):∀i,i≤p.ag.length→∀w∈(gT p i).out,jQ w
 |0,_=>VW h _ (bJ _)
 |i+1,hi=>by
  rw[gT];simp only
  have:=h.t2
  exact vM (VV h i (by omega)) (OE ⟨by simp,by simp,by simp,by simp,by simp only;omega⟩)
theorem VU(h:jL p):∀i,i≤p.aE.length→∀w∈(gN p i).out,jQ w
 |0,_=>VV h _ (bJ _)
 |i+1,hi=>by
  have hs:=(By h.ok (show i<p.aE.length by omega) (Ad h.ok i (by omega))).hb.wid
  rw[gN];simp only[hs]
  have:=(h.qw i (by omega)).2;have:=h.q2
  exact vM (vM (VU h i (by omega)) (OE ⟨by simp,by simp,by simp,by simp,by simp only;omega⟩)) (Ab fun k hk=>⟨by simp,by simp,by simp,by simp only;omega,by simp only;omega⟩)
theorem VT(h:jL p):∀i,i≤p.au.length→∀w∈(eu p i).out,jQ w
 |0,_=>VU h _ (bJ _)
 |i+1,hi=>by
  have hs:=(Bx h.ok (show i<p.au.length by omega) (ub h.ok i (by omega)) rfl rfl rfl rfl).hw.wid
  rw[eu];simp only[hs]
  have:=(h.mw i (by omega)).2.1;have:=h.m1
  exact vM (vM (vM (VT h i (by omega)) (OE ⟨by simp,by simp,by simp,by simp,by simp only;omega⟩)) (Ab fun k hk=>⟨by simp,by simp,by simp,by simp only;omega,by simp only;omega⟩)) (Ab fun k hk=>⟨by simp,by simp,by simp,by simp only;omega,by simp only;omega⟩)
theorem yfp(h:jL p):QS (kh p):=by
 have ho:=ub h.ok _ (bJ _)
 have h1:=ho.len;have h2:=h.cost;have h3:=h.ins
 have h4:=Xv h _ (bJ _);have h5:=h.m1
 have hc:tS p p.au.length=oG p:=rfl
 refine⟨by show(aU p).length≤_;omega,by show(eu p p.au.length).gs.length≤_;omega,by show(eu p p.au.length).out.length≤_;omega,ho.ol,fun k hk=>?_,?_,VX h _ (bJ _),VT h _ (bJ _)⟩
 ·have:=ho.gi.rg k hk
  exact⟨this.o1,this.o2,this.a0,this.a1,this.b0,this.b1,this.c0,this.c1,this.n0,Int.lt_of_lt_of_le this.n1 (by decide)⟩
 ·exact fun k hk=>ho.dn k hk
end
end
section
section
variable {p:Pr} {s:EF} {jA:List Head} {kN:List Bool}
end
end
theorem yj7:(type_of% @Fu):=@Fu
theorem Xu{f:Fn}{a b:Array Value}:lQ (.d (.val (.func f a b)))=some [.d (.val (.func f a b))]:=rfl
theorem yj8:(type_of% @ZI):=@ZI
theorem yj9:(type_of% @jo6):=@jo6
theorem yka:(type_of% @ZQ):=@ZQ
theorem ykb:(type_of% @BW):=@BW
end Go.Proofs.YtapjobndmmkanaaGreat
