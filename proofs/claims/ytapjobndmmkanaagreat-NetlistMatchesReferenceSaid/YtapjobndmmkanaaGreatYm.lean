/- A memory's address. -/
import Derived.Test.YtapjobndmmkanaaGreatQr
import Derived.Test.YtapjobndmmkanaaGreatYj
import Derived.Test.YtapjobndmmkanaaGreatWe
set_option linter.unusedVariables false
set_option linter.unusedSimpArgs false
set_option maxRecDepth 100000
set_option maxHeartbeats 4000000
namespace Go.Proofs.YtapjobndmmkanaaGreat
open Go.Proofs.Tryz
open Go Go.RowKit
theorem Lx{l:List Int}{k:Nat}(h:k<3):((kT l k).map iD).set k (iD (nth l k))=(kT l (k+1)).map iD:=by
 rcases(show k=0∨k=1∨k=2 by omega)with rfl|rfl|rfl<;>rfl
theorem zI{p q:Prop}(hq:q)(h:p=q:=by
 conv=>lhs;simp -dsimp -implicitDefEqProofs (disch:=first|assumption|omega|(simp only[aH,p4]<;>omega)|decide) only[aN,↓reduceIte,Nat.reduceEqDiff,Nat.reduceAdd,D.fix,Int.reduceToNat,Nat.reduceMul,Nat.reduceBNe,Nat.reduceBEq,ae,db,Int.toNat_natCast,bw]):p:=h.mpr hq
theorem Jj{m:List Nat}{τ τ':Fr}{H H':av}(h2:H=H')(h:fw τ τ':=by
 repeat (first|exact cw _|refine cg ?_ (by first|rfl|(simp[aX,p4];done)|simp[aX,p4, *]))):Rt m τ H τ' H':=Rt.end h h2
theorem vG{p q r:Prop}(e:r)(hq:q)(h:r→p=q:=by
 intro hY
 conv=>lhs;simp -dsimp -implicitDefEqProofs (disch:=first|assumption|omega|(simp only[aH,p4]<;>omega)|decide) only[aN,↓reduceIte,Nat.reduceEqDiff,Nat.reduceAdd,D.fix,Int.reduceToNat,Nat.reduceMul,Nat.reduceBNe,Nat.reduceBEq,ae,db,Int.toNat_natCast,bw,hY]):p:=(h e).mpr hq
theorem zH{p q:Prop}(hq:q)(h:p=q:=by
 conv=>lhs;simp -dsimp -implicitDefEqProofs (disch:=first|assumption|omega|(simp only[aH,p4]<;>omega)|decide) only[aN,↓reduceIte,Nat.reduceEqDiff,Nat.reduceAdd,D.fix,Int.reduceToNat,Nat.reduceMul,Nat.reduceBNe,Nat.reduceBEq,ae,db,Int.toNat_natCast,kT,ak,List.map_cons,List.map_nil,bw]):p:=h.mpr hq
theorem zG{p q:Prop}(hq:q)(h:p=q:=by
 conv=>lhs;simp -dsimp -implicitDefEqProofs (disch:=first|assumption|omega|(simp only[aH,p4]<;>omega)|decide) only[aN,↓reduceIte,Nat.reduceEqDiff,Nat.reduceAdd,D.fix,Int.reduceToNat,Nat.reduceMul,Nat.reduceBNe,Nat.reduceBEq,ae,db,Int.toNat_natCast,LQ,OQ]):p:=h.mpr hq
theorem AM{p q:Prop}(hq:q)(h:p=q:=by
 conv=>lhs;simp (disch:=first|assumption|omega|(simp only[aH,p4]<;>omega)|decide) only[fA,Nat.reduceAdd,D.fix,↓reduceIte,Nat.reduceEqDiff,ae,db,Int.toNat_natCast]):p:=h.mpr hq
theorem MV{p q:Prop}(hq:q)(h:p=q:=by
 conv=>lhs;simp only[cP,Nat.reduceAdd,↓reduceIte,Nat.reduceEqDiff,ae,db,Int.toNat_natCast]):p:=h.mpr hq
theorem jjm(l:List Int)(w:Nat)(hl:l.length≤100)(hw:w≤8):dq prog 96 [ae l,iD w] (.d (.agg ((jg l w).map iD))):=by
 refine fh (fn:=f96) (by kernel_rfl) func96 rfl (cn rfl) fun c hc hp=>?_
 refine dY (τ':=aF [(0,.d (ae l)),(1,.d (iD w))]) (by repeat (first|exact cw _|refine cg ?_ (by first|rfl|(simp[aX,p4];done)|simp[aX,p4, *]))) ?_
 refine ah (zI ·) ?_
 refine ah (zI ·) ?_
 refine aD fun K3 cm=>?_
 refine aZ hp ax hc rfl fun K4 dE=>?_
 simp -dsimp -implicitDefEqProofs (disch:=first|assumption|omega|(simp only[aH,p4]<;>omega)|decide) only[aN,↓reduceIte,Nat.reduceEqDiff,Nat.reduceAdd,D.fix,Int.reduceToNat,Nat.reduceMul,Nat.reduceBNe,Nat.reduceBEq,ae,db,Int.toNat_natCast]
 refine dE _ _ ?_
 refine aW ?_
 refine cU hp (fun τ' H' mm=>∃(k:Nat),(k≤3∧∀j,j<k→j<l.length∧2^j<w)∧mm=3 - k∧H'=[.cells (ak ((kT l 0).map iD)),.cells (ak ((kT l k).map iD))]∧τ'=aF [(0,.d (ae l)),(1,.d (iD w)),(4,.op 0 0),(5,.op 1 0),(6,.d (iD k))]) (3) ?_ ⟨0,⟨by omega,fun j hj=>by omega⟩,rfl,rfl,rfl⟩ ?_
 ·refine Jj ?_
  rfl
 rintro τ' H' mm ⟨k,⟨hk,fK⟩,rfl,rfl,rfl⟩
 refine aD fun K5 dx=>?_
 refine aZ hp ax hc rfl fun K6 cK=>?_
 have Pt:(k=0∧l.length≤0)∨(k=0∧0<l.length∧w≤1)∨(k=0∧0<l.length∧1<w)∨(k=1∧l.length≤1)∨(k=1∧1<l.length∧w≤2)∨(k=1∧1<l.length∧2<w)∨(k=2∧l.length≤2)∨(k=2∧2<l.length∧w≤4)∨(k=2∧2<l.length∧4<w)∨(k=3∧l.length≤3)∨(k=3∧3<l.length∧w≤8):=by omega
 rcases Pt with⟨rfl,h1⟩|⟨rfl,h1,h2⟩|⟨rfl,h1,h2⟩|⟨rfl,h1⟩|⟨rfl,h1,h2⟩|⟨rfl,h1,h2⟩|⟨rfl,h1⟩|⟨rfl,h1,h2⟩|⟨rfl,h1,h2⟩|⟨rfl,h1⟩|⟨rfl,h1,h2⟩
 ·have qb:decide (((0:Nat):Int)<l.length)=false:=decide_eq_false (by omega)
  have hs:IntKind.i64.wrap (1*2^min (0:Nat) 64)=((1:Nat):Int):=by decide
  have qc:=qb
  refine vG (aw qb (aw hs qc)) ?_
  refine cK _ _ ?_
  refine bA ?_
  have he:=sj hk fK (by omega)
  refine cJ (cm _ _ ?_)
  refine ah (zH ·) ?_
  refine aM ?_
  try dsimp only[cC,cI]
  refine cS rfl ?_
  refine zG ?_
  show ai _ _=_
  refine AM ?_
  rw[←he];rfl
 ·have qb:decide (((0:Nat):Int)<l.length)=true:=decide_eq_true (by omega)
  have hs:IntKind.i64.wrap (1*2^min (0:Nat) 64)=((1:Nat):Int):=by decide
  have qc:decide (((1:Nat):Int)<(w:Int))=false:=decide_eq_false (by omega)
  refine vG (aw qb (aw hs qc)) ?_
  refine cK _ _ ?_
  refine bA ?_
  have he:=sj hk fK (by omega)
  refine cJ (cm _ _ ?_)
  refine ah (zH ·) ?_
  refine aM ?_
  try dsimp only[cC,cI]
  refine cS rfl ?_
  refine zG ?_
  show ai _ _=_
  refine AM ?_
  rw[←he];rfl
 ·have qb:decide (((0:Nat):Int)<l.length)=true:=decide_eq_true (by omega)
  have hs:IntKind.i64.wrap (1*2^min (0:Nat) 64)=((1:Nat):Int):=by decide
  have qc:decide (((1:Nat):Int)<(w:Int))=true:=decide_eq_true (by omega)
  refine vG (aw qb (aw hs qc)) ?_
  refine cK _ _ ?_
  refine dh ?_
  have cd:=Lx (l:=l) (k:=0) (by decide)
  refine bg (dx _ _ ?_)
  refine aD fun K9 cX=>?_
  refine aW ?_
  refine fj (zI ·) (cX _ _ ?_)
  refine bT hp ax hc rfl fun mh cQ=>?_
  refine zI ?_
  refine cQ _ _ ⟨_,_,_,?_,⟨1,⟨by omega,fun j hj=>by rcases(show j=0 by omega)with rfl<;>(constructor<;>omega)⟩,rfl,rfl,rfl⟩,?_⟩
  ·first|omega|(simp only[List.length_cons];omega)|(dsimp only;omega)
  ·refine Rt.trans (Rt.gc (keep:=[0,1]) (by decide) (by decide) (by simp[eJ,dg])) ?_
   refine Jj ?_
   refine MV ?_;rw[←cd];simp[kT]
 ·have qb:decide (((1:Nat):Int)<l.length)=false:=decide_eq_false (by omega)
  have hs:IntKind.i64.wrap (1*2^min (1:Nat) 64)=((2:Nat):Int):=by decide
  have qc:=qb
  refine vG (aw qb (aw hs qc)) ?_
  refine cK _ _ ?_
  refine bA ?_
  have he:=sj hk fK (by omega)
  refine cJ (cm _ _ ?_)
  refine ah (zH ·) ?_
  refine aM ?_
  try dsimp only[cC,cI]
  refine cS rfl ?_
  refine zG ?_
  show ai _ _=_
  refine AM ?_
  rw[←he];rfl
 ·have qb:decide (((1:Nat):Int)<l.length)=true:=decide_eq_true (by omega)
  have hs:IntKind.i64.wrap (1*2^min (1:Nat) 64)=((2:Nat):Int):=by decide
  have qc:decide (((2:Nat):Int)<(w:Int))=false:=decide_eq_false (by omega)
  refine vG (aw qb (aw hs qc)) ?_
  refine cK _ _ ?_
  refine bA ?_
  have he:=sj hk fK (by omega)
  refine cJ (cm _ _ ?_)
  refine ah (zH ·) ?_
  refine aM ?_
  try dsimp only[cC,cI]
  refine cS rfl ?_
  refine zG ?_
  show ai _ _=_
  refine AM ?_
  rw[←he];rfl
 ·have qb:decide (((1:Nat):Int)<l.length)=true:=decide_eq_true (by omega)
  have hs:IntKind.i64.wrap (1*2^min (1:Nat) 64)=((2:Nat):Int):=by decide
  have qc:decide (((2:Nat):Int)<(w:Int))=true:=decide_eq_true (by omega)
  refine vG (aw qb (aw hs qc)) ?_
  refine cK _ _ ?_
  refine dh ?_
  have cd:=Lx (l:=l) (k:=1) (by decide)
  refine bg (dx _ _ ?_)
  refine aD fun re dT=>?_
  refine aW ?_
  refine fj (zI ·) (dT _ _ ?_)
  refine bT hp ax hc rfl fun pE dB=>?_
  refine zI ?_
  refine dB _ _ ⟨_,_,_,?_,⟨2,⟨by omega,fun j hj=>by rcases(show j=0∨j=1 by omega)with rfl|rfl<;>(constructor<;>omega)⟩,rfl,rfl,rfl⟩,?_⟩
  ·first|omega|(simp only[List.length_cons];omega)|(dsimp only;omega)
  ·refine Rt.trans (Rt.gc (keep:=[0,1]) (by decide) (by decide) (by simp[eJ,dg])) ?_
   refine Jj ?_
   refine MV ?_;rw[←cd];simp[kT]
 ·have qb:decide (((2:Nat):Int)<l.length)=false:=decide_eq_false (by omega)
  have hs:IntKind.i64.wrap (1*2^min (2:Nat) 64)=((4:Nat):Int):=by decide
  have qc:=qb
  refine vG (aw qb (aw hs qc)) ?_
  refine cK _ _ ?_
  refine bA ?_
  have he:=sj hk fK (by omega)
  refine cJ (cm _ _ ?_)
  refine ah (zH ·) ?_
  refine aM ?_
  try dsimp only[cC,cI]
  refine cS rfl ?_
  refine zG ?_
  show ai _ _=_
  refine AM ?_
  rw[←he];rfl
 ·have qb:decide (((2:Nat):Int)<l.length)=true:=decide_eq_true (by omega)
  have hs:IntKind.i64.wrap (1*2^min (2:Nat) 64)=((4:Nat):Int):=by decide
  have qc:decide (((4:Nat):Int)<(w:Int))=false:=decide_eq_false (by omega)
  refine vG (aw qb (aw hs qc)) ?_
  refine cK _ _ ?_
  refine bA ?_
  have he:=sj hk fK (by omega)
  refine cJ (cm _ _ ?_)
  refine ah (zH ·) ?_
  refine aM ?_
  try dsimp only[cC,cI]
  refine cS rfl ?_
  refine zG ?_
  show ai _ _=_
  refine AM ?_
  rw[←he];rfl
 ·have qb:decide (((2:Nat):Int)<l.length)=true:=decide_eq_true (by omega)
  have hs:IntKind.i64.wrap (1*2^min (2:Nat) 64)=((4:Nat):Int):=by decide
  have qc:decide (((4:Nat):Int)<(w:Int))=true:=decide_eq_true (by omega)
  refine vG (aw qb (aw hs qc)) ?_
  refine cK _ _ ?_
  refine dh ?_
  have cd:=Lx (l:=l) (k:=2) (by decide)
  refine bg (dx _ _ ?_)
  refine aD fun rY eN=>?_
  refine aW ?_
  refine fj (zI ·) (eN _ _ ?_)
  refine bT hp ax hc rfl fun yj im=>?_
  refine zI ?_
  refine im _ _ ⟨_,_,_,?_,⟨3,⟨by omega,fun j hj=>by rcases(show j=0∨j=1∨j=2 by omega)with rfl|rfl|rfl<;>(constructor<;>omega)⟩,rfl,rfl,rfl⟩,?_⟩
  ·first|omega|(simp only[List.length_cons];omega)|(dsimp only;omega)
  ·refine Rt.trans (Rt.gc (keep:=[0,1]) (by decide) (by decide) (by simp[eJ,dg])) ?_
   refine Jj ?_
   refine MV ?_;rw[←cd];simp[kT]
 ·have qb:decide (((3:Nat):Int)<l.length)=false:=decide_eq_false (by omega)
  have hs:IntKind.i64.wrap (1*2^min (3:Nat) 64)=((8:Nat):Int):=by decide
  have qc:=qb
  refine vG (aw qb (aw hs qc)) ?_
  refine cK _ _ ?_
  refine bA ?_
  have he:=sj hk fK (by omega)
  refine cJ (cm _ _ ?_)
  refine ah (zH ·) ?_
  refine aM ?_
  try dsimp only[cC,cI]
  refine cS rfl ?_
  refine zG ?_
  show ai _ _=_
  refine AM ?_
  rw[←he];rfl
 ·have qb:decide (((3:Nat):Int)<l.length)=true:=decide_eq_true (by omega)
  have hs:IntKind.i64.wrap (1*2^min (3:Nat) 64)=((8:Nat):Int):=by decide
  have qc:decide (((8:Nat):Int)<(w:Int))=false:=decide_eq_false (by omega)
  refine vG (aw qb (aw hs qc)) ?_
  refine cK _ _ ?_
  refine bA ?_
  have he:=sj hk fK (by omega)
  refine cJ (cm _ _ ?_)
  refine ah (zH ·) ?_
  refine aM ?_
  try dsimp only[cC,cI]
  refine cS rfl ?_
  refine zG ?_
  show ai _ _=_
  refine AM ?_
  rw[←he];rfl
theorem LX{f:Nat→Int}{gs:Gs}:∀n,bL (fun gs i=>(gs,f i)) gs n=(gs,(List.range n).map f)
 |0=>rfl
 |n+1=>by rw[bL,LX n];simp[List.range_succ]
theorem E6{a b c:Int}:Value.agg #[.int .i64 a,.int .i64 b,.int .i64 c]=wV ⟨a,b,c⟩:=rfl
def xA(al:List (List Int))(f:FuncId):av:=[bP,.cells [.d (ao al)],.cells [.d (.val (.func (.func f) #[] #[]))]]
theorem NV{p q:Prop}(hq:q)(h:p=q:=by
 conv=>lhs;simp -dsimp -implicitDefEqProofs (disch:=first|assumption|omega|(simp only[aH,aQ,bc]<;>omega)|decide) only[aN,↓reduceIte,Nat.reduceEqDiff,Nat.reduceAdd,D.fix,Int.reduceToNat,Nat.reduceMul,Nat.reduceBNe,Nat.reduceBEq,ch,bH,bO,aK,aY,bP,List.cons_append,List.nil_append,xA,ao]):p:=h.mpr hq
theorem D3{p q:Prop}(hq:q)(h:p=q:=by
 conv=>lhs;simp -dsimp -implicitDefEqProofs (disch:=first|assumption|omega|(simp only[aH,aQ,bc]<;>omega)|decide) only[aN,↓reduceIte,Nat.reduceEqDiff,Nat.reduceAdd,D.fix,Int.reduceToNat,Nat.reduceMul,Nat.reduceBNe,Nat.reduceBEq,mC,ch,bH,bO,aK,aY,bP,List.cons_append,List.nil_append,xA,ao,db,bw]):p:=h.mpr hq
theorem MU{P:Program}{sm:List Nat}{N:Nat}{τ0 τ:Fr}{H:av}{f:FuncId}{args:List AV}{K0 KK:AV→av→Prop}{ks:List Nat}(S T:av)(h:cY P ks f args S K0)(hK:∀x S',K0 x S'→S'.length=S.length∧KK x (S'++T))(hH:H=S++T:=by
 rfl) (hN:S.length≤N:=by
 exact cn rfl) (hm:sm.all (aL ks S.length)=true:=by
 first|rfl|(simp[AV.aj,AV.allI,bo,bq,bp,aL,aO,bn,br,bH,bO,bP,xA];done)|(intro o ho;simp at ho;done)) (hτ:∀t,(τ t).allI (aL ks S.length)=true:=by
 exact fun t=>fL (by first|rfl|(simp[AV.aj,AV.allI,bo,bq,bp,aL,aO,bn,br,bH,bO,bP,xA];done)|(intro o ho;simp at ho;done)) t) (h0:∀t,(τ0 t).allI (aL ks S.length)=true:=by
 exact fun t=>fL (by first|rfl|(simp[AV.aj,AV.allI,bo,bq,bp,aL,aO,bn,br,bH,bO,bP,xA];done)|(intro o ho;simp at ho;done)) t) (ha:AV.aj (aO S.length) args=true:=by
 first|rfl|(simp[AV.aj,AV.allI,bo,bq,bp,aL,aO,bn,br,bH,bO,bP,xA];done)|(intro o ho;simp at ho;done)) (hS:∀o∈S,o.allI (aO S.length)=true:=by
 first|rfl|(simp[AV.aj,AV.allI,bo,bq,bp,aL,aO,bn,br,bH,bO,bP,xA];done)|(intro o ho;simp at ho;done)) (hT:∀o∈T,o.allI (aL ks S.length)=true:=by
 first|rfl|(simp[AV.aj,AV.allI,bo,bq,bp,aL,aO,bn,br,bH,bO,bP,xA];done)|(intro o ho;simp at ho;done)):kE P sm N τ0 τ H (.d (.val (.func (.func f) #[] #[]))) args (tg KK):=tm h hH hN hm hτ h0 ha hS hT hK
theorem DC(k:List Nat){m:List Nat}{τ τ1:Fr}{H H1:av}(h:Rt m (fun t=>du k (τ t)) (dg k H) τ1 H1)(a:∀i∈m,k[i]? =some i:=by decide)(b:k.Nodup:=by decide)(c:∀i∈k,i<H.length:=by
 simp[eJ,dg]):Rt m τ H τ1 H1:=Rt.trans (Rt.gc a b c) h
theorem DB{m:List Nat}{τ τ':Fr}{H H':av}(h2:H=H')(h:fw τ τ':=by
 repeat (first|exact cw _|refine cg ?_ (by first|rfl|(simp[aX,aQ,bc];done)|simp[aX,aQ,bc, *]))):Rt m τ H τ' H':=Rt.end h h2
theorem MT{p:Prop}(h:p:=by
 first|rfl|(simp only[cP,Nat.reduceAdd,↓reduceIte,Nat.reduceEqDiff,ch,bH,bO,aK,aY,bP,List.cons_append,List.nil_append,xA,ao];first|done|rfl)):p:=h
theorem jty(e:BE)(gs:Gs)(μ:Mp)(al:List (List Int))(i:Nat)(x:Int)(h:dM e gs μ)(h1:1<al.length)(hi:i<(nth al 1).length)(hx:bm (aB e) gs x)(hy:bm (aB e) gs (nth (nth al 1) i)):cY prog [0,1,3,4,5,6,7,8,9,10] 144 [.d (iD i),.d (iD x),.op 10 0,.op 8 0,.op 9 0] (bH e gs μ++xA al 95) (uo e (xA al 95) (dj (aB e) gs x (nth (nth al 1) i))):=by
 refine fX (fn:=f144) (by kernel_rfl) func144 rfl (cn rfl) fun c hc hp=>?_
 refine Dg ?_
 unfold bH xA bP
 refine ah (NV ·) ?_
 refine jP ax hp hc mixed rfl [(0,[]),(1,[]),(2,[]),(3,[]),(4,[]),(5,[]),(6,[]),(7,[]),(8,[]),(9,[]),(10,[])] [[],[],[],[],[3],[3,4],[],[3,4,5,6],[3,4,5,6,7],[0,1,2,3,4,5,6,7,8],[0,1,2,3,4,5,6,7,8,9]] 0 (by kernel_rfl) fun K2 bS=>?_
 refine D3 ?_
 refine MU (bH e gs μ) (xA al 95) (vH e gs μ x (nth (nth al 1) i) h hx hy) ?_
 rintro _ _ ⟨μ1,de,rfl,rfl⟩
 refine⟨rfl,?_⟩
 refine D3 ?_
 refine bS _ _ ?_
 refine bC hp (τ':=aF [(7,.d (iD (dj (aB e) gs x (nth (nth al 1) i)).2))]) (H':=bH e (dj (aB e) gs x (nth (nth al 1) i)).1 μ1++xA al 95) ?_ ?_
 ·refine DC [0,1,2,3,4,5,6,7,8,9,10] ?_
  refine DB ?_
  exact MT
 refine aM ?_
 refine dJ (t:=7) rfl ?_
 show ∃_,_
 exact⟨μ1,de,rfl,rfl⟩
theorem ybq(e:BE)(gs:Gs)(μ:Mp)(al:List (List Int))(i:Nat)(x:Int)(h:dM e gs μ)(h1:1<al.length)(hi:i<(nth al 1).length)(hx:bm (aB e) gs x)(hy:bm (aB e) gs (nth (nth al 1) i)):cY prog [0,1,3,4,5,6,7,8,9,10] 144 [.d (iD i),.d (iD x),.op 10 0,.op 8 0,.op 9 0] (bH e gs μ++xA al 141) (uo e (xA al 141) (iM (aB e) gs x (nth (nth al 1) i))):=by
 refine fX (fn:=f144) (by kernel_rfl) func144 rfl (cn rfl) fun c hc hp=>?_
 refine Dg ?_
 unfold bH xA bP
 refine ah (NV ·) ?_
 refine jP ax hp hc mixed rfl [(0,[]),(1,[]),(2,[]),(3,[]),(4,[]),(5,[]),(6,[]),(7,[]),(8,[]),(9,[]),(10,[])] [[],[],[],[],[3],[3,4],[],[3,4,5,6],[3,4,5,6,7],[0,1,2,3,4,5,6,7,8],[0,1,2,3,4,5,6,7,8,9]] 0 (by kernel_rfl) fun K2 bS=>?_
 refine D3 ?_
 refine MU (bH e gs μ) (xA al 141) (Gl e gs μ x (nth (nth al 1) i) h hx hy) ?_
 rintro _ _ ⟨μ1,de,rfl,rfl⟩
 refine⟨rfl,?_⟩
 refine D3 ?_
 refine bS _ _ ?_
 refine bC hp (τ':=aF [(7,.d (iD (iM (aB e) gs x (nth (nth al 1) i)).2))]) (H':=bH e (iM (aB e) gs x (nth (nth al 1) i)).1 μ1++xA al 141) ?_ ?_
 ·refine DC [0,1,2,3,4,5,6,7,8,9,10] ?_
  refine DB ?_
  exact MT
 refine aM ?_
 refine dJ (t:=7) rfl ?_
 show ∃_,_
 exact⟨μ1,de,rfl,rfl⟩
theorem jtz(e:BE)(gs:Gs)(μ:Mp)(al:List (List Int))(i:Nat)(x:Int)(h:dM e gs μ)(h1:1<al.length)(hi:i<(nth al 1).length)(hx:bm (aB e) gs x)(hy:bm (aB e) gs (nth (nth al 1) i)):cY prog [0,1,3,4,5,6,7,8,9,10] 144 [.d (iD i),.d (iD x),.op 10 0,.op 8 0,.op 9 0] (bH e gs μ++xA al 143) (uo e (xA al 143) (fQ (aB e) gs x (nth (nth al 1) i))):=by
 refine fX (fn:=f144) (by kernel_rfl) func144 rfl (cn rfl) fun c hc hp=>?_
 refine Dg ?_
 unfold bH xA bP
 refine ah (NV ·) ?_
 refine jP ax hp hc mixed rfl [(0,[]),(1,[]),(2,[]),(3,[]),(4,[]),(5,[]),(6,[]),(7,[]),(8,[]),(9,[]),(10,[])] [[],[],[],[],[3],[3,4],[],[3,4,5,6],[3,4,5,6,7],[0,1,2,3,4,5,6,7,8],[0,1,2,3,4,5,6,7,8,9]] 0 (by kernel_rfl) fun K2 bS=>?_
 refine D3 ?_
 refine MU (bH e gs μ) (xA al 143) (KJ e gs μ x (nth (nth al 1) i) h hx hy) ?_
 rintro _ _ ⟨μ1,de,rfl,rfl⟩
 refine⟨rfl,?_⟩
 refine D3 ?_
 refine bS _ _ ?_
 refine bC hp (τ':=aF [(7,.d (iD (fQ (aB e) gs x (nth (nth al 1) i)).2))]) (H':=bH e (fQ (aB e) gs x (nth (nth al 1) i)).1 μ1++xA al 143) ?_ ?_
 ·refine DC [0,1,2,3,4,5,6,7,8,9,10] ?_
  refine DB ?_
  exact MT
 refine aM ?_
 refine dJ (t:=7) rfl ?_
 show ∃_,_
 exact⟨μ1,de,rfl,rfl⟩
theorem W6{p q:Prop}(hq:q)(h:p=q:=by
 conv=>lhs;simp -dsimp -implicitDefEqProofs (disch:=first|assumption|omega|(simp only[aH,aQ,bc]<;>omega)|decide) only[aN,↓reduceIte,Nat.reduceEqDiff,Nat.reduceAdd,D.fix,Int.reduceToNat,Nat.reduceMul,Nat.reduceBNe,Nat.reduceBEq,mC,ch,bH,bO,aK,aY,bP,List.cons_append,List.nil_append,ao,db,bw]):p:=h.mpr hq
theorem ygd(e:BE)(gs:Gs)(μ:Mp)(al:List (List Int))(i:Nat)(x:Int)(h:dM e gs μ)(h2:2<al.length)(h0:0<(nth al 0).length)(hi:i<(nth al 2).length)(rW:bm (aB e) gs (nth (nth al 0) 0))(hx:bm (aB e) gs x)(hy:bm (aB e) gs (nth (nth al 2) i))(hl:gs.length+2≤100000):cY prog [0,1,3,4,5,6,7,8,9] 151 [.d (iD i),.d (iD x),.op 8 0,.op 9 0] (bH e gs μ++[bP,.cells [.d (ao al)]]) (uo e [bP,.cells [.d (ao al)]] (hU (aB e) gs (nth (nth al 0) 0) x (nth (nth al 2) i))):=by
 refine fX (fn:=f151) (by kernel_rfl) func151 rfl (cn rfl) fun c hc hp=>?_
 refine BJ ?_
 unfold bH bP
 refine aZ hp ax hc rfl fun K1 nw=>?_
 simp -dsimp -implicitDefEqProofs (disch:=first|assumption|omega|(simp only[aH,aQ,bc]<;>omega)|decide) only[aN,↓reduceIte,Nat.reduceEqDiff,Nat.reduceAdd,D.fix,Int.reduceToNat,Nat.reduceMul,Nat.reduceBNe,Nat.reduceBEq,ch,bH,bO,aK,aY,bP,List.cons_append,List.nil_append,ao]
 refine nw _ _ ?_
 refine jP ax hp hc mixed rfl [(0,[]),(1,[]),(2,[]),(3,[]),(4,[]),(5,[]),(6,[]),(7,[]),(8,[]),(9,[]),(10,[]),(11,[]),(12,[]),(13,[]),(14,[])] [[],[],[1],[1,2],[1,2,3],[1,2,3,4],[],[],[7],[7,8],[],[7,8,9,10],[7,8,9,10,11],[0,1,2,3,4,5,6,7,8,9,10,11,12],[0,1,2,3,4,5,6,7,8,9,10,11,12,13]] 0 (by kernel_rfl) fun K2 bS=>?_
 refine W6 ?_
 refine tm (S:=bH e gs μ) (T:=[bP,.cells [.d (ao al)]]) (ZG e gs μ (nth (nth al 0) 0) x (nth (nth al 2) i) h rW hx hy hl) rfl (cn rfl) (by first|rfl|(simp[AV.aj,AV.allI,bo,bq,bp,aL,aO,bn,br,bH,bO,bP];done)|(intro o ho;simp at ho;done)) (fun t=>fL (by first|rfl|(simp[AV.aj,AV.allI,bo,bq,bp,aL,aO,bn,br,bH,bO,bP];done)|(intro o ho;simp at ho;done)) t) (fun t=>fL (by first|rfl|(simp[AV.aj,AV.allI,bo,bq,bp,aL,aO,bn,br,bH,bO,bP];done)|(intro o ho;simp at ho;done)) t) (by first|rfl|(simp[AV.aj,AV.allI,bo,bq,bp,aL,aO,bn,br,bH,bO,bP];done)|(intro o ho;simp at ho;done)) (by first|rfl|(simp[AV.aj,AV.allI,bo,bq,bp,aL,aO,bn,br,bH,bO,bP];done)|(intro o ho;simp at ho;done)) (by first|rfl|(simp[AV.aj,AV.allI,bo,bq,bp,aL,aO,bn,br,bH,bO,bP];done)|(intro o ho;simp at ho;done)) ?_
 rintro _ _ ⟨μ1,de,rfl,rfl⟩
 refine⟨rfl,?_⟩
 refine W6 ?_
 refine bS _ _ ?_
 refine bC hp (τ':=aF [(6,.d (iD (hU (aB e) gs (nth (nth al 0) 0) x (nth (nth al 2) i)).2))]) (H':=bH e (hU (aB e) gs (nth (nth al 0) 0) x (nth (nth al 2) i)).1 μ1++[bP,.cells [.d (ao al)]]) ?_ ?_
 ·refine DC [0,1,2,3,4,5,6,7,8,9] ?_
  refine DB ?_
  first|rfl|(simp only[cP,Nat.reduceAdd,↓reduceIte,Nat.reduceEqDiff,ch,bH,bO,aK,aY,bP,List.cons_append,List.nil_append,ao];first|done|rfl)
 refine aM ?_
 refine dJ (t:=6) rfl ?_
 show ∃_,_
 exact⟨μ1,de,rfl,rfl⟩
theorem W5{p q:Prop}(hq:q)(h:p=q:=by
 conv=>lhs;simp -dsimp -implicitDefEqProofs (disch:=first|assumption|omega|(simp only[aH,aQ,bc]<;>omega)|decide) only[aN,↓reduceIte,Nat.reduceEqDiff,Nat.reduceAdd,D.fix,Int.reduceToNat,Nat.reduceMul,Nat.reduceBNe,Nat.reduceBEq,ch,bH,bO,aK,aY,bP,List.cons_append,List.nil_append]):p:=h.mpr hq
theorem VE{p:Prop}(h:p:=by
 first|rfl|(simp only[cP,Nat.reduceAdd,↓reduceIte,Nat.reduceEqDiff,ch,bH,bO,aK,aY,bP,List.cons_append,List.nil_append];first|done|rfl)):p:=h
theorem yge(e:BE)(gs:Gs)(μ:Mp)(v i:Nat)(x:Int)(hn:ir (aB e) gs μ)(hv:v<2^62)(hi:i≤60):cY prog [0,1,3,4,5,6,7,8] 145 [.d (iD i),.d (iD x),.op 8 0] (bH e gs μ++[.cells [.d (iD v)]]) (uo e [.cells [.d (iD v)]] (gs,((v / 2^i % 2:Nat):Int))):=by
 refine fX (fn:=f145) (by kernel_rfl) func145 rfl (cn rfl) fun c hc hp=>?_
 refine tr ?_
 unfold bH
 have Ht:=XR (v:=v) (k:=i) hv (by omega)
 refine ah (W5 ·) ?_
 refine aZ hp ax hc rfl fun K2 bS=>?_
 simp -dsimp -implicitDefEqProofs (disch:=first|assumption|omega|(simp only[aH,aQ,bc]<;>omega)|decide) only[aN,↓reduceIte,Nat.reduceEqDiff,Nat.reduceAdd,D.fix,Int.reduceToNat,Nat.reduceMul,Nat.reduceBNe,Nat.reduceBEq,ch,bH,bO,aK,aY,bP,List.cons_append,List.nil_append,Ht,Int.toNat_natCast,bw]
 refine bS _ _ ?_
 refine bC hp (τ':=aF [(5,.d (iD ((v / 2^i % 2:Nat):Int)))]) (H':=bH e gs μ++[.cells [.d (iD v)]]) ?_ ?_
 ·refine DC [0,1,2,3,4,5,6,7,8] ?_
  refine DB ?_
  exact VE
 refine aM ?_
 refine dJ (t:=5) rfl ?_
 show ∃_,_
 exact⟨μ,hn,rfl,rfl⟩
theorem ygf(e:BE)(gs:Gs)(μ:Mp)(j i:Nat)(x:Int)(hn:ir (aB e) gs μ)(hm:oU e.ins e.mi)(hw:(⟨1,(j:Int),(i:Int)⟩:aT)∈e.ins)(hj:j≤1000)(hi:i≤1000):cY prog [0,1,3,4,5,6,7,8,9] 146 [.d (iD i),.d (iD x),.op 8 0,.op 9 0] (bH e gs μ++[bP,.cells [.d (iD j)]]) (uo e [bP,.cells [.d (iD j)]] (gs,((2+kL ⟨1,(j:Int),(i:Int)⟩ e.ins:Nat):Int))):=by
 refine fX (fn:=f146) (by kernel_rfl) func146 rfl (cn rfl) fun c hc hp=>?_
 refine BJ ?_
 unfold bH bP
 have mb:pL prog Ap (wV ⟨1,(j:Int),(i:Int)⟩):=EP (a:=1) (b:=(j:Int)) (c:=(i:Int)) (n9 (by decide) (by decide)) (n9 (by omega) (by omega)) (n9 (by omega) (by omega))
 have jv:=hm.gt ⟨1,(j:Int),(i:Int)⟩
 rw[if_pos hw]at jv
 refine ah (W5 ·) ?_
 refine dO ax hc mixed rfl (q:=0) (by kernel_rfl) (by kernel_rfl) fun K2 bS=>?_
 simp -dsimp -implicitDefEqProofs (disch:=first|assumption|omega|(simp only[aH,aQ,bc]<;>omega)|decide) only[aN,↓reduceIte,Nat.reduceEqDiff,Nat.reduceAdd,D.fix,Int.reduceToNat,Nat.reduceMul,Nat.reduceBNe,Nat.reduceBEq,ch,bH,bO,aK,aY,bP,List.cons_append,List.nil_append,E6,vK,Om Jn mb hm.ok,jv,Option.getD_some,bw]
 refine bS _ _ ?_
 refine bC hp (τ':=aF [(6,.d (iD ((2+kL ⟨1,(j:Int),(i:Int)⟩ e.ins:Nat):Int)))]) (H':=bH e gs μ++[bP,.cells [.d (iD j)]]) ?_ ?_
 ·refine DC [0,1,2,3,4,5,6,7,8,9] ?_
  refine DB ?_
  exact VE
 refine aM ?_
 refine dJ (t:=6) rfl ?_
 show ∃_,_
 exact⟨μ,hn,rfl,rfl⟩
theorem W4{p q:Prop}(hq:q)(h:p=q:=by
 conv=>lhs;simp -dsimp -implicitDefEqProofs (disch:=first|assumption|omega|(simp only[aH,aQ,bc]<;>omega)|decide) only[aN,↓reduceIte,Nat.reduceEqDiff,Nat.reduceAdd,D.fix,Int.reduceToNat,Nat.reduceMul,Nat.reduceBNe,Nat.reduceBEq,ch,bH,bO,aK,aY,bP,List.cons_append,List.nil_append,bw]):p:=h.mpr hq
theorem r5(k:List Nat){m:List Nat}{τ τ1:Fr}{H H1:av}(h:Rt m (fun t=>du k (τ t)) (dg k H) τ1 H1)(a:∀i∈m,k[i]? =some i:=by decide)(b:k.Nodup:=by decide)(c:∀i∈k,i<H.length:=by
 simp[eJ,dg]):Rt m τ H τ1 H1:=Rt.trans (Rt.gc a b c) h
theorem nF{m:List Nat}{τ τ':Fr}{H H':av}(h2:H=H')(h:fw τ τ':=by
 repeat (first|exact cw _|refine cg ?_ (by first|rfl|(simp[aX,aQ,bc];done)|simp[aX,aQ,bc, *]))):Rt m τ H τ' H':=Rt.end h h2
theorem ygg(e:BE)(gs:Gs)(μ:Mp)(d0 d1 d2:Int)(j i:Nat)(x:Int)(h:dM e gs μ)(h0:bm (aB e) gs d0)(h1:bm (aB e) gs d1)(h2:bm (aB e) gs d2)(hj:j≤1000)(hi:i≤1000):cY prog [0,1,3,4,5,6,7,8,9,10] 153 [.d (iD i),.d (iD x),.op 8 0,.op 9 0,.op 10 0] (bH e gs μ++[bP,.cells [.d (iD d0),.d (iD d1),.d (iD d2)],.cells [.d (iD j)]]) (uo e [bP,.cells [.d (iD d0),.d (iD d1),.d (iD d2)],.cells [.d (iD j)]] (gw (aB e) gs ⟨7,d0,d1,d2,((8*j+i:Nat):Int)⟩)):=by
 refine fX (fn:=f153) (by kernel_rfl) func153 rfl (cn rfl) fun c hc hp=>?_
 refine Dg ?_
 unfold bH bP
 have rW:((8*j+i:Nat):Int)=8*(j:Int)+i:=by omega
 rw[rW]
 refine aZ hp ax hc rfl fun K1 nw=>?_
 simp -dsimp -implicitDefEqProofs (disch:=first|assumption|omega|(simp only[aH,aQ,bc]<;>omega)|decide) only[aN,↓reduceIte,Nat.reduceEqDiff,Nat.reduceAdd,D.fix,Int.reduceToNat,Nat.reduceMul,Nat.reduceBNe,Nat.reduceBEq,ch,bH,bO,aK,aY,bP,List.cons_append,List.nil_append]
 refine nw _ _ ?_
 refine aZ hp ax hc rfl fun K2 bS=>?_
 refine W4 ?_
 refine rH (S:=bH e gs μ) (T:=[bP,.cells [.d (iD d0),.d (iD d1),.d (iD d2)],.cells [.d (iD j)]]) (BG e gs μ ⟨7,d0,d1,d2,8*(j:Int)+i⟩ h.n ⟨(n9 (by decide) (by decide):kJ 7),h.uk h0,h.uk h1,h.uk h2,(n9 (by omega) (by omega):kJ (8*(j:Int)+i))⟩ h.i h.l) rfl (by first|rfl|(simp[AV.aj,AV.allI,bo,bq,bp,aL,aO,bn,br,bH,bO,bP];done)|(intro o ho;simp at ho;done)) (fun t=>fL (by first|rfl|(simp[AV.aj,AV.allI,bo,bq,bp,aL,aO,bn,br,bH,bO,bP];done)|(intro o ho;simp at ho;done)) t) (by first|rfl|(simp[AV.aj,AV.allI,bo,bq,bp,aL,aO,bn,br,bH,bO,bP];done)|(intro o ho;simp at ho;done)) (by first|rfl|(simp[AV.aj,AV.allI,bo,bq,bp,aL,aO,bn,br,bH,bO,bP];done)|(intro o ho;simp at ho;done)) (by first|rfl|(simp[AV.aj,AV.allI,bo,bq,bp,aL,aO,bn,br,bH,bO,bP];done)|(intro o ho;simp at ho;done)) ?_
 rintro _ _ ⟨μ1,de,rfl,rfl⟩
 refine⟨rfl,?_⟩
 refine W4 ?_
 refine bS _ _ ?_
 refine bC hp (τ':=aF [(7,.d (iD (gw (aB e) gs ⟨7,d0,d1,d2,8*(j:Int)+i⟩).2))]) (H':=bH e (gw (aB e) gs ⟨7,d0,d1,d2,8*(j:Int)+i⟩).1 μ1++[bP,.cells [.d (iD d0),.d (iD d1),.d (iD d2)],.cells [.d (iD j)]]) ?_ ?_
 ·refine r5 [0,1,2,3,4,5,6,7,8,9,10] ?_
  refine nF ?_
  first|rfl|(simp only[cP,Nat.reduceAdd,↓reduceIte,Nat.reduceEqDiff,ch,bH,bO,aK,aY,bP,List.cons_append,List.nil_append];first|done|rfl)
 refine aM ?_
 refine dJ (t:=7) rfl ?_
 show ∃_,_
 exact⟨μ1,de,rfl,rfl⟩
def rr(m:Nat)(gs:Gs)(x y:List Int)(k:Nat):Gs × List Int:=bL (fun gs i=>dj m gs (nth x i) (nth y i)) gs k
theorem jjn{m:Nat}{gs:Gs}{x y:List Int}{k:Nat}:rr m gs x y (k+1)=((dj m (rr m gs x y k).1 (nth x k) (nth y k)).1,(rr m gs x y k).2++[(dj m (rr m gs x y k).1 (nth x k) (nth y k)).2]):=rfl
theorem jt0{m:Nat}{gs:Gs}{x y:List Int}{n k:Nat}(h2:2≤m)(h:GI m gs)(hx:eQ m gs x n)(hy:eQ m gs y n)(hk:k≤n):Bs m (1*k) k gs (rr m gs x y k):=kz h fun j hj fH hp hg=>rK h2 hg ((hx j (by omega)).pre hp) ((hy j (by omega)).pre hp)
theorem jt1(e:BE)(gs:Gs)(μ:Mp)(x y:List Int)(i:Nat)(z:Int)(h:dM e gs μ)(hi:i<y.length)(hx:bm (aB e) gs z)(hy:bm (aB e) gs (nth y i)):cY prog [0,1,3,4,5,6,7,8,9,10] 144 [.d (iD i),.d (iD z),.op 10 0,.op 8 0,.op 9 0] (bH e gs μ++xA [x,y] 95) (uo e (xA [x,y] 95) (dj (aB e) gs z (nth y i))):=jty e gs μ [x,y] i z h (by simp) hi hx hy
theorem D2{p q:Prop}(hq:q)(h:p=q:=by
 conv=>lhs;simp -dsimp -implicitDefEqProofs (disch:=first|assumption|omega|(simp only[aH,aQ,bc]<;>omega)|decide) only[aN,↓reduceIte,Nat.reduceEqDiff,Nat.reduceAdd,D.fix,Int.reduceToNat,Nat.reduceMul,Nat.reduceBNe,Nat.reduceBEq,ch,bH,bO,aK,aY,di,List.cons_append,List.nil_append,bP,xA]):p:=h.mpr hq
theorem pQ{p q:Prop}(hq:q)(h:p=q:=by
 conv=>lhs;simp -dsimp -implicitDefEqProofs (disch:=first|assumption|omega|(simp only[aH,aQ,bc]<;>omega)|decide) only[aN,↓reduceIte,Nat.reduceEqDiff,Nat.reduceAdd,D.fix,Int.reduceToNat,Nat.reduceMul,Nat.reduceBNe,Nat.reduceBEq,ch,bH,bO,aK,aY,di,List.cons_append,List.nil_append,bP,xA,bw]):p:=h.mpr hq
theorem N5{p q:Prop}(hq:q)(h:p=q:=by
 conv=>lhs;simp -dsimp -implicitDefEqProofs (disch:=first|assumption|omega|(simp only[aH,aQ,bc]<;>omega)|decide) only[aN,↓reduceIte,Nat.reduceEqDiff,Nat.reduceAdd,D.fix,Int.reduceToNat,Nat.reduceMul,Nat.reduceBNe,Nat.reduceBEq,ch,bH,bO,aK,aY,di,List.cons_append,List.nil_append,bP,xA,db,bw]):p:=h.mpr hq
theorem MS{P:Program}{sm:List Nat}{N:Nat}{τ:Fr}{H:av}{f:FuncId}{fi ca args:List AV}{K0 KK:AV→av→Prop}{ks:List Nat}(S T:av)(h:cY P ks f (fi++args++ca) S K0)(hK:∀x S',K0 x S'→S'.length=S.length∧KK x (S'++T))(hH:H=S++T:=by
 rfl) (hm:sm.all (aL ks S.length)=true:=by
 first|rfl|(simp[AV.aj,AV.allI,bo,bq,bp,aL,aO,bn,br,bH,bO,di,bP,xA];done)|(intro o ho;simp at ho;done)) (hτ:∀t,(τ t).allI (aL ks S.length)=true:=by
 exact fun t=>fL (by first|rfl|(simp[AV.aj,AV.allI,bo,bq,bp,aL,aO,bn,br,bH,bO,di,bP,xA];done)|(intro o ho;simp at ho;done)) t) (ha:AV.aj (aO S.length) (fi++args++ca)=true:=by
 first|rfl|(simp[AV.aj,AV.allI,bo,bq,bp,aL,aO,bn,br,bH,bO,di,bP,xA];done)|(intro o ho;simp at ho;done)) (hS:∀o∈S,o.allI (aO S.length)=true:=by
 first|rfl|(simp[AV.aj,AV.allI,bo,bq,bp,aL,aO,bn,br,bH,bO,di,bP,xA];done)|(intro o ho;simp at ho;done)) (hT:∀o∈T,o.allI (aL ks S.length)=true:=by
 first|rfl|(simp[AV.aj,AV.allI,bo,bq,bp,aL,aO,bn,br,bH,bO,di,bP,xA];done)|(intro o ho;simp at ho;done)):kC P sm N H τ (.dC (.func f) fi ca) args true (tg KK):=BA h hH hm hτ ha hS hT hK
theorem DA{p q:Prop}(hq:q)(h:p=q:=by
 conv=>lhs;simp only[cP,Nat.reduceAdd,↓reduceIte,Nat.reduceEqDiff,ch,bH,bO,aK,aY,di,List.cons_append,List.nil_append,bP,xA]):p:=h.mpr hq
theorem MR{p:Prop}(h:p:=by
 first|rfl|(simp only[cP,Nat.reduceAdd,↓reduceIte,Nat.reduceEqDiff,ch,bH,bO,aK,aY,di,List.cons_append,List.nil_append,bP,xA];first|done|rfl)):p:=h
theorem jm6(e:BE)(gs:Gs)(μ:Mp)(x y:List Int)(h:dM e gs μ)(hx:eQ (aB e) gs x x.length)(hy:eQ (aB e) gs y x.length)(mJ:y.length=x.length)(hl:gs.length+x.length≤99990)(uw:x.length≤1000):cY prog [0,1,3,4,5,6,7,8,9,10] 138 [.d (ae x),.dC (.func 144) [] [.op 10 0,.op 8 0,.op 9 0]] (bH e gs μ++[bP,.cells [.d (ao [x,y])],.cells [.d (.val (.func (.func 95) #[] #[]))]]) (yO e [bP,.cells [.d (ao [x,y])],.cells [.d (.val (.func (.func 95) #[] #[]))]] (rr (aB e) gs x y x.length)):=by
 refine fX (fn:=f138) (by kernel_rfl) func138 rfl (cn rfl) fun c hc hp=>?_
 refine pX ?_
 unfold bH bP
 refine ah (D2 ·) ?_
 refine ah (pQ ·) ?_
 refine aD fun K3 cm=>?_
 refine ah (pQ ·) ?_
 refine aW ?_
 refine cU hp (fun τ' H' mm=>∃(k:Nat) (μ1:Mp),(k≤x.length∧ir (aB e) (rr (aB e) gs x y k).1 μ1)∧mm=x.length - k∧H'=bH e (rr (aB e) gs x y k).1 μ1++[bP,.cells [.d (ao [x,y])],.cells [.d (.val (.func (.func 95) #[] #[]))],di (rr (aB e) gs x y k).2 x.length]∧τ'=aF [(1,.dC (.func 144) [] [.op 10 0,.op 8 0,.op 9 0]),(5,.os 1 11 0 x.length),(11,.d (ae x)),(12,.d (iD x.length)),(13,.d (iD k))]) (x.length) ?_ ⟨0,μ,⟨cF _,h.n⟩,rfl,rfl,rfl⟩ ?_
 ·refine nF ?_
  refine DA ?_;simp[rr,bL,di,bH,bO,aK,iD,ak,bP,xA]
 rintro τ' H' mm ⟨k,μ1,⟨hk,de⟩,rfl,rfl,rfl⟩
 have hb:=jt0 nG h.g hx hy hk
 have ej:=@jjn (aB e) gs x y k
 have jV:k=x.length→rr (aB e) gs x y x.length=rr (aB e) gs x y k:=fun e=>by rw[←e]
 generalize rr (aB e) gs x y k=s at *
 have hw:=hb.wid
 have sN:=hb.len
 have h1:dM e s.1 μ1:=⟨de,hb.gi,h.i,by have:=h.l;omega⟩
 refine ah (pQ ·) ?_
 refine aD fun K6 cK=>?_
 refine bf rfl (fun ht=>?_) (fun ht=>?_)
 ·have aA:k<x.length:=by simp at ht;omega
  have cd:=xH hw aA (dj (aB e) s.1 (nth x k) (nth y k)).2
  refine bg (cK _ _ ?_)
  refine aD fun K7 cL=>?_
  refine aW ?_
  refine ah (N5 ·) ?_
  refine bT hp ax hc rfl fun K9 cX=>?_
  refine pQ ?_
  refine MS (bH e s.1 μ1++[bP,.cells [.d (ao [x,y])],.cells [.d (.val (.func (.func 95) #[] #[]))]]) ([di s.2 x.length]) (jt1 e s.1 μ1 x y k (nth x k) h1 (by show k<y.length;omega) ((hx k aA).pre hb.pre) ((hy k aA).pre hb.pre)) ?_
  rintro _ _ ⟨μ2,dA,rfl,rfl⟩
  refine⟨rfl,?_⟩
  refine pQ ?_
  refine cX _ _ (cL _ _ ?_)
  refine bT hp ax hc rfl fun j4 bW=>?_
  refine pQ ?_
  refine bW _ _ ⟨_,_,_,?_,⟨k+1,μ2,⟨by omega,by rw[ej];exact dA⟩,rfl,rfl,rfl⟩,?_⟩
  ·first|omega|(simp only[List.length_cons];omega)|(dsimp only;omega)
  ·refine r5 [0,1,2,3,4,5,6,7,8,9,10,11] ?_
   refine nF ?_
   refine DA ?_;rw[ej];dsimp only;rw[←cd];simp[bH,bO,aK,ak,bP,xA]
 ·have bM:k=x.length:=by simp at ht;omega
  have hz:s.2++List.replicate (x.length - s.2.length) (0:Int)=s.2:=by rw[hw,bM,Nat.sub_self];simp
  rw[hz]
  refine cJ (cm _ _ ?_)
  refine ah (D2 ·) ?_
  refine bC hp (τ':=aF [(4,.d (.fs (s.2.map iD) x.length))]) (H':=bH e s.1 μ1++[bP,.cells [.d (ao [x,y])],.cells [.d (.val (.func (.func 95) #[] #[]))]]) ?_ ?_
  ·refine Rt.trans (Rt.fz (id:=11) (l:=(s.2.map iD)) rfl) ?_
   refine Rt.trans (Rt.slot 4 (mU (fE (by simp[hw,bM])))) ?_
   refine r5 [0,1,2,3,4,5,6,7,8,9,10] ?_
   refine nF ?_
   exact MR
  refine aM ?_
  refine dJ (t:=4) rfl ?_
  show ∃_,_
  rw[jV bM];exact⟨μ1,de,by show AV.d (.fs (s.2.map iD) x.length)= .d (.fs (s.2.map iD) s.2.length);rw[hw,bM],rfl⟩
def rP(m:Nat)(gs:Gs)(x y:List Int)(k:Nat):Gs × List Int:=bL (fun gs i=>iM m gs (nth x i) (nth y i)) gs k
theorem jm7{m:Nat}{gs:Gs}{x y:List Int}{k:Nat}:rP m gs x y (k+1)=((iM m (rP m gs x y k).1 (nth x k) (nth y k)).1,(rP m gs x y k).2++[(iM m (rP m gs x y k).1 (nth x k) (nth y k)).2]):=rfl
theorem ybu{m:Nat}{gs:Gs}{x y:List Int}{n k:Nat}(h2:2≤m)(h:GI m gs)(hx:eQ m gs x n)(hy:eQ m gs y n)(hk:k≤n):Bs m (1*k) k gs (rP m gs x y k):=kz h fun j hj fH hp hg=>yp h2 hg ((hx j (by omega)).pre hp) ((hy j (by omega)).pre hp)
theorem ybv(e:BE)(gs:Gs)(μ:Mp)(x y:List Int)(i:Nat)(z:Int)(h:dM e gs μ)(hi:i<y.length)(hx:bm (aB e) gs z)(hy:bm (aB e) gs (nth y i)):cY prog [0,1,3,4,5,6,7,8,9,10] 144 [.d (iD i),.d (iD z),.op 10 0,.op 8 0,.op 9 0] (bH e gs μ++xA [x,y] 141) (uo e (xA [x,y] 141) (iM (aB e) gs z (nth y i))):=ybq e gs μ [x,y] i z h (by simp) hi hx hy
theorem jt3(e:BE)(gs:Gs)(μ:Mp)(x y:List Int)(h:dM e gs μ)(hx:eQ (aB e) gs x x.length)(hy:eQ (aB e) gs y x.length)(mJ:y.length=x.length)(hl:gs.length+x.length≤99990)(uw:x.length≤1000):cY prog [0,1,3,4,5,6,7,8,9,10] 138 [.d (ae x),.dC (.func 144) [] [.op 10 0,.op 8 0,.op 9 0]] (bH e gs μ++[bP,.cells [.d (ao [x,y])],.cells [.d (.val (.func (.func 141) #[] #[]))]]) (yO e [bP,.cells [.d (ao [x,y])],.cells [.d (.val (.func (.func 141) #[] #[]))]] (rP (aB e) gs x y x.length)):=by
 refine fX (fn:=f138) (by kernel_rfl) func138 rfl (cn rfl) fun c hc hp=>?_
 refine pX ?_
 unfold bH bP
 refine ah (D2 ·) ?_
 refine ah (pQ ·) ?_
 refine aD fun K3 cm=>?_
 refine ah (pQ ·) ?_
 refine aW ?_
 refine cU hp (fun τ' H' mm=>∃(k:Nat) (μ1:Mp),(k≤x.length∧ir (aB e) (rP (aB e) gs x y k).1 μ1)∧mm=x.length - k∧H'=bH e (rP (aB e) gs x y k).1 μ1++[bP,.cells [.d (ao [x,y])],.cells [.d (.val (.func (.func 141) #[] #[]))],di (rP (aB e) gs x y k).2 x.length]∧τ'=aF [(1,.dC (.func 144) [] [.op 10 0,.op 8 0,.op 9 0]),(5,.os 1 11 0 x.length),(11,.d (ae x)),(12,.d (iD x.length)),(13,.d (iD k))]) (x.length) ?_ ⟨0,μ,⟨cF _,h.n⟩,rfl,rfl,rfl⟩ ?_
 ·refine nF ?_
  refine DA ?_;simp[rP,bL,di,bH,bO,aK,iD,ak,bP,xA]
 rintro τ' H' mm ⟨k,μ1,⟨hk,de⟩,rfl,rfl,rfl⟩
 have hb:=ybu nG h.g hx hy hk
 have ej:=@jm7 (aB e) gs x y k
 have jV:k=x.length→rP (aB e) gs x y x.length=rP (aB e) gs x y k:=fun e=>by rw[←e]
 generalize rP (aB e) gs x y k=s at *
 have hw:=hb.wid
 have sN:=hb.len
 have h1:dM e s.1 μ1:=⟨de,hb.gi,h.i,by have:=h.l;omega⟩
 refine ah (pQ ·) ?_
 refine aD fun K6 cK=>?_
 refine bf rfl (fun ht=>?_) (fun ht=>?_)
 ·have aA:k<x.length:=by simp at ht;omega
  have cd:=xH hw aA (iM (aB e) s.1 (nth x k) (nth y k)).2
  refine bg (cK _ _ ?_)
  refine aD fun K7 cL=>?_
  refine aW ?_
  refine ah (N5 ·) ?_
  refine bT hp ax hc rfl fun K9 cX=>?_
  refine pQ ?_
  refine MS (bH e s.1 μ1++[bP,.cells [.d (ao [x,y])],.cells [.d (.val (.func (.func 141) #[] #[]))]]) ([di s.2 x.length]) (ybv e s.1 μ1 x y k (nth x k) h1 (by show k<y.length;omega) ((hx k aA).pre hb.pre) ((hy k aA).pre hb.pre)) ?_
  rintro _ _ ⟨μ2,dA,rfl,rfl⟩
  refine⟨rfl,?_⟩
  refine pQ ?_
  refine cX _ _ (cL _ _ ?_)
  refine bT hp ax hc rfl fun j4 bW=>?_
  refine pQ ?_
  refine bW _ _ ⟨_,_,_,?_,⟨k+1,μ2,⟨by omega,by rw[ej];exact dA⟩,rfl,rfl,rfl⟩,?_⟩
  ·first|omega|(simp only[List.length_cons];omega)|(dsimp only;omega)
  ·refine r5 [0,1,2,3,4,5,6,7,8,9,10,11] ?_
   refine nF ?_
   refine DA ?_;rw[ej];dsimp only;rw[←cd];simp[bH,bO,aK,ak,bP,xA]
 ·have bM:k=x.length:=by simp at ht;omega
  have hz:s.2++List.replicate (x.length - s.2.length) (0:Int)=s.2:=by rw[hw,bM,Nat.sub_self];simp
  rw[hz]
  refine cJ (cm _ _ ?_)
  refine ah (D2 ·) ?_
  refine bC hp (τ':=aF [(4,.d (.fs (s.2.map iD) x.length))]) (H':=bH e s.1 μ1++[bP,.cells [.d (ao [x,y])],.cells [.d (.val (.func (.func 141) #[] #[]))]]) ?_ ?_
  ·refine Rt.trans (Rt.fz (id:=11) (l:=(s.2.map iD)) rfl) ?_
   refine Rt.trans (Rt.slot 4 (mU (fE (by simp[hw,bM])))) ?_
   refine r5 [0,1,2,3,4,5,6,7,8,9,10] ?_
   refine nF ?_
   exact MR
  refine aM ?_
  refine dJ (t:=4) rfl ?_
  show ∃_,_
  rw[jV bM];exact⟨μ1,de,by show AV.d (.fs (s.2.map iD) x.length)= .d (.fs (s.2.map iD) s.2.length);rw[hw,bM],rfl⟩
def rp(m:Nat)(gs:Gs)(x y:List Int)(k:Nat):Gs × List Int:=bL (fun gs i=>fQ m gs (nth x i) (nth y i)) gs k
theorem jjo{m:Nat}{gs:Gs}{x y:List Int}{k:Nat}:rp m gs x y (k+1)=((fQ m (rp m gs x y k).1 (nth x k) (nth y k)).1,(rp m gs x y k).2++[(fQ m (rp m gs x y k).1 (nth x k) (nth y k)).2]):=rfl
theorem jt4{m:Nat}{gs:Gs}{x y:List Int}{n k:Nat}(h2:2≤m)(h:GI m gs)(hx:eQ m gs x n)(hy:eQ m gs y n)(hk:k≤n):Bs m (1*k) k gs (rp m gs x y k):=kz h fun j hj fH hp hg=>vJ h2 hg ((hx j (by omega)).pre hp) ((hy j (by omega)).pre hp)
theorem jt5(e:BE)(gs:Gs)(μ:Mp)(x y:List Int)(i:Nat)(z:Int)(h:dM e gs μ)(hi:i<y.length)(hx:bm (aB e) gs z)(hy:bm (aB e) gs (nth y i)):cY prog [0,1,3,4,5,6,7,8,9,10] 144 [.d (iD i),.d (iD z),.op 10 0,.op 8 0,.op 9 0] (bH e gs μ++xA [x,y] 143) (uo e (xA [x,y] 143) (fQ (aB e) gs z (nth y i))):=jtz e gs μ [x,y] i z h (by simp) hi hx hy
theorem jm8(e:BE)(gs:Gs)(μ:Mp)(x y:List Int)(h:dM e gs μ)(hx:eQ (aB e) gs x x.length)(hy:eQ (aB e) gs y x.length)(mJ:y.length=x.length)(hl:gs.length+x.length≤99990)(uw:x.length≤1000):cY prog [0,1,3,4,5,6,7,8,9,10] 138 [.d (ae x),.dC (.func 144) [] [.op 10 0,.op 8 0,.op 9 0]] (bH e gs μ++[bP,.cells [.d (ao [x,y])],.cells [.d (.val (.func (.func 143) #[] #[]))]]) (yO e [bP,.cells [.d (ao [x,y])],.cells [.d (.val (.func (.func 143) #[] #[]))]] (rp (aB e) gs x y x.length)):=by
 refine fX (fn:=f138) (by kernel_rfl) func138 rfl (cn rfl) fun c hc hp=>?_
 refine pX ?_
 unfold bH bP
 refine ah (D2 ·) ?_
 refine ah (pQ ·) ?_
 refine aD fun K3 cm=>?_
 refine ah (pQ ·) ?_
 refine aW ?_
 refine cU hp (fun τ' H' mm=>∃(k:Nat) (μ1:Mp),(k≤x.length∧ir (aB e) (rp (aB e) gs x y k).1 μ1)∧mm=x.length - k∧H'=bH e (rp (aB e) gs x y k).1 μ1++[bP,.cells [.d (ao [x,y])],.cells [.d (.val (.func (.func 143) #[] #[]))],di (rp (aB e) gs x y k).2 x.length]∧τ'=aF [(1,.dC (.func 144) [] [.op 10 0,.op 8 0,.op 9 0]),(5,.os 1 11 0 x.length),(11,.d (ae x)),(12,.d (iD x.length)),(13,.d (iD k))]) (x.length) ?_ ⟨0,μ,⟨cF _,h.n⟩,rfl,rfl,rfl⟩ ?_
 ·refine nF ?_
  refine DA ?_;simp[rp,bL,di,bH,bO,aK,iD,ak,bP,xA]
 rintro τ' H' mm ⟨k,μ1,⟨hk,de⟩,rfl,rfl,rfl⟩
 have hb:=jt4 nG h.g hx hy hk
 have ej:=@jjo (aB e) gs x y k
 have jV:k=x.length→rp (aB e) gs x y x.length=rp (aB e) gs x y k:=fun e=>by rw[←e]
 generalize rp (aB e) gs x y k=s at *
 have hw:=hb.wid
 have sN:=hb.len
 have h1:dM e s.1 μ1:=⟨de,hb.gi,h.i,by have:=h.l;omega⟩
 refine ah (pQ ·) ?_
 refine aD fun K6 cK=>?_
 refine bf rfl (fun ht=>?_) (fun ht=>?_)
 ·have aA:k<x.length:=by simp at ht;omega
  have cd:=xH hw aA (fQ (aB e) s.1 (nth x k) (nth y k)).2
  refine bg (cK _ _ ?_)
  refine aD fun K7 cL=>?_
  refine aW ?_
  refine ah (N5 ·) ?_
  refine bT hp ax hc rfl fun K9 cX=>?_
  refine pQ ?_
  refine MS (bH e s.1 μ1++[bP,.cells [.d (ao [x,y])],.cells [.d (.val (.func (.func 143) #[] #[]))]]) ([di s.2 x.length]) (jt5 e s.1 μ1 x y k (nth x k) h1 (by show k<y.length;omega) ((hx k aA).pre hb.pre) ((hy k aA).pre hb.pre)) ?_
  rintro _ _ ⟨μ2,dA,rfl,rfl⟩
  refine⟨rfl,?_⟩
  refine pQ ?_
  refine cX _ _ (cL _ _ ?_)
  refine bT hp ax hc rfl fun j4 bW=>?_
  refine pQ ?_
  refine bW _ _ ⟨_,_,_,?_,⟨k+1,μ2,⟨by omega,by rw[ej];exact dA⟩,rfl,rfl,rfl⟩,?_⟩
  ·first|omega|(simp only[List.length_cons];omega)|(dsimp only;omega)
  ·refine r5 [0,1,2,3,4,5,6,7,8,9,10,11] ?_
   refine nF ?_
   refine DA ?_;rw[ej];dsimp only;rw[←cd];simp[bH,bO,aK,ak,bP,xA]
 ·have bM:k=x.length:=by simp at ht;omega
  have hz:s.2++List.replicate (x.length - s.2.length) (0:Int)=s.2:=by rw[hw,bM,Nat.sub_self];simp
  rw[hz]
  refine cJ (cm _ _ ?_)
  refine ah (D2 ·) ?_
  refine bC hp (τ':=aF [(4,.d (.fs (s.2.map iD) x.length))]) (H':=bH e s.1 μ1++[bP,.cells [.d (ao [x,y])],.cells [.d (.val (.func (.func 143) #[] #[]))]]) ?_ ?_
  ·refine Rt.trans (Rt.fz (id:=11) (l:=(s.2.map iD)) rfl) ?_
   refine Rt.trans (Rt.slot 4 (mU (fE (by simp[hw,bM])))) ?_
   refine r5 [0,1,2,3,4,5,6,7,8,9,10] ?_
   refine nF ?_
   exact MR
  refine aM ?_
  refine dJ (t:=4) rfl ?_
  show ∃_,_
  rw[jV bM];exact⟨μ1,de,by show AV.d (.fs (s.2.map iD) x.length)= .d (.fs (s.2.map iD) s.2.length);rw[hw,bM],rfl⟩
def rm(m:Nat)(gs:Gs)(q:Int)(x y:List Int)(k:Nat):Gs × List Int:=bL (fun gs i=>hU m gs q (nth x i) (nth y i)) gs k
theorem jjp{m:Nat}{gs:Gs}{q:Int}{x y:List Int}{k:Nat}:rm m gs q x y (k+1)=((hU m (rm m gs q x y k).1 q (nth x k) (nth y k)).1,(rm m gs q x y k).2++[(hU m (rm m gs q x y k).1 q (nth x k) (nth y k)).2]):=rfl
theorem jt6{m:Nat}{gs:Gs}{q:Int}{x y:List Int}{n k:Nat}(h2:2≤m)(h:GI m gs)(hq:bm m gs q)(hx:eQ m gs x n)(hy:eQ m gs y n)(hk:k≤n):Bs m (2*k) k gs (rm m gs q x y k):=kz h fun j hj fH hp hg=>C4 h2 hg (hq.pre hp) ((hx j (by omega)).pre hp) ((hy j (by omega)).pre hp)
theorem ygj(e:BE)(gs:Gs)(μ:Mp)(a x y:List Int)(i:Nat)(z:Int)(h:dM e gs μ)(h0:0<a.length)(hi:i<y.length)(hq:bm (aB e) gs (nth a 0))(hx:bm (aB e) gs z)(hy:bm (aB e) gs (nth y i))(hl:gs.length+2≤100000):cY prog [0,1,3,4,5,6,7,8,9] 151 [.d (iD i),.d (iD z),.op 8 0,.op 9 0] (bH e gs μ++[bP,.cells [.d (ao [a,x,y])]]) (uo e [bP,.cells [.d (ao [a,x,y])]] (hU (aB e) gs (nth a 0) z (nth y i))):=ygd e gs μ [a,x,y] i z h (by simp) h0 hi hq hx hy hl
theorem D1{p q:Prop}(hq:q)(h:p=q:=by
 conv=>lhs;simp -dsimp -implicitDefEqProofs (disch:=first|assumption|omega|(simp only[aH,aQ,bc]<;>omega)|decide) only[aN,↓reduceIte,Nat.reduceEqDiff,Nat.reduceAdd,D.fix,Int.reduceToNat,Nat.reduceMul,Nat.reduceBNe,Nat.reduceBEq,ch,bH,bO,aK,aY,di,List.cons_append,List.nil_append,bP]):p:=h.mpr hq
theorem pP{p q:Prop}(hq:q)(h:p=q:=by
 conv=>lhs;simp -dsimp -implicitDefEqProofs (disch:=first|assumption|omega|(simp only[aH,aQ,bc]<;>omega)|decide) only[aN,↓reduceIte,Nat.reduceEqDiff,Nat.reduceAdd,D.fix,Int.reduceToNat,Nat.reduceMul,Nat.reduceBNe,Nat.reduceBEq,ch,bH,bO,aK,aY,di,List.cons_append,List.nil_append,bP,bw]):p:=h.mpr hq
theorem MQ{P:Program}{sm:List Nat}{N:Nat}{τ:Fr}{H:av}{f:FuncId}{fi ca args:List AV}{K0 KK:AV→av→Prop}{ks:List Nat}(S T:av)(h:cY P ks f (fi++args++ca) S K0)(hK:∀x S',K0 x S'→S'.length=S.length∧KK x (S'++T))(hH:H=S++T:=by
 rfl) (hm:sm.all (aL ks S.length)=true:=by
 first|rfl|(simp[AV.aj,AV.allI,bo,bq,bp,aL,aO,bn,br,bH,bO,di,bP];done)|(intro o ho;simp at ho;done)) (hτ:∀t,(τ t).allI (aL ks S.length)=true:=by
 exact fun t=>fL (by first|rfl|(simp[AV.aj,AV.allI,bo,bq,bp,aL,aO,bn,br,bH,bO,di,bP];done)|(intro o ho;simp at ho;done)) t) (ha:AV.aj (aO S.length) (fi++args++ca)=true:=by
 first|rfl|(simp[AV.aj,AV.allI,bo,bq,bp,aL,aO,bn,br,bH,bO,di,bP];done)|(intro o ho;simp at ho;done)) (hS:∀o∈S,o.allI (aO S.length)=true:=by
 first|rfl|(simp[AV.aj,AV.allI,bo,bq,bp,aL,aO,bn,br,bH,bO,di,bP];done)|(intro o ho;simp at ho;done)) (hT:∀o∈T,o.allI (aL ks S.length)=true:=by
 first|rfl|(simp[AV.aj,AV.allI,bo,bq,bp,aL,aO,bn,br,bH,bO,di,bP];done)|(intro o ho;simp at ho;done)):kC P sm N H τ (.dC (.func f) fi ca) args true (tg KK):=BA h hH hm hτ ha hS hT hK
theorem Dz{p q:Prop}(hq:q)(h:p=q:=by
 conv=>lhs;simp only[cP,Nat.reduceAdd,↓reduceIte,Nat.reduceEqDiff,ch,bH,bO,aK,aY,di,List.cons_append,List.nil_append,bP]):p:=h.mpr hq
theorem MP{p:Prop}(h:p:=by
 first|rfl|(simp only[cP,Nat.reduceAdd,↓reduceIte,Nat.reduceEqDiff,ch,bH,bO,aK,aY,di,List.cons_append,List.nil_append,bP];first|done|rfl)):p:=h
theorem jm9(e:BE)(gs:Gs)(μ:Mp)(a x y:List Int)(h:dM e gs μ)(ha:0<a.length)(hq:bm (aB e) gs (nth a 0))(hx:eQ (aB e) gs x x.length)(hy:eQ (aB e) gs y x.length)(mJ:y.length=x.length)(hl:gs.length+2*x.length≤99990)(uw:x.length≤1000):cY prog [0,1,3,4,5,6,7,8,9] 138 [.d (ae x),.dC (.func 151) [] [.op 8 0,.op 9 0]] (bH e gs μ++[bP,.cells [.d (ao [a,x,y])]]) (yO e [bP,.cells [.d (ao [a,x,y])]] (rm (aB e) gs (nth a 0) x y x.length)):=by
 refine fX (fn:=f138) (by kernel_rfl) func138 rfl (cn rfl) fun c hc hp=>?_
 refine pX ?_
 unfold bH bP
 refine ah (D1 ·) ?_
 refine ah (pP ·) ?_
 refine aD fun K3 cm=>?_
 refine ah (pP ·) ?_
 refine aW ?_
 refine cU hp (fun τ' H' mm=>∃(k:Nat) (μ1:Mp),(k≤x.length∧ir (aB e) (rm (aB e) gs (nth a 0) x y k).1 μ1)∧mm=x.length - k∧H'=bH e (rm (aB e) gs (nth a 0) x y k).1 μ1++[bP,.cells [.d (ao [a,x,y])],di (rm (aB e) gs (nth a 0) x y k).2 x.length]∧τ'=aF [(1,.dC (.func 151) [] [.op 8 0,.op 9 0]),(5,.os 1 10 0 x.length),(11,.d (ae x)),(12,.d (iD x.length)),(13,.d (iD k))]) (x.length) ?_ ⟨0,μ,⟨cF _,h.n⟩,rfl,rfl,rfl⟩ ?_
 ·refine nF ?_
  refine Dz ?_;simp[rm,bL,di,bH,bO,aK,iD,ak,bP]
 rintro τ' H' mm ⟨k,μ1,⟨hk,de⟩,rfl,rfl,rfl⟩
 have hb:=jt6 nG h.g hq hx hy hk
 have ej:=@jjp (aB e) gs (nth a 0) x y k
 have jV:k=x.length→rm (aB e) gs (nth a 0) x y x.length=rm (aB e) gs (nth a 0) x y k:=fun e=>by rw[←e]
 generalize rm (aB e) gs (nth a 0) x y k=s at *
 have hw:=hb.wid
 have sN:=hb.len
 have h1:dM e s.1 μ1:=⟨de,hb.gi,h.i,by have:=h.l;omega⟩
 refine ah (pP ·) ?_
 refine aD fun K6 cK=>?_
 refine bf rfl (fun ht=>?_) (fun ht=>?_)
 ·have aA:k<x.length:=by simp at ht;omega
  have cd:=xH hw aA (hU (aB e) s.1 (nth a 0) (nth x k) (nth y k)).2
  refine bg (cK _ _ ?_)
  refine aD fun K7 cL=>?_
  refine aW ?_
  refine aZ hp ax hc rfl fun K8 dP=>?_
  simp -dsimp -implicitDefEqProofs (disch:=first|assumption|omega|(simp only[aH,aQ,bc]<;>omega)|decide) only[aN,↓reduceIte,Nat.reduceEqDiff,Nat.reduceAdd,D.fix,Int.reduceToNat,Nat.reduceMul,Nat.reduceBNe,Nat.reduceBEq,ch,bH,bO,aK,aY,di,List.cons_append,List.nil_append,bP,db,bw]
  refine dP _ _ ?_
  refine bT hp ax hc rfl fun K9 cX=>?_
  refine pP ?_
  refine MQ (bH e s.1 μ1++[bP,.cells [.d (ao [a,x,y])]]) ([di s.2 x.length]) (ygj e s.1 μ1 a x y k (nth x k) h1 ha (by show k<y.length;omega) (hq.pre hb.pre) ((hx k aA).pre hb.pre) ((hy k aA).pre hb.pre) (by omega)) ?_
  rintro _ _ ⟨μ2,dA,rfl,rfl⟩
  refine⟨rfl,?_⟩
  refine pP ?_
  refine cX _ _ (cL _ _ ?_)
  refine bT hp ax hc rfl fun j4 bW=>?_
  refine pP ?_
  refine bW _ _ ⟨_,_,_,?_,⟨k+1,μ2,⟨by omega,by rw[ej];exact dA⟩,rfl,rfl,rfl⟩,?_⟩
  ·first|omega|(simp only[List.length_cons];omega)|(dsimp only;omega)
  ·refine r5 [0,1,2,3,4,5,6,7,8,9,10] ?_
   refine nF ?_
   refine Dz ?_;rw[ej];dsimp only;rw[←cd];simp[bH,bO,aK,ak,bP]
 ·have bM:k=x.length:=by simp at ht;omega
  have hz:s.2++List.replicate (x.length - s.2.length) (0:Int)=s.2:=by rw[hw,bM,Nat.sub_self];simp
  rw[hz]
  refine cJ (cm _ _ ?_)
  refine ah (D1 ·) ?_
  refine bC hp (τ':=aF [(4,.d (.fs (s.2.map iD) x.length))]) (H':=bH e s.1 μ1++[bP,.cells [.d (ao [a,x,y])]]) ?_ ?_
  ·refine Rt.trans (Rt.fz (id:=10) (l:=(s.2.map iD)) rfl) ?_
   refine Rt.trans (Rt.slot 4 (mU (fE (by simp[hw,bM])))) ?_
   refine r5 [0,1,2,3,4,5,6,7,8,9] ?_
   refine nF ?_
   exact MP
  refine aM ?_
  refine dJ (t:=4) rfl ?_
  show ∃_,_
  rw[jV bM];exact⟨μ1,de,by show AV.d (.fs (s.2.map iD) x.length)= .d (.fs (s.2.map iD) s.2.length);rw[hw,bM],rfl⟩
def rj(gs:Gs)(v k:Nat):Gs × List Int:=bL (fun gs i=>(gs,((v / 2^i % 2:Nat):Int))) gs k
theorem jjq{gs:Gs}{v k:Nat}:rj gs v (k+1)=((rj gs v k).1,(rj gs v k).2++[((v / 2^k % 2:Nat):Int)]):=rfl
theorem jt7{m:Nat}{gs:Gs}{v n k:Nat}(h2:2≤m)(h:GI m gs)(hk:k≤n):Bs m (0*k) k gs (rj gs v k):=kz h fun j hj fH hp hg=>Rs.same hg ⟨by omega,by omega⟩
theorem W3{p q:Prop}(hq:q)(h:p=q:=by
 conv=>lhs;simp -dsimp -implicitDefEqProofs (disch:=first|assumption|omega|(simp only[aH,aQ,bc]<;>omega)|decide) only[aN,↓reduceIte,Nat.reduceEqDiff,Nat.reduceAdd,D.fix,Int.reduceToNat,Nat.reduceMul,Nat.reduceBNe,Nat.reduceBEq,ch,bH,bO,aK,aY,di,List.cons_append,List.nil_append]):p:=h.mpr hq
theorem D0{p q:Prop}(hq:q)(h:p=q:=by
 conv=>lhs;simp -dsimp -implicitDefEqProofs (disch:=first|assumption|omega|(simp only[aH,aQ,bc]<;>omega)|decide) only[aN,↓reduceIte,Nat.reduceEqDiff,Nat.reduceAdd,D.fix,Int.reduceToNat,Nat.reduceMul,Nat.reduceBNe,Nat.reduceBEq,ch,bH,bO,aK,aY,di,List.cons_append,List.nil_append,bw]):p:=h.mpr hq
theorem Wc{p q:Prop}(hq:q)(h:p=q:=by
 conv=>lhs;simp only[cP,Nat.reduceAdd,↓reduceIte,Nat.reduceEqDiff,ch,bH,bO,aK,aY,di,List.cons_append,List.nil_append]):p:=h.mpr hq
theorem jna(e:BE)(gs:Gs)(μ:Mp)(v n:Nat)(h:dM e gs μ)(hv:v<2^62)(G4:n≤60):cY prog [0,1,3,4,5,6,7,8,9] 138 [.os 1 9 0 n,.dC (.func 145) [] [.op 8 0]] (bH e gs μ++[.cells [.d (iD v)],.cells (ak (List.replicate n (iD 0)))]) (yO e [.cells [.d (iD v)],.cells (ak (List.replicate n (iD 0)))] (rj gs v n)):=by
 refine fX (fn:=f138) (by kernel_rfl) func138 rfl (cn rfl) fun c hc hp=>?_
 refine pX ?_
 unfold bH
 refine ah (W3 ·) ?_
 refine ah (D0 ·) ?_
 refine aD fun K3 cm=>?_
 refine ah (D0 ·) ?_
 refine aW ?_
 refine cU hp (fun τ' H' mm=>∃(k:Nat) (μ1:Mp),(k≤n∧ir (aB e) (rj gs v k).1 μ1)∧mm=n - k∧H'=bH e (rj gs v k).1 μ1++[.cells [.d (iD v)],.cells (ak (List.replicate n (iD 0))),di (rj gs v k).2 n]∧τ'=aF [(1,.dC (.func 145) [] [.op 8 0]),(5,.os 1 10 0 n),(11,.os 1 9 0 n),(12,.d (iD n)),(13,.d (iD k))]) (n) ?_ ⟨0,μ,⟨cF _,h.n⟩,rfl,rfl,rfl⟩ ?_
 ·refine nF ?_
  refine Wc ?_;simp[rj,bL,di,bH,bO,aK,iD,ak]
 rintro τ' H' mm ⟨k,μ1,⟨hk,de⟩,rfl,rfl,rfl⟩
 have hb:=jt7 (m:=aB e) (v:=v) nG h.g hk
 have ej:=@jjq gs v k
 have jV:k=n→rj gs v n=rj gs v k:=fun e=>by rw[←e]
 generalize rj gs v k=s at *
 have hw:=hb.wid
 have sN:=hb.len
 have h1:dM e s.1 μ1:=⟨de,hb.gi,h.i,by have:=h.l;omega⟩
 refine ah (D0 ·) ?_
 refine aD fun K6 cK=>?_
 refine bf rfl (fun ht=>?_) (fun ht=>?_)
 ·have aA:k<n:=by simp at ht;omega
  have sC:(List.replicate n (D.val (.int .i64 0)))[k]? =some (.val (.int .i64 0)):=by simp[aA]
  have cd:=xH hw aA ((s.1,((v / 2^k % 2:Nat):Int))).2
  refine bg (cK _ _ ?_)
  refine aD fun K7 cL=>?_
  refine aW ?_
  refine aZ hp ax hc rfl fun K8 dP=>?_
  simp -dsimp -implicitDefEqProofs (disch:=first|assumption|omega|(simp only[aH,aQ,bc]<;>omega)|decide) only[aN,↓reduceIte,Nat.reduceEqDiff,Nat.reduceAdd,D.fix,Int.reduceToNat,Nat.reduceMul,Nat.reduceBNe,Nat.reduceBEq,ch,bH,bO,aK,aY,di,List.cons_append,List.nil_append,sC,Option.map_some,bw]
  refine dP _ _ ?_
  refine bT hp ax hc rfl fun K9 cX=>?_
  refine D0 ?_
  refine BA (S:=bH e s.1 μ1++[.cells [.d (iD v)]]) (T:=[.cells (ak (List.replicate n (iD 0))),di s.2 n]) (yge e s.1 μ1 v k _ de hv (by omega)) rfl (by first|rfl|(simp[AV.aj,AV.allI,bo,bq,bp,aL,aO,bn,br,bH,bO,di];done)|(intro o ho;simp at ho;done)) (fun t=>fL (by first|rfl|(simp[AV.aj,AV.allI,bo,bq,bp,aL,aO,bn,br,bH,bO,di];done)|(intro o ho;simp at ho;done)) t) (by first|rfl|(simp[AV.aj,AV.allI,bo,bq,bp,aL,aO,bn,br,bH,bO,di];done)|(intro o ho;simp at ho;done)) (by first|rfl|(simp[AV.aj,AV.allI,bo,bq,bp,aL,aO,bn,br,bH,bO,di];done)|(intro o ho;simp at ho;done)) (by first|rfl|(simp[AV.aj,AV.allI,bo,bq,bp,aL,aO,bn,br,bH,bO,di];done)|(intro o ho;simp at ho;done)) ?_
  rintro _ _ ⟨μ2,dA,rfl,rfl⟩
  refine⟨rfl,?_⟩
  refine D0 ?_
  refine cX _ _ (cL _ _ ?_)
  refine bT hp ax hc rfl fun j4 bW=>?_
  refine D0 ?_
  refine bW _ _ ⟨_,_,_,?_,⟨k+1,μ2,⟨by omega,by rw[ej];exact dA⟩,rfl,rfl,rfl⟩,?_⟩
  ·first|omega|(simp only[List.length_cons];omega)|(dsimp only;omega)
  ·refine r5 [0,1,2,3,4,5,6,7,8,9,10] ?_
   refine nF ?_
   refine Wc ?_;rw[ej];dsimp only;rw[←cd];simp[bH,bO,aK,ak,iD]
 ·have bM:k=n:=by simp at ht;omega
  have hz:s.2++List.replicate (n - s.2.length) (0:Int)=s.2:=by rw[hw,bM,Nat.sub_self];simp
  rw[hz]
  refine cJ (cm _ _ ?_)
  refine ah (W3 ·) ?_
  refine bC hp (τ':=aF [(4,.d (.fs (s.2.map iD) n))]) (H':=bH e s.1 μ1++[.cells [.d (iD v)],.cells (ak (List.replicate n (iD 0)))]) ?_ ?_
  ·refine Rt.trans (Rt.fz (id:=10) (l:=(s.2.map iD)) rfl) ?_
   refine Rt.trans (Rt.slot 4 (mU (fE (by simp[hw,bM])))) ?_
   refine r5 [0,1,2,3,4,5,6,7,8,9] ?_
   refine nF ?_
   first|rfl|(simp only[cP,Nat.reduceAdd,↓reduceIte,Nat.reduceEqDiff,ch,bH,bO,aK,aY,di,List.cons_append,List.nil_append];first|done|rfl)
  refine aM ?_
  refine dJ (t:=4) rfl ?_
  show ∃_,_
  rw[jV bM];exact⟨μ1,de,by show AV.d (.fs (s.2.map iD) n)= .d (.fs (s.2.map iD) s.2.length);rw[hw,bM],rfl⟩
def ri(ins:List aT)(gs:Gs)(j k:Nat):Gs × List Int:=bL (fun gs i=>(gs,((2+kL ⟨1,(j:Int),(i:Int)⟩ ins:Nat):Int))) gs k
theorem jjr{ins:List aT}{gs:Gs}{j k:Nat}:ri ins gs j (k+1)=((ri ins gs j k).1,(ri ins gs j k).2++[((2+kL ⟨1,(j:Int),(k:Int)⟩ ins:Nat):Int)]):=rfl
theorem jt8{e:BE}{gs:Gs}{j n k:Nat}(h:GI (aB e) gs)(hw:∀i,i<n→(⟨1,(j:Int),(i:Int)⟩:aT)∈e.ins)(hk:k≤n):Bs (aB e) (0*k) k gs (ri e.ins gs j k):=kz h fun i hi fH hp hg=>Rs.same hg (by
 have:=(yE (hw i (by omega))).1
 exact⟨by omega,by unfold aB;omega⟩)
theorem W2{p q r:Prop}(e:r)(hq:q)(h:r→p=q:=by
 intro hY
 conv=>lhs;simp -dsimp -implicitDefEqProofs (disch:=first|assumption|omega|(simp only[aH,aQ,bc]<;>omega)|decide) only[aN,↓reduceIte,Nat.reduceEqDiff,Nat.reduceAdd,D.fix,Int.reduceToNat,Nat.reduceMul,Nat.reduceBNe,Nat.reduceBEq,ch,bH,bO,aK,aY,di,List.cons_append,List.nil_append,bP,bw,hY]):p:=(h e).mpr hq
theorem jnb(e:BE)(gs:Gs)(μ:Mp)(j n:Nat)(h:dM e gs μ)(hm:oU e.ins e.mi)(pe:∀i,i<n→(⟨1,(j:Int),(i:Int)⟩:aT)∈e.ins)(hj:j≤1000)(G4:n≤60):cY prog [0,1,3,4,5,6,7,8,9] 138 [.d (.fs (List.replicate n (iD 0)) n),.dC (.func 146) [] [.op 8 0,.op 9 0]] (bH e gs μ++[bP,.cells [.d (iD j)]]) (yO e [bP,.cells [.d (iD j)]] (ri e.ins gs j n)):=by
 refine fX (fn:=f138) (by kernel_rfl) func138 rfl (cn rfl) fun c hc hp=>?_
 refine pX ?_
 unfold bH bP
 refine ah (D1 ·) ?_
 refine ah (pP ·) ?_
 refine aD fun K3 cm=>?_
 refine ah (pP ·) ?_
 refine aW ?_
 refine cU hp (fun τ' H' mm=>∃(k:Nat) (μ1:Mp),(k≤n∧ir (aB e) (ri e.ins gs j k).1 μ1)∧mm=n - k∧H'=bH e (ri e.ins gs j k).1 μ1++[bP,.cells [.d (iD j)],di (ri e.ins gs j k).2 n]∧τ'=aF [(1,.dC (.func 146) [] [.op 8 0,.op 9 0]),(5,.os 1 10 0 n),(11,.d (.fs (List.replicate n (iD 0)) n)),(12,.d (iD n)),(13,.d (iD k))]) (n) ?_ ⟨0,μ,⟨cF _,h.n⟩,rfl,rfl,rfl⟩ ?_
 ·refine nF ?_
  refine Dz ?_;simp[ri,bL,di,bH,bO,aK,iD,ak,bP]
 rintro τ' H' mm ⟨k,μ1,⟨hk,de⟩,rfl,rfl,rfl⟩
 have hb:=jt8 h.g pe hk
 have ej:=@jjr e.ins gs j k
 have jV:k=n→ri e.ins gs j n=ri e.ins gs j k:=fun e=>by rw[←e]
 generalize ri e.ins gs j k=s at *
 have hw:=hb.wid
 have sN:=hb.len
 have h1:dM e s.1 μ1:=⟨de,hb.gi,h.i,by have:=h.l;omega⟩
 refine ah (pP ·) ?_
 refine aD fun K6 cK=>?_
 refine bf rfl (fun ht=>?_) (fun ht=>?_)
 ·have aA:k<n:=by simp at ht;omega
  have sC:(List.replicate n (D.val (.int .i64 0)))[k]? =some (.val (.int .i64 0)):=by simp[aA]
  have cd:=xH hw aA ((s.1,((2+kL ⟨1,(j:Int),(k:Int)⟩ e.ins:Nat):Int))).2
  refine bg (cK _ _ ?_)
  refine aD fun K7 cL=>?_
  refine aW ?_
  refine ah (W2 sC ·) ?_
  refine bT hp ax hc rfl fun K9 cX=>?_
  refine pP ?_
  refine MQ (bH e s.1 μ1++[bP,.cells [.d (iD j)]]) ([di s.2 n]) (ygf e s.1 μ1 j k _ de hm (pe k aA) hj (by omega)) ?_
  rintro _ _ ⟨μ2,dA,rfl,rfl⟩
  refine⟨rfl,?_⟩
  refine pP ?_
  refine cX _ _ (cL _ _ ?_)
  refine bT hp ax hc rfl fun j4 bW=>?_
  refine pP ?_
  refine bW _ _ ⟨_,_,_,?_,⟨k+1,μ2,⟨by omega,by rw[ej];exact dA⟩,rfl,rfl,rfl⟩,?_⟩
  ·first|omega|(simp only[List.length_cons];omega)|(dsimp only;omega)
  ·refine r5 [0,1,2,3,4,5,6,7,8,9,10] ?_
   refine nF ?_
   refine Dz ?_;rw[ej];dsimp only;rw[←cd];simp[bH,bO,aK,ak,iD,bP]
 ·have bM:k=n:=by simp at ht;omega
  have hz:s.2++List.replicate (n - s.2.length) (0:Int)=s.2:=by rw[hw,bM,Nat.sub_self];simp
  rw[hz]
  refine cJ (cm _ _ ?_)
  refine ah (D1 ·) ?_
  refine bC hp (τ':=aF [(4,.d (.fs (s.2.map iD) n))]) (H':=bH e s.1 μ1++[bP,.cells [.d (iD j)]]) ?_ ?_
  ·refine Rt.trans (Rt.fz (id:=10) (l:=(s.2.map iD)) rfl) ?_
   refine Rt.trans (Rt.slot 4 (mU (fE (by simp[hw,bM])))) ?_
   refine r5 [0,1,2,3,4,5,6,7,8,9] ?_
   refine nF ?_
   exact MP
  refine aM ?_
  refine dJ (t:=4) rfl ?_
  show ∃_,_
  rw[jV bM];exact⟨μ1,de,by show AV.d (.fs (s.2.map iD) n)= .d (.fs (s.2.map iD) s.2.length);rw[hw,bM],rfl⟩
def qI(m:Nat)(gs:Gs)(d0 d1 d2:Int)(j k:Nat):Gs × List Int:=bL (fun gs i=>gw m gs ⟨7,d0,d1,d2,((8*j+i:Nat):Int)⟩) gs k
theorem jnc{m:Nat}{gs:Gs}{d0 d1 d2:Int}{j k:Nat}:qI m gs d0 d1 d2 j (k+1)=((gw m (qI m gs d0 d1 d2 j k).1 ⟨7,d0,d1,d2,((8*j+k:Nat):Int)⟩).1,(qI m gs d0 d1 d2 j k).2++[(gw m (qI m gs d0 d1 d2 j k).1 ⟨7,d0,d1,d2,((8*j+k:Nat):Int)⟩).2]):=rfl
theorem yby{m:Nat}{gs:Gs}{d0 d1 d2:Int}{j n k:Nat}(h:GI m gs)(h0:bm m gs d0)(h1:bm m gs d1)(h2:bm m gs d2)(hj:8*j+n≤64)(hk:k≤n):Bs m (1*k) k gs (qI m gs d0 d1 d2 j k):=kz h fun i hi fH hp hg=>by
 have a:=h0.pre hp;have b:=h1.pre hp;have d:=h2.pre hp
 exact yB hg ⟨by simp,by simp,a.1,a.2,b.1,b.2,d.1,d.2,by simp only;omega,by simp only;omega,fun e=>absurd rfl e,fun e=>absurd e (by simp),fun e=>absurd e (by simp)⟩
  ⟨fun e=>absurd e (by simp),fun _ e=>absurd e (by simp),fun e=>absurd e (by simp),fun e=>absurd e (by simp)⟩
theorem jt9(e:BE)(gs:Gs)(μ:Mp)(d0 d1 d2:Int)(j n:Nat)(h:dM e gs μ)(h0:bm (aB e) gs d0)(Hq:bm (aB e) gs d1)(hd2:bm (aB e) gs d2)(hj:8*j+n≤64)(hl:gs.length+n≤99990):cY prog [0,1,3,4,5,6,7,8,9,10] 138 [.d (.fs (List.replicate n (iD 0)) n),.dC (.func 153) [] [.op 8 0,.op 9 0,.op 10 0]] (bH e gs μ++[bP,.cells [.d (iD d0),.d (iD d1),.d (iD d2)],.cells [.d (iD j)]]) (yO e [bP,.cells [.d (iD d0),.d (iD d1),.d (iD d2)],.cells [.d (iD j)]] (qI (aB e) gs d0 d1 d2 j n)):=by
 refine fX (fn:=f138) (by kernel_rfl) func138 rfl (cn rfl) fun c hc hp=>?_
 refine pX ?_
 unfold bH bP
 refine ah (D1 ·) ?_
 refine ah (pP ·) ?_
 refine aD fun K3 cm=>?_
 refine ah (pP ·) ?_
 refine aW ?_
 refine cU hp (fun τ' H' mm=>∃(k:Nat) (μ1:Mp),(k≤n∧ir (aB e) (qI (aB e) gs d0 d1 d2 j k).1 μ1)∧mm=n - k∧H'=bH e (qI (aB e) gs d0 d1 d2 j k).1 μ1++[bP,.cells [.d (iD d0),.d (iD d1),.d (iD d2)],.cells [.d (iD j)],di (qI (aB e) gs d0 d1 d2 j k).2 n]∧τ'=aF [(1,.dC (.func 153) [] [.op 8 0,.op 9 0,.op 10 0]),(5,.os 1 11 0 n),(11,.d (.fs (List.replicate n (iD 0)) n)),(12,.d (iD n)),(13,.d (iD k))]) (n) ?_ ⟨0,μ,⟨cF _,h.n⟩,rfl,rfl,rfl⟩ ?_
 ·refine nF ?_
  refine Dz ?_;simp[qI,bL,di,bH,bO,aK,iD,ak,bP]
 rintro τ' H' mm ⟨k,μ1,⟨hk,de⟩,rfl,rfl,rfl⟩
 have hb:=yby h.g h0 Hq hd2 hj hk
 have ej:=@jnc (aB e) gs d0 d1 d2 j k
 have jV:k=n→qI (aB e) gs d0 d1 d2 j n=qI (aB e) gs d0 d1 d2 j k:=fun e=>by rw[←e]
 generalize qI (aB e) gs d0 d1 d2 j k=s at *
 have hw:=hb.wid
 have sN:=hb.len
 have h1:dM e s.1 μ1:=⟨de,hb.gi,h.i,by have:=h.l;omega⟩
 refine ah (pP ·) ?_
 refine aD fun K6 cK=>?_
 refine bf rfl (fun ht=>?_) (fun ht=>?_)
 ·have aA:k<n:=by simp at ht;omega
  have sC:(List.replicate n (D.val (.int .i64 0)))[k]? =some (.val (.int .i64 0)):=by simp[aA]
  have cd:=xH hw aA (gw (aB e) s.1 ⟨7,d0,d1,d2,((8*j+k:Nat):Int)⟩).2
  refine bg (cK _ _ ?_)
  refine aD fun K7 cL=>?_
  refine aW ?_
  refine ah (W2 sC ·) ?_
  refine bT hp ax hc rfl fun K9 cX=>?_
  refine pP ?_
  refine MQ (bH e s.1 μ1++[bP,.cells [.d (iD d0),.d (iD d1),.d (iD d2)],.cells [.d (iD j)]]) ([di s.2 n]) (ygg e s.1 μ1 d0 d1 d2 j k _ h1 (h0.pre hb.pre) (Hq.pre hb.pre) (hd2.pre hb.pre) (by omega) (by omega)) ?_
  rintro _ _ ⟨μ2,dA,rfl,rfl⟩
  refine⟨rfl,?_⟩
  refine pP ?_
  refine cX _ _ (cL _ _ ?_)
  refine bT hp ax hc rfl fun j4 bW=>?_
  refine pP ?_
  refine bW _ _ ⟨_,_,_,?_,⟨k+1,μ2,⟨by omega,by rw[ej];exact dA⟩,rfl,rfl,rfl⟩,?_⟩
  ·first|omega|(simp only[List.length_cons];omega)|(dsimp only;omega)
  ·refine r5 [0,1,2,3,4,5,6,7,8,9,10,11] ?_
   refine nF ?_
   refine Dz ?_;rw[ej];dsimp only;rw[←cd];simp[bH,bO,aK,ak,iD,bP]
 ·have bM:k=n:=by simp at ht;omega
  have hz:s.2++List.replicate (n - s.2.length) (0:Int)=s.2:=by rw[hw,bM,Nat.sub_self];simp
  rw[hz]
  refine cJ (cm _ _ ?_)
  refine ah (D1 ·) ?_
  refine bC hp (τ':=aF [(4,.d (.fs (s.2.map iD) n))]) (H':=bH e s.1 μ1++[bP,.cells [.d (iD d0),.d (iD d1),.d (iD d2)],.cells [.d (iD j)]]) ?_ ?_
  ·refine Rt.trans (Rt.fz (id:=11) (l:=(s.2.map iD)) rfl) ?_
   refine Rt.trans (Rt.slot 4 (mU (fE (by simp[hw,bM])))) ?_
   refine r5 [0,1,2,3,4,5,6,7,8,9,10] ?_
   refine nF ?_
   exact MP
  refine aM ?_
  refine dJ (t:=4) rfl ?_
  show ∃_,_
  rw[jV bM];exact⟨μ1,de,by show AV.d (.fs (s.2.map iD) n)= .d (.fs (s.2.map iD) s.2.length);rw[hw,bM],rfl⟩
end Go.Proofs.YtapjobndmmkanaaGreat
