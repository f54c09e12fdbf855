/- A memory's address. -/
import Derived.Test.YtapjobndmmkanaaGreatQr
import Derived.Test.YtapjobndmmkanaaGreatYj
import Derived.Test.YtapjobndmmkanaaGreatPm
set_option linter.unusedVariables false
set_option linter.unusedSimpArgs false
set_option maxRecDepth 100000
set_option maxHeartbeats 4000000
namespace Go.Proofs.YtapjobndmmkanaaGreat
open Go.Proofs.Tryz
open Go Go.RowKit
theorem Qh{l:List Int}{k:Nat}(h:k<3):((yJ l k).map iD).set k (iD (nth l k))=(yJ l (k+1)).map iD:=by
 rcases(show k=0∨k=1∨k=2 by omega)with rfl|rfl|rfl<;>rfl
theorem Ag{p q:Prop}(hq:q)(h:p=q:=by
 conv=>lhs;simp -dsimp -implicitDefEqProofs (disch:=first|assumption|omega|(simp only[aK,yv]<;>omega)|decide) only[aP,↓reduceIte,Nat.reduceEqDiff,Nat.reduceAdd,D.fix,Int.reduceToNat,Nat.reduceMul,Nat.reduceBNe,Nat.reduceBEq,av,dm,Int.toNat_natCast,bw]):p:=h.mpr hq
theorem J2{m:List Nat}{τ τ':Fr}{H H':ak}(h2:H=H')(h:fm τ τ':=by
 repeat (first|exact bT _|refine bM ?_ (by first|rfl|(simp[aR,yv];done)|simp[aR,yv, *]))):Rt m τ H τ' H':=Rt.end h h2
theorem w3{p q r:Prop}(e:r)(hq:q)(h:r→p=q:=by
 intro hY
 conv=>lhs;simp -dsimp -implicitDefEqProofs (disch:=first|assumption|omega|(simp only[aK,yv]<;>omega)|decide) only[aP,↓reduceIte,Nat.reduceEqDiff,Nat.reduceAdd,D.fix,Int.reduceToNat,Nat.reduceMul,Nat.reduceBNe,Nat.reduceBEq,av,dm,Int.toNat_natCast,bw,hY]):p:=(h e).mpr hq
theorem Af{p q:Prop}(hq:q)(h:p=q:=by
 conv=>lhs;simp -dsimp -implicitDefEqProofs (disch:=first|assumption|omega|(simp only[aK,yv]<;>omega)|decide) only[aP,↓reduceIte,Nat.reduceEqDiff,Nat.reduceAdd,D.fix,Int.reduceToNat,Nat.reduceMul,Nat.reduceBNe,Nat.reduceBEq,av,dm,Int.toNat_natCast,yJ,au,List.map_cons,List.map_nil,bw]):p:=h.mpr hq
theorem Ae{p q:Prop}(hq:q)(h:p=q:=by
 conv=>lhs;simp -dsimp -implicitDefEqProofs (disch:=first|assumption|omega|(simp only[aK,yv]<;>omega)|decide) only[aP,↓reduceIte,Nat.reduceEqDiff,Nat.reduceAdd,D.fix,Int.reduceToNat,Nat.reduceMul,Nat.reduceBNe,Nat.reduceBEq,av,dm,Int.toNat_natCast,MA,PM]):p:=h.mpr hq
theorem AW{p q:Prop}(hq:q)(h:p=q:=by
 conv=>lhs;simp (disch:=first|assumption|omega|(simp only[aK,yv]<;>omega)|decide) only[gF,Nat.reduceAdd,D.fix,↓reduceIte,Nat.reduceEqDiff,av,dm,Int.toNat_natCast]):p:=h.mpr hq
theorem NG{p q:Prop}(hq:q)(h:p=q:=by
 conv=>lhs;simp only[cD,Nat.reduceAdd,↓reduceIte,Nat.reduceEqDiff,av,dm,Int.toNat_natCast]):p:=h.mpr hq
theorem jmn(l:List Int)(w:Nat)(hl:l.length≤100)(hw:w≤8):cC prog 96 [av l,iD w] (.d (.agg ((gS l w).map iD))):=by
 refine ez (fn:=f96) (by kernel_rfl) func96 rfl (bN rfl) fun c hc hp=>?_
 refine dG (τ':=aG [(0,.d (av l)),(1,.d (iD w))]) (by repeat (first|exact bT _|refine bM ?_ (by first|rfl|(simp[aR,yv];done)|simp[aR,yv, *]))) ?_
 refine aj (Ag ·) ?_
 refine aj (Ag ·) ?_
 refine aH fun K3 bS=>?_
 refine bC hp ax hc rfl fun K4 dD=>?_
 simp -dsimp -implicitDefEqProofs (disch:=first|assumption|omega|(simp only[aK,yv]<;>omega)|decide) only[aP,↓reduceIte,Nat.reduceEqDiff,Nat.reduceAdd,D.fix,Int.reduceToNat,Nat.reduceMul,Nat.reduceBNe,Nat.reduceBEq,av,dm,Int.toNat_natCast]
 refine dD _ _ ?_
 refine aW ?_
 refine c9 hp (fun τ' H' mm=>∃(k:Nat),(k≤3∧∀j,j<k→j<l.length∧2^j<w)∧mm=3 - k∧H'=[.cells (au ((yJ l 0).map iD)),.cells (au ((yJ l k).map iD))]∧τ'=aG [(0,.d (av l)),(1,.d (iD w)),(4,.op 0 0),(5,.op 1 0),(6,.d (iD k))]) (3) ?_ ⟨0,⟨by omega,fun j hj=>by omega⟩,rfl,rfl,rfl⟩ ?_
 ·refine J2 ?_
  rfl
 rintro τ' H' mm ⟨k,⟨hk,fk⟩,rfl,rfl,rfl⟩
 refine aH fun K5 fA=>?_
 refine bC hp ax hc rfl fun K6 cF=>?_
 have hsp:(k=0∧l.length≤0)∨(k=0∧0<l.length∧w≤1)∨(k=0∧0<l.length∧1<w)∨(k=1∧l.length≤1)∨(k=1∧1<l.length∧w≤2)∨(k=1∧1<l.length∧2<w)∨(k=2∧l.length≤2)∨(k=2∧2<l.length∧w≤4)∨(k=2∧2<l.length∧4<w)∨(k=3∧l.length≤3)∨(k=3∧3<l.length∧w≤8):=by omega
 rcases hsp with⟨rfl,h1⟩|⟨rfl,h1,h2⟩|⟨rfl,h1,h2⟩|⟨rfl,h1⟩|⟨rfl,h1,h2⟩|⟨rfl,h1,h2⟩|⟨rfl,h1⟩|⟨rfl,h1,h2⟩|⟨rfl,h1,h2⟩|⟨rfl,h1⟩|⟨rfl,h1,h2⟩
 ·have qb:decide (((0:Nat):Int)<l.length)=false:=decide_eq_false (by omega)
  have hs:IntKind.i64.wrap (1*2^min (0:Nat) 64)=((1:Nat):Int):=by decide
  have qc:=qb
  refine w3 (aL qb (aL hs qc)) ?_
  refine cF _ _ ?_
  refine eC ?_
  have he:=Av hk fk (by omega)
  refine cL (bS _ _ ?_)
  refine aj (Af ·) ?_
  refine bh ?_
  try dsimp only[fb,fc]
  refine iH rfl ?_
  refine Ae ?_
  show aC _ _=_
  refine AW ?_
  rw[←he];rfl
 ·have qb:decide (((0:Nat):Int)<l.length)=true:=decide_eq_true (by omega)
  have hs:IntKind.i64.wrap (1*2^min (0:Nat) 64)=((1:Nat):Int):=by decide
  have qc:decide (((1:Nat):Int)<(w:Int))=false:=decide_eq_false (by omega)
  refine w3 (aL qb (aL hs qc)) ?_
  refine cF _ _ ?_
  refine eC ?_
  have he:=Av hk fk (by omega)
  refine cL (bS _ _ ?_)
  refine aj (Af ·) ?_
  refine bh ?_
  try dsimp only[fb,fc]
  refine iH rfl ?_
  refine Ae ?_
  show aC _ _=_
  refine AW ?_
  rw[←he];rfl
 ·have qb:decide (((0:Nat):Int)<l.length)=true:=decide_eq_true (by omega)
  have hs:IntKind.i64.wrap (1*2^min (0:Nat) 64)=((1:Nat):Int):=by decide
  have qc:decide (((1:Nat):Int)<(w:Int))=true:=decide_eq_true (by omega)
  refine w3 (aL qb (aL hs qc)) ?_
  refine cF _ _ ?_
  refine jW ?_
  have cu:=Qh (l:=l) (k:=0) (by decide)
  refine bB (fA _ _ ?_)
  refine aH fun K9 cJ=>?_
  refine aW ?_
  refine jX (Ag ·) (cJ _ _ ?_)
  refine bA hp ax hc rfl fun lz cm=>?_
  refine Ag ?_
  refine cm _ _ ⟨_,_,_,?_,⟨1,⟨by omega,fun j hj=>by rcases(show j=0 by omega)with rfl<;>(constructor<;>omega)⟩,rfl,rfl,rfl⟩,?_⟩
  ·first|omega|(simp only[List.length_cons];omega)|(dsimp only;omega)
  ·refine Rt.trans (Rt.gc (keep:=[0,1]) (by decide) (by decide) (by simp[eS,dg])) ?_
   refine J2 ?_
   refine NG ?_;rw[←cu];simp[yJ]
 ·have qb:decide (((1:Nat):Int)<l.length)=false:=decide_eq_false (by omega)
  have hs:IntKind.i64.wrap (1*2^min (1:Nat) 64)=((2:Nat):Int):=by decide
  have qc:=qb
  refine w3 (aL qb (aL hs qc)) ?_
  refine cF _ _ ?_
  refine eC ?_
  have he:=Av hk fk (by omega)
  refine cL (bS _ _ ?_)
  refine aj (Af ·) ?_
  refine bh ?_
  try dsimp only[fb,fc]
  refine iH rfl ?_
  refine Ae ?_
  show aC _ _=_
  refine AW ?_
  rw[←he];rfl
 ·have qb:decide (((1:Nat):Int)<l.length)=true:=decide_eq_true (by omega)
  have hs:IntKind.i64.wrap (1*2^min (1:Nat) 64)=((2:Nat):Int):=by decide
  have qc:decide (((2:Nat):Int)<(w:Int))=false:=decide_eq_false (by omega)
  refine w3 (aL qb (aL hs qc)) ?_
  refine cF _ _ ?_
  refine eC ?_
  have he:=Av hk fk (by omega)
  refine cL (bS _ _ ?_)
  refine aj (Af ·) ?_
  refine bh ?_
  try dsimp only[fb,fc]
  refine iH rfl ?_
  refine Ae ?_
  show aC _ _=_
  refine AW ?_
  rw[←he];rfl
 ·have qb:decide (((1:Nat):Int)<l.length)=true:=decide_eq_true (by omega)
  have hs:IntKind.i64.wrap (1*2^min (1:Nat) 64)=((2:Nat):Int):=by decide
  have qc:decide (((2:Nat):Int)<(w:Int))=true:=decide_eq_true (by omega)
  refine w3 (aL qb (aL hs qc)) ?_
  refine cF _ _ ?_
  refine jW ?_
  have cu:=Qh (l:=l) (k:=1) (by decide)
  refine bB (fA _ _ ?_)
  refine aH fun rM dI=>?_
  refine aW ?_
  refine jX (Ag ·) (dI _ _ ?_)
  refine bA hp ax hc rfl fun pM df=>?_
  refine Ag ?_
  refine df _ _ ⟨_,_,_,?_,⟨2,⟨by omega,fun j hj=>by rcases(show j=0∨j=1 by omega)with rfl|rfl<;>(constructor<;>omega)⟩,rfl,rfl,rfl⟩,?_⟩
  ·first|omega|(simp only[List.length_cons];omega)|(dsimp only;omega)
  ·refine Rt.trans (Rt.gc (keep:=[0,1]) (by decide) (by decide) (by simp[eS,dg])) ?_
   refine J2 ?_
   refine NG ?_;rw[←cu];simp[yJ]
 ·have qb:decide (((2:Nat):Int)<l.length)=false:=decide_eq_false (by omega)
  have hs:IntKind.i64.wrap (1*2^min (2:Nat) 64)=((4:Nat):Int):=by decide
  have qc:=qb
  refine w3 (aL qb (aL hs qc)) ?_
  refine cF _ _ ?_
  refine eC ?_
  have he:=Av hk fk (by omega)
  refine cL (bS _ _ ?_)
  refine aj (Af ·) ?_
  refine bh ?_
  try dsimp only[fb,fc]
  refine iH rfl ?_
  refine Ae ?_
  show aC _ _=_
  refine AW ?_
  rw[←he];rfl
 ·have qb:decide (((2:Nat):Int)<l.length)=true:=decide_eq_true (by omega)
  have hs:IntKind.i64.wrap (1*2^min (2:Nat) 64)=((4:Nat):Int):=by decide
  have qc:decide (((4:Nat):Int)<(w:Int))=false:=decide_eq_false (by omega)
  refine w3 (aL qb (aL hs qc)) ?_
  refine cF _ _ ?_
  refine eC ?_
  have he:=Av hk fk (by omega)
  refine cL (bS _ _ ?_)
  refine aj (Af ·) ?_
  refine bh ?_
  try dsimp only[fb,fc]
  refine iH rfl ?_
  refine Ae ?_
  show aC _ _=_
  refine AW ?_
  rw[←he];rfl
 ·have qb:decide (((2:Nat):Int)<l.length)=true:=decide_eq_true (by omega)
  have hs:IntKind.i64.wrap (1*2^min (2:Nat) 64)=((4:Nat):Int):=by decide
  have qc:decide (((4:Nat):Int)<(w:Int))=true:=decide_eq_true (by omega)
  refine w3 (aL qb (aL hs qc)) ?_
  refine cF _ _ ?_
  refine jW ?_
  have cu:=Qh (l:=l) (k:=2) (by decide)
  refine bB (fA _ _ ?_)
  refine aH fun wT fC=>?_
  refine aW ?_
  refine jX (Ag ·) (fC _ _ ?_)
  refine bA hp ax hc rfl fun yU ib=>?_
  refine Ag ?_
  refine ib _ _ ⟨_,_,_,?_,⟨3,⟨by omega,fun j hj=>by rcases(show j=0∨j=1∨j=2 by omega)with rfl|rfl|rfl<;>(constructor<;>omega)⟩,rfl,rfl,rfl⟩,?_⟩
  ·first|omega|(simp only[List.length_cons];omega)|(dsimp only;omega)
  ·refine Rt.trans (Rt.gc (keep:=[0,1]) (by decide) (by decide) (by simp[eS,dg])) ?_
   refine J2 ?_
   refine NG ?_;rw[←cu];simp[yJ]
 ·have qb:decide (((3:Nat):Int)<l.length)=false:=decide_eq_false (by omega)
  have hs:IntKind.i64.wrap (1*2^min (3:Nat) 64)=((8:Nat):Int):=by decide
  have qc:=qb
  refine w3 (aL qb (aL hs qc)) ?_
  refine cF _ _ ?_
  refine eC ?_
  have he:=Av hk fk (by omega)
  refine cL (bS _ _ ?_)
  refine aj (Af ·) ?_
  refine bh ?_
  try dsimp only[fb,fc]
  refine iH rfl ?_
  refine Ae ?_
  show aC _ _=_
  refine AW ?_
  rw[←he];rfl
 ·have qb:decide (((3:Nat):Int)<l.length)=true:=decide_eq_true (by omega)
  have hs:IntKind.i64.wrap (1*2^min (3:Nat) 64)=((8:Nat):Int):=by decide
  have qc:decide (((8:Nat):Int)<(w:Int))=false:=decide_eq_false (by omega)
  refine w3 (aL qb (aL hs qc)) ?_
  refine cF _ _ ?_
  refine eC ?_
  have he:=Av hk fk (by omega)
  refine cL (bS _ _ ?_)
  refine aj (Af ·) ?_
  refine bh ?_
  try dsimp only[fb,fc]
  refine iH rfl ?_
  refine Ae ?_
  show aC _ _=_
  refine AW ?_
  rw[←he];rfl
theorem MB{f:Nat→Int}{gs:Gs}:∀n,dh (fun gs i=>(gs,f i)) gs n=(gs,(List.range n).map f)
 |0=>rfl
 |n+1=>by rw[dh,MB n];simp[xt]
theorem FD{a b c:Int}:Value.agg #[.int .i64 a,.int .i64 b,.int .i64 c]=wV ⟨a,b,c⟩:=rfl
def xA(al:List (List Int))(f:FuncId):ak:=[bP,.cells [.d (ai al)],.cells [.d (.val (.func (.func f) #[] #[]))]]
theorem OB{p q:Prop}(hq:q)(h:p=q:=by
 conv=>lhs;simp -dsimp -implicitDefEqProofs (disch:=first|assumption|omega|(simp only[aK,aT,bx]<;>omega)|decide) only[aP,↓reduceIte,Nat.reduceEqDiff,Nat.reduceAdd,D.fix,Int.reduceToNat,Nat.reduceMul,Nat.reduceBNe,Nat.reduceBEq,bR,bH,bO,aD,bE,bP,List.cons_append,List.nil_append,xA,ai]):p:=h.mpr hq
theorem Ez{p q:Prop}(hq:q)(h:p=q:=by
 conv=>lhs;simp -dsimp -implicitDefEqProofs (disch:=first|assumption|omega|(simp only[aK,aT,bx]<;>omega)|decide) only[aP,↓reduceIte,Nat.reduceEqDiff,Nat.reduceAdd,D.fix,Int.reduceToNat,Nat.reduceMul,Nat.reduceBNe,Nat.reduceBEq,mz,bR,bH,bO,aD,bE,bP,List.cons_append,List.nil_append,xA,ai,dm,bw]):p:=h.mpr hq
theorem NF{P:Program}{sm:List Nat}{N:Nat}{τ0 τ:Fr}{H:ak}{f:FuncId}{args:List AV}{K0 KK:AV→ak→Prop}{ks:List Nat}(S T:ak)(h:cM P ks f args S K0)(hK:∀x S',K0 x S'→S'.length=S.length∧KK x (S'++T))(hH:H=S++T:=by
 rfl) (hN:S.length≤N:=by
 exact bN rfl) (hm:sm.all (aJ ks S.length)=true:=by
 first|rfl|(simp[AV.ah,AV.allI,bc,bg,bf,aJ,aN,aY,aZ,bH,bO,bP,xA];done)|(intro o ho;simp at ho;done)) (hτ:∀t,(τ t).allI (aJ ks S.length)=true:=by
 exact fun t=>fU (by first|rfl|(simp[AV.ah,AV.allI,bc,bg,bf,aJ,aN,aY,aZ,bH,bO,bP,xA];done)|(intro o ho;simp at ho;done)) t) (h0:∀t,(τ0 t).allI (aJ ks S.length)=true:=by
 exact fun t=>fU (by first|rfl|(simp[AV.ah,AV.allI,bc,bg,bf,aJ,aN,aY,aZ,bH,bO,bP,xA];done)|(intro o ho;simp at ho;done)) t) (ha:AV.ah (aN S.length) args=true:=by
 first|rfl|(simp[AV.ah,AV.allI,bc,bg,bf,aJ,aN,aY,aZ,bH,bO,bP,xA];done)|(intro o ho;simp at ho;done)) (hS:∀o∈S,o.allI (aN S.length)=true:=by
 first|rfl|(simp[AV.ah,AV.allI,bc,bg,bf,aJ,aN,aY,aZ,bH,bO,bP,xA];done)|(intro o ho;simp at ho;done)) (hT:∀o∈T,o.allI (aJ ks S.length)=true:=by
 first|rfl|(simp[AV.ah,AV.allI,bc,bg,bf,aJ,aN,aY,aZ,bH,bO,bP,xA];done)|(intro o ho;simp at ho;done)):kE P sm N τ0 τ H (.d (.val (.func (.func f) #[] #[]))) args (tg KK):=uL h hH hN hm hτ h0 ha hS hT hK
theorem Eu(k:List Nat){m:List Nat}{τ τ1:Fr}{H H1:ak}(h:Rt m (fun t=>c7 k (τ t)) (dg k H) τ1 H1)(a:∀i∈m,k[i]? =some i:=by decide)(b:k.Nodup:=by decide)(c:∀i∈k,i<H.length:=by
 simp[eS,dg]):Rt m τ H τ1 H1:=Rt.trans (Rt.gc a b c) h
theorem Et{m:List Nat}{τ τ':Fr}{H H':ak}(h2:H=H')(h:fm τ τ':=by
 repeat (first|exact bT _|refine bM ?_ (by first|rfl|(simp[aR,aT,bx];done)|simp[aR,aT,bx, *]))):Rt m τ H τ' H':=Rt.end h h2
theorem ND{p:Prop}(h:p:=by
 first|rfl|(simp only[cD,Nat.reduceAdd,↓reduceIte,Nat.reduceEqDiff,bR,bH,bO,aD,bE,bP,List.cons_append,List.nil_append,xA,ai];first|done|rfl)):p:=h
theorem jxm(e:BE)(gs:Gs)(μ:Mp)(al:List (List Int))(i:Nat)(x:Int)(h:dx e gs μ)(h1:1<al.length)(hi:i<(nth al 1).length)(hx:br (aw e) gs x)(hy:br (aw e) gs (nth (nth al 1) i)):cM prog [0,1,3,4,5,6,7,8,9,10] 144 [.d (iD i),.d (iD x),.op 10 0,.op 8 0,.op 9 0] (bH e gs μ++xA al 95) (vf e (xA al 95) (du (aw e) gs x (nth (nth al 1) i))):=by
 refine fV (fn:=f144) (by kernel_rfl) func144 rfl (bN rfl) fun c hc hp=>?_
 refine DE ?_
 unfold bH xA bP
 refine aj (OB ·) ?_
 refine jN ax hp hc mixed rfl [(0,[]),(1,[]),(2,[]),(3,[]),(4,[]),(5,[]),(6,[]),(7,[]),(8,[]),(9,[]),(10,[])] [[],[],[],[],[3],[3,4],[],[3,4,5,6],[3,4,5,6,7],[0,1,2,3,4,5,6,7,8],[0,1,2,3,4,5,6,7,8,9]] 0 (by kernel_rfl) fun K2 bG=>?_
 refine Ez ?_
 refine NF (bH e gs μ) (xA al 95) (xd e gs μ x (nth (nth al 1) i) h hx hy) ?_
 rintro _ _ ⟨μ1,cZ,rfl,rfl⟩
 refine⟨rfl,?_⟩
 refine Ez ?_
 refine bG _ _ ?_
 refine bI hp (τ':=aG [(7,.d (iD (du (aw e) gs x (nth (nth al 1) i)).2))]) (H':=bH e (du (aw e) gs x (nth (nth al 1) i)).1 μ1++xA al 95) ?_ ?_
 ·refine Eu [0,1,2,3,4,5,6,7,8,9,10] ?_
  refine Et ?_
  exact ND
 refine bh ?_
 refine c8 (t:=7) rfl ?_
 show ∃_,_
 exact⟨μ1,cZ,rfl,rfl⟩
theorem ygk(e:BE)(gs:Gs)(μ:Mp)(al:List (List Int))(i:Nat)(x:Int)(h:dx e gs μ)(h1:1<al.length)(hi:i<(nth al 1).length)(hx:br (aw e) gs x)(hy:br (aw e) gs (nth (nth al 1) i)):cM prog [0,1,3,4,5,6,7,8,9,10] 144 [.d (iD i),.d (iD x),.op 10 0,.op 8 0,.op 9 0] (bH e gs μ++xA al 141) (vf e (xA al 141) (ko (aw e) gs x (nth (nth al 1) i))):=by
 refine fV (fn:=f144) (by kernel_rfl) func144 rfl (bN rfl) fun c hc hp=>?_
 refine DE ?_
 unfold bH xA bP
 refine aj (OB ·) ?_
 refine jN ax hp hc mixed rfl [(0,[]),(1,[]),(2,[]),(3,[]),(4,[]),(5,[]),(6,[]),(7,[]),(8,[]),(9,[]),(10,[])] [[],[],[],[],[3],[3,4],[],[3,4,5,6],[3,4,5,6,7],[0,1,2,3,4,5,6,7,8],[0,1,2,3,4,5,6,7,8,9]] 0 (by kernel_rfl) fun K2 bG=>?_
 refine Ez ?_
 refine NF (bH e gs μ) (xA al 141) (G3 e gs μ x (nth (nth al 1) i) h hx hy) ?_
 rintro _ _ ⟨μ1,cZ,rfl,rfl⟩
 refine⟨rfl,?_⟩
 refine Ez ?_
 refine bG _ _ ?_
 refine bI hp (τ':=aG [(7,.d (iD (ko (aw e) gs x (nth (nth al 1) i)).2))]) (H':=bH e (ko (aw e) gs x (nth (nth al 1) i)).1 μ1++xA al 141) ?_ ?_
 ·refine Eu [0,1,2,3,4,5,6,7,8,9,10] ?_
  refine Et ?_
  exact ND
 refine bh ?_
 refine c8 (t:=7) rfl ?_
 show ∃_,_
 exact⟨μ1,cZ,rfl,rfl⟩
theorem jxn(e:BE)(gs:Gs)(μ:Mp)(al:List (List Int))(i:Nat)(x:Int)(h:dx e gs μ)(h1:1<al.length)(hi:i<(nth al 1).length)(hx:br (aw e) gs x)(hy:br (aw e) gs (nth (nth al 1) i)):cM prog [0,1,3,4,5,6,7,8,9,10] 144 [.d (iD i),.d (iD x),.op 10 0,.op 8 0,.op 9 0] (bH e gs μ++xA al 143) (vf e (xA al 143) (iq (aw e) gs x (nth (nth al 1) i))):=by
 refine fV (fn:=f144) (by kernel_rfl) func144 rfl (bN rfl) fun c hc hp=>?_
 refine DE ?_
 unfold bH xA bP
 refine aj (OB ·) ?_
 refine jN ax hp hc mixed rfl [(0,[]),(1,[]),(2,[]),(3,[]),(4,[]),(5,[]),(6,[]),(7,[]),(8,[]),(9,[]),(10,[])] [[],[],[],[],[3],[3,4],[],[3,4,5,6],[3,4,5,6,7],[0,1,2,3,4,5,6,7,8],[0,1,2,3,4,5,6,7,8,9]] 0 (by kernel_rfl) fun K2 bG=>?_
 refine Ez ?_
 refine NF (bH e gs μ) (xA al 143) (LG e gs μ x (nth (nth al 1) i) h hx hy) ?_
 rintro _ _ ⟨μ1,cZ,rfl,rfl⟩
 refine⟨rfl,?_⟩
 refine Ez ?_
 refine bG _ _ ?_
 refine bI hp (τ':=aG [(7,.d (iD (iq (aw e) gs x (nth (nth al 1) i)).2))]) (H':=bH e (iq (aw e) gs x (nth (nth al 1) i)).1 μ1++xA al 143) ?_ ?_
 ·refine Eu [0,1,2,3,4,5,6,7,8,9,10] ?_
  refine Et ?_
  exact ND
 refine bh ?_
 refine c8 (t:=7) rfl ?_
 show ∃_,_
 exact⟨μ1,cZ,rfl,rfl⟩
theorem X0{p q:Prop}(hq:q)(h:p=q:=by
 conv=>lhs;simp -dsimp -implicitDefEqProofs (disch:=first|assumption|omega|(simp only[aK,aT,bx]<;>omega)|decide) only[aP,↓reduceIte,Nat.reduceEqDiff,Nat.reduceAdd,D.fix,Int.reduceToNat,Nat.reduceMul,Nat.reduceBNe,Nat.reduceBEq,mz,bR,bH,bO,aD,bE,bP,List.cons_append,List.nil_append,ai,dm,bw]):p:=h.mpr hq
theorem ylu(e:BE)(gs:Gs)(μ:Mp)(al:List (List Int))(i:Nat)(x:Int)(h:dx e gs μ)(h2:2<al.length)(h0:0<(nth al 0).length)(hi:i<(nth al 2).length)(nL:br (aw e) gs (nth (nth al 0) 0))(hx:br (aw e) gs x)(hy:br (aw e) gs (nth (nth al 2) i))(hl:gs.length+2≤100000):cM prog [0,1,3,4,5,6,7,8,9] 151 [.d (iD i),.d (iD x),.op 8 0,.op 9 0] (bH e gs μ++[bP,.cells [.d (ai al)]]) (vf e [bP,.cells [.d (ai al)]] (jF (aw e) gs (nth (nth al 0) 0) x (nth (nth al 2) i))):=by
 refine fV (fn:=f151) (by kernel_rfl) func151 rfl (bN rfl) fun c hc hp=>?_
 refine B8 ?_
 unfold bH bP
 refine bC hp ax hc rfl fun K1 rE=>?_
 simp -dsimp -implicitDefEqProofs (disch:=first|assumption|omega|(simp only[aK,aT,bx]<;>omega)|decide) only[aP,↓reduceIte,Nat.reduceEqDiff,Nat.reduceAdd,D.fix,Int.reduceToNat,Nat.reduceMul,Nat.reduceBNe,Nat.reduceBEq,bR,bH,bO,aD,bE,bP,List.cons_append,List.nil_append,ai]
 refine rE _ _ ?_
 refine jN ax hp hc mixed rfl [(0,[]),(1,[]),(2,[]),(3,[]),(4,[]),(5,[]),(6,[]),(7,[]),(8,[]),(9,[]),(10,[]),(11,[]),(12,[]),(13,[]),(14,[])] [[],[],[1],[1,2],[1,2,3],[1,2,3,4],[],[],[7],[7,8],[],[7,8,9,10],[7,8,9,10,11],[0,1,2,3,4,5,6,7,8,9,10,11,12],[0,1,2,3,4,5,6,7,8,9,10,11,12,13]] 0 (by kernel_rfl) fun K2 bG=>?_
 refine X0 ?_
 refine uL (S:=bH e gs μ) (T:=[bP,.cells [.d (ai al)]]) (jub e gs μ (nth (nth al 0) 0) x (nth (nth al 2) i) h nL hx hy hl) rfl (bN rfl) (by first|rfl|(simp[AV.ah,AV.allI,bc,bg,bf,aJ,aN,aY,aZ,bH,bO,bP];done)|(intro o ho;simp at ho;done)) (fun t=>fU (by first|rfl|(simp[AV.ah,AV.allI,bc,bg,bf,aJ,aN,aY,aZ,bH,bO,bP];done)|(intro o ho;simp at ho;done)) t) (fun t=>fU (by first|rfl|(simp[AV.ah,AV.allI,bc,bg,bf,aJ,aN,aY,aZ,bH,bO,bP];done)|(intro o ho;simp at ho;done)) t) (by first|rfl|(simp[AV.ah,AV.allI,bc,bg,bf,aJ,aN,aY,aZ,bH,bO,bP];done)|(intro o ho;simp at ho;done)) (by first|rfl|(simp[AV.ah,AV.allI,bc,bg,bf,aJ,aN,aY,aZ,bH,bO,bP];done)|(intro o ho;simp at ho;done)) (by first|rfl|(simp[AV.ah,AV.allI,bc,bg,bf,aJ,aN,aY,aZ,bH,bO,bP];done)|(intro o ho;simp at ho;done)) ?_
 rintro _ _ ⟨μ1,cZ,rfl,rfl⟩
 refine⟨rfl,?_⟩
 refine X0 ?_
 refine bG _ _ ?_
 refine bI hp (τ':=aG [(6,.d (iD (jF (aw e) gs (nth (nth al 0) 0) x (nth (nth al 2) i)).2))]) (H':=bH e (jF (aw e) gs (nth (nth al 0) 0) x (nth (nth al 2) i)).1 μ1++[bP,.cells [.d (ai al)]]) ?_ ?_
 ·refine Eu [0,1,2,3,4,5,6,7,8,9] ?_
  refine Et ?_
  first|rfl|(simp only[cD,Nat.reduceAdd,↓reduceIte,Nat.reduceEqDiff,bR,bH,bO,aD,bE,bP,List.cons_append,List.nil_append,ai];first|done|rfl)
 refine bh ?_
 refine c8 (t:=6) rfl ?_
 show ∃_,_
 exact⟨μ1,cZ,rfl,rfl⟩
theorem XZ{p q:Prop}(hq:q)(h:p=q:=by
 conv=>lhs;simp -dsimp -implicitDefEqProofs (disch:=first|assumption|omega|(simp only[aK,aT,bx]<;>omega)|decide) only[aP,↓reduceIte,Nat.reduceEqDiff,Nat.reduceAdd,D.fix,Int.reduceToNat,Nat.reduceMul,Nat.reduceBNe,Nat.reduceBEq,bR,bH,bO,aD,bE,bP,List.cons_append,List.nil_append]):p:=h.mpr hq
theorem Wp{p:Prop}(h:p:=by
 first|rfl|(simp only[cD,Nat.reduceAdd,↓reduceIte,Nat.reduceEqDiff,bR,bH,bO,aD,bE,bP,List.cons_append,List.nil_append];first|done|rfl)):p:=h
theorem ylv(e:BE)(gs:Gs)(μ:Mp)(v i:Nat)(x:Int)(hn:ic (aw e) gs μ)(hv:v<2^62)(hi:i≤60):cM prog [0,1,3,4,5,6,7,8] 145 [.d (iD i),.d (iD x),.op 8 0] (bH e gs μ++[.cells [.d (iD v)]]) (vf e [.cells [.d (iD v)]] (gs,((v / 2^i % 2:Nat):Int))):=by
 refine fV (fn:=f145) (by kernel_rfl) func145 rfl (bN rfl) fun c hc hp=>?_
 refine vY ?_
 unfold bH
 have Rn:=ykq (v:=v) (k:=i) hv (by omega)
 refine aj (XZ ·) ?_
 refine bC hp ax hc rfl fun K2 bG=>?_
 simp -dsimp -implicitDefEqProofs (disch:=first|assumption|omega|(simp only[aK,aT,bx]<;>omega)|decide) only[aP,↓reduceIte,Nat.reduceEqDiff,Nat.reduceAdd,D.fix,Int.reduceToNat,Nat.reduceMul,Nat.reduceBNe,Nat.reduceBEq,bR,bH,bO,aD,bE,bP,List.cons_append,List.nil_append,Rn,Int.toNat_natCast,bw]
 refine bG _ _ ?_
 refine bI hp (τ':=aG [(5,.d (iD ((v / 2^i % 2:Nat):Int)))]) (H':=bH e gs μ++[.cells [.d (iD v)]]) ?_ ?_
 ·refine Eu [0,1,2,3,4,5,6,7,8] ?_
  refine Et ?_
  exact Wp
 refine bh ?_
 refine c8 (t:=5) rfl ?_
 show ∃_,_
 exact⟨μ,hn,rfl,rfl⟩
theorem ylw(e:BE)(gs:Gs)(μ:Mp)(j i:Nat)(x:Int)(hn:ic (aw e) gs μ)(hm:o7 e.ins e.mi)(hw:(⟨1,(j:Int),(i:Int)⟩:aB)∈e.ins)(hj:j≤1000)(hi:i≤1000):cM prog [0,1,3,4,5,6,7,8,9] 146 [.d (iD i),.d (iD x),.op 8 0,.op 9 0] (bH e gs μ++[bP,.cells [.d (iD j)]]) (vf e [bP,.cells [.d (iD j)]] (gs,((2+mc ⟨1,(j:Int),(i:Int)⟩ e.ins:Nat):Int))):=by
 refine fV (fn:=f146) (by kernel_rfl) func146 rfl (bN rfl) fun c hc hp=>?_
 refine B8 ?_
 unfold bH bP
 have lZ:pU prog AL (wV ⟨1,(j:Int),(i:Int)⟩):=Fw (a:=1) (b:=(j:Int)) (c:=(i:Int)) (nP (by decide) (by decide)) (nP (by omega) (by omega)) (nP (by omega) (by omega))
 have js:=hm.gt ⟨1,(j:Int),(i:Int)⟩
 rw[if_pos hw]at js
 refine aj (XZ ·) ?_
 refine eN ax hc mixed rfl (q:=0) (by kernel_rfl) (by kernel_rfl) fun K2 bG=>?_
 simp -dsimp -implicitDefEqProofs (disch:=first|assumption|omega|(simp only[aK,aT,bx]<;>omega)|decide) only[aP,↓reduceIte,Nat.reduceEqDiff,Nat.reduceAdd,D.fix,Int.reduceToNat,Nat.reduceMul,Nat.reduceBNe,Nat.reduceBEq,bR,bH,bO,aD,bE,bP,List.cons_append,List.nil_append,FD,yq,Pf J6 lZ hm.ok,js,Option.getD_some,bw]
 refine bG _ _ ?_
 refine bI hp (τ':=aG [(6,.d (iD ((2+mc ⟨1,(j:Int),(i:Int)⟩ e.ins:Nat):Int)))]) (H':=bH e gs μ++[bP,.cells [.d (iD j)]]) ?_ ?_
 ·refine Eu [0,1,2,3,4,5,6,7,8,9] ?_
  refine Et ?_
  exact Wp
 refine bh ?_
 refine c8 (t:=6) rfl ?_
 show ∃_,_
 exact⟨μ,hn,rfl,rfl⟩
theorem XY{p q:Prop}(hq:q)(h:p=q:=by
 conv=>lhs;simp -dsimp -implicitDefEqProofs (disch:=first|assumption|omega|(simp only[aK,aT,bx]<;>omega)|decide) only[aP,↓reduceIte,Nat.reduceEqDiff,Nat.reduceAdd,D.fix,Int.reduceToNat,Nat.reduceMul,Nat.reduceBNe,Nat.reduceBEq,bR,bH,bO,aD,bE,bP,List.cons_append,List.nil_append,bw]):p:=h.mpr hq
theorem sW(k:List Nat){m:List Nat}{τ τ1:Fr}{H H1:ak}(h:Rt m (fun t=>c7 k (τ t)) (dg k H) τ1 H1)(a:∀i∈m,k[i]? =some i:=by decide)(b:k.Nodup:=by decide)(c:∀i∈k,i<H.length:=by
 simp[eS,dg]):Rt m τ H τ1 H1:=Rt.trans (Rt.gc a b c) h
theorem nu{m:List Nat}{τ τ':Fr}{H H':ak}(h2:H=H')(h:fm τ τ':=by
 repeat (first|exact bT _|refine bM ?_ (by first|rfl|(simp[aR,aT,bx];done)|simp[aR,aT,bx, *]))):Rt m τ H τ' H':=Rt.end h h2
theorem ylx(e:BE)(gs:Gs)(μ:Mp)(d0 d1 d2:Int)(j i:Nat)(x:Int)(h:dx e gs μ)(h0:br (aw e) gs d0)(h1:br (aw e) gs d1)(h2:br (aw e) gs d2)(hj:j≤1000)(hi:i≤1000):cM prog [0,1,3,4,5,6,7,8,9,10] 153 [.d (iD i),.d (iD x),.op 8 0,.op 9 0,.op 10 0] (bH e gs μ++[bP,.cells [.d (iD d0),.d (iD d1),.d (iD d2)],.cells [.d (iD j)]]) (vf e [bP,.cells [.d (iD d0),.d (iD d1),.d (iD d2)],.cells [.d (iD j)]] (gX (aw e) gs ⟨7,d0,d1,d2,((8*j+i:Nat):Int)⟩)):=by
 refine fV (fn:=f153) (by kernel_rfl) func153 rfl (bN rfl) fun c hc hp=>?_
 refine DE ?_
 unfold bH bP
 have nL:((8*j+i:Nat):Int)=8*(j:Int)+i:=by omega
 rw[nL]
 refine bC hp ax hc rfl fun K1 rE=>?_
 simp -dsimp -implicitDefEqProofs (disch:=first|assumption|omega|(simp only[aK,aT,bx]<;>omega)|decide) only[aP,↓reduceIte,Nat.reduceEqDiff,Nat.reduceAdd,D.fix,Int.reduceToNat,Nat.reduceMul,Nat.reduceBNe,Nat.reduceBEq,bR,bH,bO,aD,bE,bP,List.cons_append,List.nil_append]
 refine rE _ _ ?_
 refine bC hp ax hc rfl fun K2 bG=>?_
 refine XY ?_
 refine r7 (S:=bH e gs μ) (T:=[bP,.cells [.d (iD d0),.d (iD d1),.d (iD d2)],.cells [.d (iD j)]]) (B4 e gs μ ⟨7,d0,d1,d2,8*(j:Int)+i⟩ h.n ⟨(nP (by decide) (by decide):nN 7),h.u7 h0,h.u7 h1,h.u7 h2,(nP (by omega) (by omega):nN (8*(j:Int)+i))⟩ h.i h.l) rfl (by first|rfl|(simp[AV.ah,AV.allI,bc,bg,bf,aJ,aN,aY,aZ,bH,bO,bP];done)|(intro o ho;simp at ho;done)) (fun t=>fU (by first|rfl|(simp[AV.ah,AV.allI,bc,bg,bf,aJ,aN,aY,aZ,bH,bO,bP];done)|(intro o ho;simp at ho;done)) t) (by first|rfl|(simp[AV.ah,AV.allI,bc,bg,bf,aJ,aN,aY,aZ,bH,bO,bP];done)|(intro o ho;simp at ho;done)) (by first|rfl|(simp[AV.ah,AV.allI,bc,bg,bf,aJ,aN,aY,aZ,bH,bO,bP];done)|(intro o ho;simp at ho;done)) (by first|rfl|(simp[AV.ah,AV.allI,bc,bg,bf,aJ,aN,aY,aZ,bH,bO,bP];done)|(intro o ho;simp at ho;done)) ?_
 rintro _ _ ⟨μ1,cZ,rfl,rfl⟩
 refine⟨rfl,?_⟩
 refine XY ?_
 refine bG _ _ ?_
 refine bI hp (τ':=aG [(7,.d (iD (gX (aw e) gs ⟨7,d0,d1,d2,8*(j:Int)+i⟩).2))]) (H':=bH e (gX (aw e) gs ⟨7,d0,d1,d2,8*(j:Int)+i⟩).1 μ1++[bP,.cells [.d (iD d0),.d (iD d1),.d (iD d2)],.cells [.d (iD j)]]) ?_ ?_
 ·refine sW [0,1,2,3,4,5,6,7,8,9,10] ?_
  refine nu ?_
  first|rfl|(simp only[cD,Nat.reduceAdd,↓reduceIte,Nat.reduceEqDiff,bR,bH,bO,aD,bE,bP,List.cons_append,List.nil_append];first|done|rfl)
 refine bh ?_
 refine c8 (t:=7) rfl ?_
 show ∃_,_
 exact⟨μ1,cZ,rfl,rfl⟩
def r5(m:Nat)(gs:Gs)(x y:List Int)(k:Nat):Gs × List Int:=dh (fun gs i=>du m gs (nth x i) (nth y i)) gs k
theorem jmo{m:Nat}{gs:Gs}{x y:List Int}{k:Nat}:r5 m gs x y (k+1)=((du m (r5 m gs x y k).1 (nth x k) (nth y k)).1,(r5 m gs x y k).2++[(du m (r5 m gs x y k).1 (nth x k) (nth y k)).2]):=rfl
theorem jxo{m:Nat}{gs:Gs}{x y:List Int}{n k:Nat}(h2:2≤m)(h:GI m gs)(hx:eo m gs x n)(hy:eo m gs y n)(hk:k≤n):Bs m (1*k) k gs (r5 m gs x y k):=nB h fun j hj cW hp hg=>qJ h2 hg ((hx j (by omega)).pre hp) ((hy j (by omega)).pre hp)
theorem jxp(e:BE)(gs:Gs)(μ:Mp)(x y:List Int)(i:Nat)(z:Int)(h:dx e gs μ)(hi:i<y.length)(hx:br (aw e) gs z)(hy:br (aw e) gs (nth y i)):cM prog [0,1,3,4,5,6,7,8,9,10] 144 [.d (iD i),.d (iD z),.op 10 0,.op 8 0,.op 9 0] (bH e gs μ++xA [x,y] 95) (vf e (xA [x,y] 95) (du (aw e) gs z (nth y i))):=jxm e gs μ [x,y] i z h (by simp) hi hx hy
theorem Ey{p q:Prop}(hq:q)(h:p=q:=by
 conv=>lhs;simp -dsimp -implicitDefEqProofs (disch:=first|assumption|omega|(simp only[aK,aT,bx]<;>omega)|decide) only[aP,↓reduceIte,Nat.reduceEqDiff,Nat.reduceAdd,D.fix,Int.reduceToNat,Nat.reduceMul,Nat.reduceBNe,Nat.reduceBEq,bR,bH,bO,aD,bE,cB,List.cons_append,List.nil_append,bP,xA]):p:=h.mpr hq
theorem pZ{p q:Prop}(hq:q)(h:p=q:=by
 conv=>lhs;simp -dsimp -implicitDefEqProofs (disch:=first|assumption|omega|(simp only[aK,aT,bx]<;>omega)|decide) only[aP,↓reduceIte,Nat.reduceEqDiff,Nat.reduceAdd,D.fix,Int.reduceToNat,Nat.reduceMul,Nat.reduceBNe,Nat.reduceBEq,bR,bH,bO,aD,bE,cB,List.cons_append,List.nil_append,bP,xA,bw]):p:=h.mpr hq
theorem OA{p q:Prop}(hq:q)(h:p=q:=by
 conv=>lhs;simp -dsimp -implicitDefEqProofs (disch:=first|assumption|omega|(simp only[aK,aT,bx]<;>omega)|decide) only[aP,↓reduceIte,Nat.reduceEqDiff,Nat.reduceAdd,D.fix,Int.reduceToNat,Nat.reduceMul,Nat.reduceBNe,Nat.reduceBEq,bR,bH,bO,aD,bE,cB,List.cons_append,List.nil_append,bP,xA,dm,bw]):p:=h.mpr hq
theorem NC{P:Program}{sm:List Nat}{N:Nat}{τ:Fr}{H:ak}{f:FuncId}{fi ca args:List AV}{K0 KK:AV→ak→Prop}{ks:List Nat}(S T:ak)(h:cM P ks f (fi++args++ca) S K0)(hK:∀x S',K0 x S'→S'.length=S.length∧KK x (S'++T))(hH:H=S++T:=by
 rfl) (hm:sm.all (aJ ks S.length)=true:=by
 first|rfl|(simp[AV.ah,AV.allI,bc,bg,bf,aJ,aN,aY,aZ,bH,bO,cB,bP,xA];done)|(intro o ho;simp at ho;done)) (hτ:∀t,(τ t).allI (aJ ks S.length)=true:=by
 exact fun t=>fU (by first|rfl|(simp[AV.ah,AV.allI,bc,bg,bf,aJ,aN,aY,aZ,bH,bO,cB,bP,xA];done)|(intro o ho;simp at ho;done)) t) (ha:AV.ah (aN S.length) (fi++args++ca)=true:=by
 first|rfl|(simp[AV.ah,AV.allI,bc,bg,bf,aJ,aN,aY,aZ,bH,bO,cB,bP,xA];done)|(intro o ho;simp at ho;done)) (hS:∀o∈S,o.allI (aN S.length)=true:=by
 first|rfl|(simp[AV.ah,AV.allI,bc,bg,bf,aJ,aN,aY,aZ,bH,bO,cB,bP,xA];done)|(intro o ho;simp at ho;done)) (hT:∀o∈T,o.allI (aJ ks S.length)=true:=by
 first|rfl|(simp[AV.ah,AV.allI,bc,bg,bf,aJ,aN,aY,aZ,bH,bO,cB,bP,xA];done)|(intro o ho;simp at ho;done)):kC P sm N H τ (.dk (.func f) fi ca) args true (tg KK):=Aw h hH hm hτ ha hS hT hK
theorem Es{p q:Prop}(hq:q)(h:p=q:=by
 conv=>lhs;simp only[cD,Nat.reduceAdd,↓reduceIte,Nat.reduceEqDiff,bR,bH,bO,aD,bE,cB,List.cons_append,List.nil_append,bP,xA]):p:=h.mpr hq
theorem NB{p:Prop}(h:p:=by
 first|rfl|(simp only[cD,Nat.reduceAdd,↓reduceIte,Nat.reduceEqDiff,bR,bH,bO,aD,bE,cB,List.cons_append,List.nil_append,bP,xA];first|done|rfl)):p:=h
theorem jp6(e:BE)(gs:Gs)(μ:Mp)(x y:List Int)(h:dx e gs μ)(hx:eo (aw e) gs x x.length)(hy:eo (aw e) gs y x.length)(qm:y.length=x.length)(hl:gs.length+x.length≤99990)(vq:x.length≤1000):cM prog [0,1,3,4,5,6,7,8,9,10] 138 [.d (av x),.dk (.func 144) [] [.op 10 0,.op 8 0,.op 9 0]] (bH e gs μ++[bP,.cells [.d (ai [x,y])],.cells [.d (.val (.func (.func 95) #[] #[]))]]) (zu e [bP,.cells [.d (ai [x,y])],.cells [.d (.val (.func (.func 95) #[] #[]))]] (r5 (aw e) gs x y x.length)):=by
 refine fV (fn:=f138) (by kernel_rfl) func138 rfl (bN rfl) fun c hc hp=>?_
 refine oc ?_
 unfold bH bP
 refine aj (Ey ·) ?_
 refine aj (pZ ·) ?_
 refine aH fun K3 bS=>?_
 refine aj (pZ ·) ?_
 refine aW ?_
 refine c9 hp (fun τ' H' mm=>∃(k:Nat) (μ1:Mp),(k≤x.length∧ic (aw e) (r5 (aw e) gs x y k).1 μ1)∧mm=x.length - k∧H'=bH e (r5 (aw e) gs x y k).1 μ1++[bP,.cells [.d (ai [x,y])],.cells [.d (.val (.func (.func 95) #[] #[]))],cB (r5 (aw e) gs x y k).2 x.length]∧τ'=aG [(1,.dk (.func 144) [] [.op 10 0,.op 8 0,.op 9 0]),(5,.os 1 11 0 x.length),(11,.d (av x)),(12,.d (iD x.length)),(13,.d (iD k))]) (x.length) ?_ ⟨0,μ,⟨cy _,h.n⟩,rfl,rfl,rfl⟩ ?_
 ·refine nu ?_
  refine Es ?_;simp[r5,dh,cB,bH,bO,aD,iD,au,bP,xA]
 rintro τ' H' mm ⟨k,μ1,⟨hk,cZ⟩,rfl,rfl,rfl⟩
 have hb:=jxo nw h.g hx hy hk
 have dY:=@jmo (aw e) gs x y k
 have jS:k=x.length→r5 (aw e) gs x y x.length=r5 (aw e) gs x y k:=fun e=>by rw[←e]
 generalize r5 (aw e) gs x y k=s at *
 have hw:=hb.wid
 have pC:=hb.len
 have h1:dx e s.1 μ1:=⟨cZ,hb.gi,h.i,by have:=h.l;omega⟩
 refine aj (pZ ·) ?_
 refine aH fun K6 cF=>?_
 refine aX rfl (fun ht=>?_) (fun ht=>?_)
 ·have aA:k<x.length:=by simp at ht;omega
  have cu:=xf hw aA (du (aw e) s.1 (nth x k) (nth y k)).2
  refine bB (cF _ _ ?_)
  refine aH fun K7 de=>?_
  refine aW ?_
  refine aj (OA ·) ?_
  refine bA hp ax hc rfl fun K9 cJ=>?_
  refine pZ ?_
  refine NC (bH e s.1 μ1++[bP,.cells [.d (ai [x,y])],.cells [.d (.val (.func (.func 95) #[] #[]))]]) ([cB s.2 x.length]) (jxp e s.1 μ1 x y k (nth x k) h1 (by show k<y.length;omega) ((hx k aA).pre hb.pre) ((hy k aA).pre hb.pre)) ?_
  rintro _ _ ⟨μ2,db,rfl,rfl⟩
  refine⟨rfl,?_⟩
  refine pZ ?_
  refine cJ _ _ (de _ _ ?_)
  refine bA hp ax hc rfl fun kL bU=>?_
  refine pZ ?_
  refine bU _ _ ⟨_,_,_,?_,⟨k+1,μ2,⟨by omega,by rw[dY];exact db⟩,rfl,rfl,rfl⟩,?_⟩
  ·first|omega|(simp only[List.length_cons];omega)|(dsimp only;omega)
  ·refine sW [0,1,2,3,4,5,6,7,8,9,10,11] ?_
   refine nu ?_
   refine Es ?_;rw[dY];dsimp only;rw[←cu];simp[bH,bO,aD,au,bP,xA]
 ·have cf:k=x.length:=by simp at ht;omega
  have hz:s.2++List.replicate (x.length - s.2.length) (0:Int)=s.2:=by rw[hw,cf,Nat.sub_self];simp
  rw[hz]
  refine cL (bS _ _ ?_)
  refine aj (Ey ·) ?_
  refine bI hp (τ':=aG [(4,.d (.fs (s.2.map iD) x.length))]) (H':=bH e s.1 μ1++[bP,.cells [.d (ai [x,y])],.cells [.d (.val (.func (.func 95) #[] #[]))]]) ?_ ?_
  ·refine Rt.trans (Rt.fz (id:=11) (l:=(s.2.map iD)) rfl) ?_
   refine Rt.trans (Rt.slot 4 (qL (iN (by simp[hw,cf])))) ?_
   refine sW [0,1,2,3,4,5,6,7,8,9,10] ?_
   refine nu ?_
   exact NB
  refine bh ?_
  refine c8 (t:=4) rfl ?_
  show ∃_,_
  rw[jS cf];exact⟨μ1,cZ,by show AV.d (.fs (s.2.map iD) x.length)= .d (.fs (s.2.map iD) s.2.length);rw[hw,cf],rfl⟩
def sd(m:Nat)(gs:Gs)(x y:List Int)(k:Nat):Gs × List Int:=dh (fun gs i=>ko m gs (nth x i) (nth y i)) gs k
theorem jp7{m:Nat}{gs:Gs}{x y:List Int}{k:Nat}:sd m gs x y (k+1)=((ko m (sd m gs x y k).1 (nth x k) (nth y k)).1,(sd m gs x y k).2++[(ko m (sd m gs x y k).1 (nth x k) (nth y k)).2]):=rfl
theorem ygo{m:Nat}{gs:Gs}{x y:List Int}{n k:Nat}(h2:2≤m)(h:GI m gs)(hx:eo m gs x n)(hy:eo m gs y n)(hk:k≤n):Bs m (1*k) k gs (sd m gs x y k):=nB h fun j hj cW hp hg=>Am h2 hg ((hx j (by omega)).pre hp) ((hy j (by omega)).pre hp)
theorem ygp(e:BE)(gs:Gs)(μ:Mp)(x y:List Int)(i:Nat)(z:Int)(h:dx e gs μ)(hi:i<y.length)(hx:br (aw e) gs z)(hy:br (aw e) gs (nth y i)):cM prog [0,1,3,4,5,6,7,8,9,10] 144 [.d (iD i),.d (iD z),.op 10 0,.op 8 0,.op 9 0] (bH e gs μ++xA [x,y] 141) (vf e (xA [x,y] 141) (ko (aw e) gs z (nth y i))):=ygk e gs μ [x,y] i z h (by simp) hi hx hy
theorem jxr(e:BE)(gs:Gs)(μ:Mp)(x y:List Int)(h:dx e gs μ)(hx:eo (aw e) gs x x.length)(hy:eo (aw e) gs y x.length)(qm:y.length=x.length)(hl:gs.length+x.length≤99990)(vq:x.length≤1000):cM prog [0,1,3,4,5,6,7,8,9,10] 138 [.d (av x),.dk (.func 144) [] [.op 10 0,.op 8 0,.op 9 0]] (bH e gs μ++[bP,.cells [.d (ai [x,y])],.cells [.d (.val (.func (.func 141) #[] #[]))]]) (zu e [bP,.cells [.d (ai [x,y])],.cells [.d (.val (.func (.func 141) #[] #[]))]] (sd (aw e) gs x y x.length)):=by
 refine fV (fn:=f138) (by kernel_rfl) func138 rfl (bN rfl) fun c hc hp=>?_
 refine oc ?_
 unfold bH bP
 refine aj (Ey ·) ?_
 refine aj (pZ ·) ?_
 refine aH fun K3 bS=>?_
 refine aj (pZ ·) ?_
 refine aW ?_
 refine c9 hp (fun τ' H' mm=>∃(k:Nat) (μ1:Mp),(k≤x.length∧ic (aw e) (sd (aw e) gs x y k).1 μ1)∧mm=x.length - k∧H'=bH e (sd (aw e) gs x y k).1 μ1++[bP,.cells [.d (ai [x,y])],.cells [.d (.val (.func (.func 141) #[] #[]))],cB (sd (aw e) gs x y k).2 x.length]∧τ'=aG [(1,.dk (.func 144) [] [.op 10 0,.op 8 0,.op 9 0]),(5,.os 1 11 0 x.length),(11,.d (av x)),(12,.d (iD x.length)),(13,.d (iD k))]) (x.length) ?_ ⟨0,μ,⟨cy _,h.n⟩,rfl,rfl,rfl⟩ ?_
 ·refine nu ?_
  refine Es ?_;simp[sd,dh,cB,bH,bO,aD,iD,au,bP,xA]
 rintro τ' H' mm ⟨k,μ1,⟨hk,cZ⟩,rfl,rfl,rfl⟩
 have hb:=ygo nw h.g hx hy hk
 have dY:=@jp7 (aw e) gs x y k
 have jS:k=x.length→sd (aw e) gs x y x.length=sd (aw e) gs x y k:=fun e=>by rw[←e]
 generalize sd (aw e) gs x y k=s at *
 have hw:=hb.wid
 have pC:=hb.len
 have h1:dx e s.1 μ1:=⟨cZ,hb.gi,h.i,by have:=h.l;omega⟩
 refine aj (pZ ·) ?_
 refine aH fun K6 cF=>?_
 refine aX rfl (fun ht=>?_) (fun ht=>?_)
 ·have aA:k<x.length:=by simp at ht;omega
  have cu:=xf hw aA (ko (aw e) s.1 (nth x k) (nth y k)).2
  refine bB (cF _ _ ?_)
  refine aH fun K7 de=>?_
  refine aW ?_
  refine aj (OA ·) ?_
  refine bA hp ax hc rfl fun K9 cJ=>?_
  refine pZ ?_
  refine NC (bH e s.1 μ1++[bP,.cells [.d (ai [x,y])],.cells [.d (.val (.func (.func 141) #[] #[]))]]) ([cB s.2 x.length]) (ygp e s.1 μ1 x y k (nth x k) h1 (by show k<y.length;omega) ((hx k aA).pre hb.pre) ((hy k aA).pre hb.pre)) ?_
  rintro _ _ ⟨μ2,db,rfl,rfl⟩
  refine⟨rfl,?_⟩
  refine pZ ?_
  refine cJ _ _ (de _ _ ?_)
  refine bA hp ax hc rfl fun kL bU=>?_
  refine pZ ?_
  refine bU _ _ ⟨_,_,_,?_,⟨k+1,μ2,⟨by omega,by rw[dY];exact db⟩,rfl,rfl,rfl⟩,?_⟩
  ·first|omega|(simp only[List.length_cons];omega)|(dsimp only;omega)
  ·refine sW [0,1,2,3,4,5,6,7,8,9,10,11] ?_
   refine nu ?_
   refine Es ?_;rw[dY];dsimp only;rw[←cu];simp[bH,bO,aD,au,bP,xA]
 ·have cf:k=x.length:=by simp at ht;omega
  have hz:s.2++List.replicate (x.length - s.2.length) (0:Int)=s.2:=by rw[hw,cf,Nat.sub_self];simp
  rw[hz]
  refine cL (bS _ _ ?_)
  refine aj (Ey ·) ?_
  refine bI hp (τ':=aG [(4,.d (.fs (s.2.map iD) x.length))]) (H':=bH e s.1 μ1++[bP,.cells [.d (ai [x,y])],.cells [.d (.val (.func (.func 141) #[] #[]))]]) ?_ ?_
  ·refine Rt.trans (Rt.fz (id:=11) (l:=(s.2.map iD)) rfl) ?_
   refine Rt.trans (Rt.slot 4 (qL (iN (by simp[hw,cf])))) ?_
   refine sW [0,1,2,3,4,5,6,7,8,9,10] ?_
   refine nu ?_
   exact NB
  refine bh ?_
  refine c8 (t:=4) rfl ?_
  show ∃_,_
  rw[jS cf];exact⟨μ1,cZ,by show AV.d (.fs (s.2.map iD) x.length)= .d (.fs (s.2.map iD) s.2.length);rw[hw,cf],rfl⟩
def r4(m:Nat)(gs:Gs)(x y:List Int)(k:Nat):Gs × List Int:=dh (fun gs i=>iq m gs (nth x i) (nth y i)) gs k
theorem jmp{m:Nat}{gs:Gs}{x y:List Int}{k:Nat}:r4 m gs x y (k+1)=((iq m (r4 m gs x y k).1 (nth x k) (nth y k)).1,(r4 m gs x y k).2++[(iq m (r4 m gs x y k).1 (nth x k) (nth y k)).2]):=rfl
theorem jxs{m:Nat}{gs:Gs}{x y:List Int}{n k:Nat}(h2:2≤m)(h:GI m gs)(hx:eo m gs x n)(hy:eo m gs y n)(hk:k≤n):Bs m (1*k) k gs (r4 m gs x y k):=nB h fun j hj cW hp hg=>w7 h2 hg ((hx j (by omega)).pre hp) ((hy j (by omega)).pre hp)
theorem jxt(e:BE)(gs:Gs)(μ:Mp)(x y:List Int)(i:Nat)(z:Int)(h:dx e gs μ)(hi:i<y.length)(hx:br (aw e) gs z)(hy:br (aw e) gs (nth y i)):cM prog [0,1,3,4,5,6,7,8,9,10] 144 [.d (iD i),.d (iD z),.op 10 0,.op 8 0,.op 9 0] (bH e gs μ++xA [x,y] 143) (vf e (xA [x,y] 143) (iq (aw e) gs z (nth y i))):=jxn e gs μ [x,y] i z h (by simp) hi hx hy
theorem jp8(e:BE)(gs:Gs)(μ:Mp)(x y:List Int)(h:dx e gs μ)(hx:eo (aw e) gs x x.length)(hy:eo (aw e) gs y x.length)(qm:y.length=x.length)(hl:gs.length+x.length≤99990)(vq:x.length≤1000):cM prog [0,1,3,4,5,6,7,8,9,10] 138 [.d (av x),.dk (.func 144) [] [.op 10 0,.op 8 0,.op 9 0]] (bH e gs μ++[bP,.cells [.d (ai [x,y])],.cells [.d (.val (.func (.func 143) #[] #[]))]]) (zu e [bP,.cells [.d (ai [x,y])],.cells [.d (.val (.func (.func 143) #[] #[]))]] (r4 (aw e) gs x y x.length)):=by
 refine fV (fn:=f138) (by kernel_rfl) func138 rfl (bN rfl) fun c hc hp=>?_
 refine oc ?_
 unfold bH bP
 refine aj (Ey ·) ?_
 refine aj (pZ ·) ?_
 refine aH fun K3 bS=>?_
 refine aj (pZ ·) ?_
 refine aW ?_
 refine c9 hp (fun τ' H' mm=>∃(k:Nat) (μ1:Mp),(k≤x.length∧ic (aw e) (r4 (aw e) gs x y k).1 μ1)∧mm=x.length - k∧H'=bH e (r4 (aw e) gs x y k).1 μ1++[bP,.cells [.d (ai [x,y])],.cells [.d (.val (.func (.func 143) #[] #[]))],cB (r4 (aw e) gs x y k).2 x.length]∧τ'=aG [(1,.dk (.func 144) [] [.op 10 0,.op 8 0,.op 9 0]),(5,.os 1 11 0 x.length),(11,.d (av x)),(12,.d (iD x.length)),(13,.d (iD k))]) (x.length) ?_ ⟨0,μ,⟨cy _,h.n⟩,rfl,rfl,rfl⟩ ?_
 ·refine nu ?_
  refine Es ?_;simp[r4,dh,cB,bH,bO,aD,iD,au,bP,xA]
 rintro τ' H' mm ⟨k,μ1,⟨hk,cZ⟩,rfl,rfl,rfl⟩
 have hb:=jxs nw h.g hx hy hk
 have dY:=@jmp (aw e) gs x y k
 have jS:k=x.length→r4 (aw e) gs x y x.length=r4 (aw e) gs x y k:=fun e=>by rw[←e]
 generalize r4 (aw e) gs x y k=s at *
 have hw:=hb.wid
 have pC:=hb.len
 have h1:dx e s.1 μ1:=⟨cZ,hb.gi,h.i,by have:=h.l;omega⟩
 refine aj (pZ ·) ?_
 refine aH fun K6 cF=>?_
 refine aX rfl (fun ht=>?_) (fun ht=>?_)
 ·have aA:k<x.length:=by simp at ht;omega
  have cu:=xf hw aA (iq (aw e) s.1 (nth x k) (nth y k)).2
  refine bB (cF _ _ ?_)
  refine aH fun K7 de=>?_
  refine aW ?_
  refine aj (OA ·) ?_
  refine bA hp ax hc rfl fun K9 cJ=>?_
  refine pZ ?_
  refine NC (bH e s.1 μ1++[bP,.cells [.d (ai [x,y])],.cells [.d (.val (.func (.func 143) #[] #[]))]]) ([cB s.2 x.length]) (jxt e s.1 μ1 x y k (nth x k) h1 (by show k<y.length;omega) ((hx k aA).pre hb.pre) ((hy k aA).pre hb.pre)) ?_
  rintro _ _ ⟨μ2,db,rfl,rfl⟩
  refine⟨rfl,?_⟩
  refine pZ ?_
  refine cJ _ _ (de _ _ ?_)
  refine bA hp ax hc rfl fun kL bU=>?_
  refine pZ ?_
  refine bU _ _ ⟨_,_,_,?_,⟨k+1,μ2,⟨by omega,by rw[dY];exact db⟩,rfl,rfl,rfl⟩,?_⟩
  ·first|omega|(simp only[List.length_cons];omega)|(dsimp only;omega)
  ·refine sW [0,1,2,3,4,5,6,7,8,9,10,11] ?_
   refine nu ?_
   refine Es ?_;rw[dY];dsimp only;rw[←cu];simp[bH,bO,aD,au,bP,xA]
 ·have cf:k=x.length:=by simp at ht;omega
  have hz:s.2++List.replicate (x.length - s.2.length) (0:Int)=s.2:=by rw[hw,cf,Nat.sub_self];simp
  rw[hz]
  refine cL (bS _ _ ?_)
  refine aj (Ey ·) ?_
  refine bI hp (τ':=aG [(4,.d (.fs (s.2.map iD) x.length))]) (H':=bH e s.1 μ1++[bP,.cells [.d (ai [x,y])],.cells [.d (.val (.func (.func 143) #[] #[]))]]) ?_ ?_
  ·refine Rt.trans (Rt.fz (id:=11) (l:=(s.2.map iD)) rfl) ?_
   refine Rt.trans (Rt.slot 4 (qL (iN (by simp[hw,cf])))) ?_
   refine sW [0,1,2,3,4,5,6,7,8,9,10] ?_
   refine nu ?_
   exact NB
  refine bh ?_
  refine c8 (t:=4) rfl ?_
  show ∃_,_
  rw[jS cf];exact⟨μ1,cZ,by show AV.d (.fs (s.2.map iD) x.length)= .d (.fs (s.2.map iD) s.2.length);rw[hw,cf],rfl⟩
def rZ(m:Nat)(gs:Gs)(q:Int)(x y:List Int)(k:Nat):Gs × List Int:=dh (fun gs i=>jF m gs q (nth x i) (nth y i)) gs k
theorem jmq{m:Nat}{gs:Gs}{q:Int}{x y:List Int}{k:Nat}:rZ m gs q x y (k+1)=((jF m (rZ m gs q x y k).1 q (nth x k) (nth y k)).1,(rZ m gs q x y k).2++[(jF m (rZ m gs q x y k).1 q (nth x k) (nth y k)).2]):=rfl
theorem jxu{m:Nat}{gs:Gs}{q:Int}{x y:List Int}{n k:Nat}(h2:2≤m)(h:GI m gs)(hq:br m gs q)(hx:eo m gs x n)(hy:eo m gs y n)(hk:k≤n):Bs m (2*k) k gs (rZ m gs q x y k):=nB h fun j hj cW hp hg=>Du h2 hg (hq.pre hp) ((hx j (by omega)).pre hp) ((hy j (by omega)).pre hp)
theorem yl0(e:BE)(gs:Gs)(μ:Mp)(a x y:List Int)(i:Nat)(z:Int)(h:dx e gs μ)(h0:0<a.length)(hi:i<y.length)(hq:br (aw e) gs (nth a 0))(hx:br (aw e) gs z)(hy:br (aw e) gs (nth y i))(hl:gs.length+2≤100000):cM prog [0,1,3,4,5,6,7,8,9] 151 [.d (iD i),.d (iD z),.op 8 0,.op 9 0] (bH e gs μ++[bP,.cells [.d (ai [a,x,y])]]) (vf e [bP,.cells [.d (ai [a,x,y])]] (jF (aw e) gs (nth a 0) z (nth y i))):=ylu e gs μ [a,x,y] i z h (by simp) h0 hi hq hx hy hl
theorem ET{p q:Prop}(hq:q)(h:p=q:=by
 conv=>lhs;simp -dsimp -implicitDefEqProofs (disch:=first|assumption|omega|(simp only[aK,aT,bx]<;>omega)|decide) only[aP,↓reduceIte,Nat.reduceEqDiff,Nat.reduceAdd,D.fix,Int.reduceToNat,Nat.reduceMul,Nat.reduceBNe,Nat.reduceBEq,bR,bH,bO,aD,bE,cB,List.cons_append,List.nil_append,bP]):p:=h.mpr hq
theorem pY{p q:Prop}(hq:q)(h:p=q:=by
 conv=>lhs;simp -dsimp -implicitDefEqProofs (disch:=first|assumption|omega|(simp only[aK,aT,bx]<;>omega)|decide) only[aP,↓reduceIte,Nat.reduceEqDiff,Nat.reduceAdd,D.fix,Int.reduceToNat,Nat.reduceMul,Nat.reduceBNe,Nat.reduceBEq,bR,bH,bO,aD,bE,cB,List.cons_append,List.nil_append,bP,bw]):p:=h.mpr hq
theorem NS{P:Program}{sm:List Nat}{N:Nat}{τ:Fr}{H:ak}{f:FuncId}{fi ca args:List AV}{K0 KK:AV→ak→Prop}{ks:List Nat}(S T:ak)(h:cM P ks f (fi++args++ca) S K0)(hK:∀x S',K0 x S'→S'.length=S.length∧KK x (S'++T))(hH:H=S++T:=by
 rfl) (hm:sm.all (aJ ks S.length)=true:=by
 first|rfl|(simp[AV.ah,AV.allI,bc,bg,bf,aJ,aN,aY,aZ,bH,bO,cB,bP];done)|(intro o ho;simp at ho;done)) (hτ:∀t,(τ t).allI (aJ ks S.length)=true:=by
 exact fun t=>fU (by first|rfl|(simp[AV.ah,AV.allI,bc,bg,bf,aJ,aN,aY,aZ,bH,bO,cB,bP];done)|(intro o ho;simp at ho;done)) t) (ha:AV.ah (aN S.length) (fi++args++ca)=true:=by
 first|rfl|(simp[AV.ah,AV.allI,bc,bg,bf,aJ,aN,aY,aZ,bH,bO,cB,bP];done)|(intro o ho;simp at ho;done)) (hS:∀o∈S,o.allI (aN S.length)=true:=by
 first|rfl|(simp[AV.ah,AV.allI,bc,bg,bf,aJ,aN,aY,aZ,bH,bO,cB,bP];done)|(intro o ho;simp at ho;done)) (hT:∀o∈T,o.allI (aJ ks S.length)=true:=by
 first|rfl|(simp[AV.ah,AV.allI,bc,bg,bf,aJ,aN,aY,aZ,bH,bO,cB,bP];done)|(intro o ho;simp at ho;done)):kC P sm N H τ (.dk (.func f) fi ca) args true (tg KK):=Aw h hH hm hτ ha hS hT hK
theorem Er{p q:Prop}(hq:q)(h:p=q:=by
 conv=>lhs;simp only[cD,Nat.reduceAdd,↓reduceIte,Nat.reduceEqDiff,bR,bH,bO,aD,bE,cB,List.cons_append,List.nil_append,bP]):p:=h.mpr hq
theorem NR{p:Prop}(h:p:=by
 first|rfl|(simp only[cD,Nat.reduceAdd,↓reduceIte,Nat.reduceEqDiff,bR,bH,bO,aD,bE,cB,List.cons_append,List.nil_append,bP];first|done|rfl)):p:=h
theorem jp9(e:BE)(gs:Gs)(μ:Mp)(a x y:List Int)(h:dx e gs μ)(ha:0<a.length)(hq:br (aw e) gs (nth a 0))(hx:eo (aw e) gs x x.length)(hy:eo (aw e) gs y x.length)(qm:y.length=x.length)(hl:gs.length+2*x.length≤99990)(vq:x.length≤1000):cM prog [0,1,3,4,5,6,7,8,9] 138 [.d (av x),.dk (.func 151) [] [.op 8 0,.op 9 0]] (bH e gs μ++[bP,.cells [.d (ai [a,x,y])]]) (zu e [bP,.cells [.d (ai [a,x,y])]] (rZ (aw e) gs (nth a 0) x y x.length)):=by
 refine fV (fn:=f138) (by kernel_rfl) func138 rfl (bN rfl) fun c hc hp=>?_
 refine oc ?_
 unfold bH bP
 refine aj (ET ·) ?_
 refine aj (pY ·) ?_
 refine aH fun K3 bS=>?_
 refine aj (pY ·) ?_
 refine aW ?_
 refine c9 hp (fun τ' H' mm=>∃(k:Nat) (μ1:Mp),(k≤x.length∧ic (aw e) (rZ (aw e) gs (nth a 0) x y k).1 μ1)∧mm=x.length - k∧H'=bH e (rZ (aw e) gs (nth a 0) x y k).1 μ1++[bP,.cells [.d (ai [a,x,y])],cB (rZ (aw e) gs (nth a 0) x y k).2 x.length]∧τ'=aG [(1,.dk (.func 151) [] [.op 8 0,.op 9 0]),(5,.os 1 10 0 x.length),(11,.d (av x)),(12,.d (iD x.length)),(13,.d (iD k))]) (x.length) ?_ ⟨0,μ,⟨cy _,h.n⟩,rfl,rfl,rfl⟩ ?_
 ·refine nu ?_
  refine Er ?_;simp[rZ,dh,cB,bH,bO,aD,iD,au,bP]
 rintro τ' H' mm ⟨k,μ1,⟨hk,cZ⟩,rfl,rfl,rfl⟩
 have hb:=jxu nw h.g hq hx hy hk
 have dY:=@jmq (aw e) gs (nth a 0) x y k
 have jS:k=x.length→rZ (aw e) gs (nth a 0) x y x.length=rZ (aw e) gs (nth a 0) x y k:=fun e=>by rw[←e]
 generalize rZ (aw e) gs (nth a 0) x y k=s at *
 have hw:=hb.wid
 have pC:=hb.len
 have h1:dx e s.1 μ1:=⟨cZ,hb.gi,h.i,by have:=h.l;omega⟩
 refine aj (pY ·) ?_
 refine aH fun K6 cF=>?_
 refine aX rfl (fun ht=>?_) (fun ht=>?_)
 ·have aA:k<x.length:=by simp at ht;omega
  have cu:=xf hw aA (jF (aw e) s.1 (nth a 0) (nth x k) (nth y k)).2
  refine bB (cF _ _ ?_)
  refine aH fun K7 de=>?_
  refine aW ?_
  refine bC hp ax hc rfl fun K8 dC=>?_
  simp -dsimp -implicitDefEqProofs (disch:=first|assumption|omega|(simp only[aK,aT,bx]<;>omega)|decide) only[aP,↓reduceIte,Nat.reduceEqDiff,Nat.reduceAdd,D.fix,Int.reduceToNat,Nat.reduceMul,Nat.reduceBNe,Nat.reduceBEq,bR,bH,bO,aD,bE,cB,List.cons_append,List.nil_append,bP,dm,bw]
  refine dC _ _ ?_
  refine bA hp ax hc rfl fun K9 cJ=>?_
  refine pY ?_
  refine NS (bH e s.1 μ1++[bP,.cells [.d (ai [a,x,y])]]) ([cB s.2 x.length]) (yl0 e s.1 μ1 a x y k (nth x k) h1 ha (by show k<y.length;omega) (hq.pre hb.pre) ((hx k aA).pre hb.pre) ((hy k aA).pre hb.pre) (by omega)) ?_
  rintro _ _ ⟨μ2,db,rfl,rfl⟩
  refine⟨rfl,?_⟩
  refine pY ?_
  refine cJ _ _ (de _ _ ?_)
  refine bA hp ax hc rfl fun kL bU=>?_
  refine pY ?_
  refine bU _ _ ⟨_,_,_,?_,⟨k+1,μ2,⟨by omega,by rw[dY];exact db⟩,rfl,rfl,rfl⟩,?_⟩
  ·first|omega|(simp only[List.length_cons];omega)|(dsimp only;omega)
  ·refine sW [0,1,2,3,4,5,6,7,8,9,10] ?_
   refine nu ?_
   refine Er ?_;rw[dY];dsimp only;rw[←cu];simp[bH,bO,aD,au,bP]
 ·have cf:k=x.length:=by simp at ht;omega
  have hz:s.2++List.replicate (x.length - s.2.length) (0:Int)=s.2:=by rw[hw,cf,Nat.sub_self];simp
  rw[hz]
  refine cL (bS _ _ ?_)
  refine aj (ET ·) ?_
  refine bI hp (τ':=aG [(4,.d (.fs (s.2.map iD) x.length))]) (H':=bH e s.1 μ1++[bP,.cells [.d (ai [a,x,y])]]) ?_ ?_
  ·refine Rt.trans (Rt.fz (id:=10) (l:=(s.2.map iD)) rfl) ?_
   refine Rt.trans (Rt.slot 4 (qL (iN (by simp[hw,cf])))) ?_
   refine sW [0,1,2,3,4,5,6,7,8,9] ?_
   refine nu ?_
   exact NR
  refine bh ?_
  refine c8 (t:=4) rfl ?_
  show ∃_,_
  rw[jS cf];exact⟨μ1,cZ,by show AV.d (.fs (s.2.map iD) x.length)= .d (.fs (s.2.map iD) s.2.length);rw[hw,cf],rfl⟩
def rY(gs:Gs)(v k:Nat):Gs × List Int:=dh (fun gs i=>(gs,((v / 2^i % 2:Nat):Int))) gs k
theorem jmr{gs:Gs}{v k:Nat}:rY gs v (k+1)=((rY gs v k).1,(rY gs v k).2++[((v / 2^k % 2:Nat):Int)]):=rfl
theorem jxv{m:Nat}{gs:Gs}{v n k:Nat}(h2:2≤m)(h:GI m gs)(hk:k≤n):Bs m (0*k) k gs (rY gs v k):=nB h fun j hj cW hp hg=>Rs.same hg ⟨by omega,by omega⟩
theorem XX{p q:Prop}(hq:q)(h:p=q:=by
 conv=>lhs;simp -dsimp -implicitDefEqProofs (disch:=first|assumption|omega|(simp only[aK,aT,bx]<;>omega)|decide) only[aP,↓reduceIte,Nat.reduceEqDiff,Nat.reduceAdd,D.fix,Int.reduceToNat,Nat.reduceMul,Nat.reduceBNe,Nat.reduceBEq,bR,bH,bO,aD,bE,cB,List.cons_append,List.nil_append]):p:=h.mpr hq
theorem ES{p q:Prop}(hq:q)(h:p=q:=by
 conv=>lhs;simp -dsimp -implicitDefEqProofs (disch:=first|assumption|omega|(simp only[aK,aT,bx]<;>omega)|decide) only[aP,↓reduceIte,Nat.reduceEqDiff,Nat.reduceAdd,D.fix,Int.reduceToNat,Nat.reduceMul,Nat.reduceBNe,Nat.reduceBEq,bR,bH,bO,aD,bE,cB,List.cons_append,List.nil_append,bw]):p:=h.mpr hq
theorem Wo{p q:Prop}(hq:q)(h:p=q:=by
 conv=>lhs;simp only[cD,Nat.reduceAdd,↓reduceIte,Nat.reduceEqDiff,bR,bH,bO,aD,bE,cB,List.cons_append,List.nil_append]):p:=h.mpr hq
theorem jqa(e:BE)(gs:Gs)(μ:Mp)(v n:Nat)(h:dx e gs μ)(hv:v<2^62)(HR:n≤60):cM prog [0,1,3,4,5,6,7,8,9] 138 [.os 1 9 0 n,.dk (.func 145) [] [.op 8 0]] (bH e gs μ++[.cells [.d (iD v)],.cells (au (List.replicate n (iD 0)))]) (zu e [.cells [.d (iD v)],.cells (au (List.replicate n (iD 0)))] (rY gs v n)):=by
 refine fV (fn:=f138) (by kernel_rfl) func138 rfl (bN rfl) fun c hc hp=>?_
 refine oc ?_
 unfold bH
 refine aj (XX ·) ?_
 refine aj (ES ·) ?_
 refine aH fun K3 bS=>?_
 refine aj (ES ·) ?_
 refine aW ?_
 refine c9 hp (fun τ' H' mm=>∃(k:Nat) (μ1:Mp),(k≤n∧ic (aw e) (rY gs v k).1 μ1)∧mm=n - k∧H'=bH e (rY gs v k).1 μ1++[.cells [.d (iD v)],.cells (au (List.replicate n (iD 0))),cB (rY gs v k).2 n]∧τ'=aG [(1,.dk (.func 145) [] [.op 8 0]),(5,.os 1 10 0 n),(11,.os 1 9 0 n),(12,.d (iD n)),(13,.d (iD k))]) (n) ?_ ⟨0,μ,⟨cy _,h.n⟩,rfl,rfl,rfl⟩ ?_
 ·refine nu ?_
  refine Wo ?_;simp[rY,dh,cB,bH,bO,aD,iD,au]
 rintro τ' H' mm ⟨k,μ1,⟨hk,cZ⟩,rfl,rfl,rfl⟩
 have hb:=jxv (m:=aw e) (v:=v) nw h.g hk
 have dY:=@jmr gs v k
 have jS:k=n→rY gs v n=rY gs v k:=fun e=>by rw[←e]
 generalize rY gs v k=s at *
 have hw:=hb.wid
 have pC:=hb.len
 have h1:dx e s.1 μ1:=⟨cZ,hb.gi,h.i,by have:=h.l;omega⟩
 refine aj (ES ·) ?_
 refine aH fun K6 cF=>?_
 refine aX rfl (fun ht=>?_) (fun ht=>?_)
 ·have aA:k<n:=by simp at ht;omega
  have tm:(List.replicate n (D.val (.int .i64 0)))[k]? =some (.val (.int .i64 0)):=by simp[aA]
  have cu:=xf hw aA ((s.1,((v / 2^k % 2:Nat):Int))).2
  refine bB (cF _ _ ?_)
  refine aH fun K7 de=>?_
  refine aW ?_
  refine bC hp ax hc rfl fun K8 dC=>?_
  simp -dsimp -implicitDefEqProofs (disch:=first|assumption|omega|(simp only[aK,aT,bx]<;>omega)|decide) only[aP,↓reduceIte,Nat.reduceEqDiff,Nat.reduceAdd,D.fix,Int.reduceToNat,Nat.reduceMul,Nat.reduceBNe,Nat.reduceBEq,bR,bH,bO,aD,bE,cB,List.cons_append,List.nil_append,tm,Option.map_some,bw]
  refine dC _ _ ?_
  refine bA hp ax hc rfl fun K9 cJ=>?_
  refine ES ?_
  refine Aw (S:=bH e s.1 μ1++[.cells [.d (iD v)]]) (T:=[.cells (au (List.replicate n (iD 0))),cB s.2 n]) (ylv e s.1 μ1 v k _ cZ hv (by omega)) rfl (by first|rfl|(simp[AV.ah,AV.allI,bc,bg,bf,aJ,aN,aY,aZ,bH,bO,cB];done)|(intro o ho;simp at ho;done)) (fun t=>fU (by first|rfl|(simp[AV.ah,AV.allI,bc,bg,bf,aJ,aN,aY,aZ,bH,bO,cB];done)|(intro o ho;simp at ho;done)) t) (by first|rfl|(simp[AV.ah,AV.allI,bc,bg,bf,aJ,aN,aY,aZ,bH,bO,cB];done)|(intro o ho;simp at ho;done)) (by first|rfl|(simp[AV.ah,AV.allI,bc,bg,bf,aJ,aN,aY,aZ,bH,bO,cB];done)|(intro o ho;simp at ho;done)) (by first|rfl|(simp[AV.ah,AV.allI,bc,bg,bf,aJ,aN,aY,aZ,bH,bO,cB];done)|(intro o ho;simp at ho;done)) ?_
  rintro _ _ ⟨μ2,db,rfl,rfl⟩
  refine⟨rfl,?_⟩
  refine ES ?_
  refine cJ _ _ (de _ _ ?_)
  refine bA hp ax hc rfl fun kL bU=>?_
  refine ES ?_
  refine bU _ _ ⟨_,_,_,?_,⟨k+1,μ2,⟨by omega,by rw[dY];exact db⟩,rfl,rfl,rfl⟩,?_⟩
  ·first|omega|(simp only[List.length_cons];omega)|(dsimp only;omega)
  ·refine sW [0,1,2,3,4,5,6,7,8,9,10] ?_
   refine nu ?_
   refine Wo ?_;rw[dY];dsimp only;rw[←cu];simp[bH,bO,aD,au,iD]
 ·have cf:k=n:=by simp at ht;omega
  have hz:s.2++List.replicate (n - s.2.length) (0:Int)=s.2:=by rw[hw,cf,Nat.sub_self];simp
  rw[hz]
  refine cL (bS _ _ ?_)
  refine aj (XX ·) ?_
  refine bI hp (τ':=aG [(4,.d (.fs (s.2.map iD) n))]) (H':=bH e s.1 μ1++[.cells [.d (iD v)],.cells (au (List.replicate n (iD 0)))]) ?_ ?_
  ·refine Rt.trans (Rt.fz (id:=10) (l:=(s.2.map iD)) rfl) ?_
   refine Rt.trans (Rt.slot 4 (qL (iN (by simp[hw,cf])))) ?_
   refine sW [0,1,2,3,4,5,6,7,8,9] ?_
   refine nu ?_
   first|rfl|(simp only[cD,Nat.reduceAdd,↓reduceIte,Nat.reduceEqDiff,bR,bH,bO,aD,bE,cB,List.cons_append,List.nil_append];first|done|rfl)
  refine bh ?_
  refine c8 (t:=4) rfl ?_
  show ∃_,_
  rw[jS cf];exact⟨μ1,cZ,by show AV.d (.fs (s.2.map iD) n)= .d (.fs (s.2.map iD) s.2.length);rw[hw,cf],rfl⟩
def rX(ins:List aB)(gs:Gs)(j k:Nat):Gs × List Int:=dh (fun gs i=>(gs,((2+mc ⟨1,(j:Int),(i:Int)⟩ ins:Nat):Int))) gs k
theorem jms{ins:List aB}{gs:Gs}{j k:Nat}:rX ins gs j (k+1)=((rX ins gs j k).1,(rX ins gs j k).2++[((2+mc ⟨1,(j:Int),(k:Int)⟩ ins:Nat):Int)]):=rfl
theorem jxw{e:BE}{gs:Gs}{j n k:Nat}(h:GI (aw e) gs)(hw:∀i,i<n→(⟨1,(j:Int),(i:Int)⟩:aB)∈e.ins)(hk:k≤n):Bs (aw e) (0*k) k gs (rX e.ins gs j k):=nB h fun i hi cW hp hg=>Rs.same hg (by
 have:=(FU (hw i (by omega))).1
 exact⟨by omega,by unfold aw;omega⟩)
theorem XW{p q r:Prop}(e:r)(hq:q)(h:r→p=q:=by
 intro hY
 conv=>lhs;simp -dsimp -implicitDefEqProofs (disch:=first|assumption|omega|(simp only[aK,aT,bx]<;>omega)|decide) only[aP,↓reduceIte,Nat.reduceEqDiff,Nat.reduceAdd,D.fix,Int.reduceToNat,Nat.reduceMul,Nat.reduceBNe,Nat.reduceBEq,bR,bH,bO,aD,bE,cB,List.cons_append,List.nil_append,bP,bw,hY]):p:=(h e).mpr hq
theorem jqb(e:BE)(gs:Gs)(μ:Mp)(j n:Nat)(h:dx e gs μ)(hm:o7 e.ins e.mi)(px:∀i,i<n→(⟨1,(j:Int),(i:Int)⟩:aB)∈e.ins)(hj:j≤1000)(HR:n≤60):cM prog [0,1,3,4,5,6,7,8,9] 138 [.d (.fs (List.replicate n (iD 0)) n),.dk (.func 146) [] [.op 8 0,.op 9 0]] (bH e gs μ++[bP,.cells [.d (iD j)]]) (zu e [bP,.cells [.d (iD j)]] (rX e.ins gs j n)):=by
 refine fV (fn:=f138) (by kernel_rfl) func138 rfl (bN rfl) fun c hc hp=>?_
 refine oc ?_
 unfold bH bP
 refine aj (ET ·) ?_
 refine aj (pY ·) ?_
 refine aH fun K3 bS=>?_
 refine aj (pY ·) ?_
 refine aW ?_
 refine c9 hp (fun τ' H' mm=>∃(k:Nat) (μ1:Mp),(k≤n∧ic (aw e) (rX e.ins gs j k).1 μ1)∧mm=n - k∧H'=bH e (rX e.ins gs j k).1 μ1++[bP,.cells [.d (iD j)],cB (rX e.ins gs j k).2 n]∧τ'=aG [(1,.dk (.func 146) [] [.op 8 0,.op 9 0]),(5,.os 1 10 0 n),(11,.d (.fs (List.replicate n (iD 0)) n)),(12,.d (iD n)),(13,.d (iD k))]) (n) ?_ ⟨0,μ,⟨cy _,h.n⟩,rfl,rfl,rfl⟩ ?_
 ·refine nu ?_
  refine Er ?_;simp[rX,dh,cB,bH,bO,aD,iD,au,bP]
 rintro τ' H' mm ⟨k,μ1,⟨hk,cZ⟩,rfl,rfl,rfl⟩
 have hb:=jxw h.g px hk
 have dY:=@jms e.ins gs j k
 have jS:k=n→rX e.ins gs j n=rX e.ins gs j k:=fun e=>by rw[←e]
 generalize rX e.ins gs j k=s at *
 have hw:=hb.wid
 have pC:=hb.len
 have h1:dx e s.1 μ1:=⟨cZ,hb.gi,h.i,by have:=h.l;omega⟩
 refine aj (pY ·) ?_
 refine aH fun K6 cF=>?_
 refine aX rfl (fun ht=>?_) (fun ht=>?_)
 ·have aA:k<n:=by simp at ht;omega
  have tm:(List.replicate n (D.val (.int .i64 0)))[k]? =some (.val (.int .i64 0)):=by simp[aA]
  have cu:=xf hw aA ((s.1,((2+mc ⟨1,(j:Int),(k:Int)⟩ e.ins:Nat):Int))).2
  refine bB (cF _ _ ?_)
  refine aH fun K7 de=>?_
  refine aW ?_
  refine aj (XW tm ·) ?_
  refine bA hp ax hc rfl fun K9 cJ=>?_
  refine pY ?_
  refine NS (bH e s.1 μ1++[bP,.cells [.d (iD j)]]) ([cB s.2 n]) (ylw e s.1 μ1 j k _ cZ hm (px k aA) hj (by omega)) ?_
  rintro _ _ ⟨μ2,db,rfl,rfl⟩
  refine⟨rfl,?_⟩
  refine pY ?_
  refine cJ _ _ (de _ _ ?_)
  refine bA hp ax hc rfl fun kL bU=>?_
  refine pY ?_
  refine bU _ _ ⟨_,_,_,?_,⟨k+1,μ2,⟨by omega,by rw[dY];exact db⟩,rfl,rfl,rfl⟩,?_⟩
  ·first|omega|(simp only[List.length_cons];omega)|(dsimp only;omega)
  ·refine sW [0,1,2,3,4,5,6,7,8,9,10] ?_
   refine nu ?_
   refine Er ?_;rw[dY];dsimp only;rw[←cu];simp[bH,bO,aD,au,iD,bP]
 ·have cf:k=n:=by simp at ht;omega
  have hz:s.2++List.replicate (n - s.2.length) (0:Int)=s.2:=by rw[hw,cf,Nat.sub_self];simp
  rw[hz]
  refine cL (bS _ _ ?_)
  refine aj (ET ·) ?_
  refine bI hp (τ':=aG [(4,.d (.fs (s.2.map iD) n))]) (H':=bH e s.1 μ1++[bP,.cells [.d (iD j)]]) ?_ ?_
  ·refine Rt.trans (Rt.fz (id:=10) (l:=(s.2.map iD)) rfl) ?_
   refine Rt.trans (Rt.slot 4 (qL (iN (by simp[hw,cf])))) ?_
   refine sW [0,1,2,3,4,5,6,7,8,9] ?_
   refine nu ?_
   exact NR
  refine bh ?_
  refine c8 (t:=4) rfl ?_
  show ∃_,_
  rw[jS cf];exact⟨μ1,cZ,by show AV.d (.fs (s.2.map iD) n)= .d (.fs (s.2.map iD) s.2.length);rw[hw,cf],rfl⟩
def rh(m:Nat)(gs:Gs)(d0 d1 d2:Int)(j k:Nat):Gs × List Int:=dh (fun gs i=>gX m gs ⟨7,d0,d1,d2,((8*j+i:Nat):Int)⟩) gs k
theorem jqc{m:Nat}{gs:Gs}{d0 d1 d2:Int}{j k:Nat}:rh m gs d0 d1 d2 j (k+1)=((gX m (rh m gs d0 d1 d2 j k).1 ⟨7,d0,d1,d2,((8*j+k:Nat):Int)⟩).1,(rh m gs d0 d1 d2 j k).2++[(gX m (rh m gs d0 d1 d2 j k).1 ⟨7,d0,d1,d2,((8*j+k:Nat):Int)⟩).2]):=rfl
theorem ygs{m:Nat}{gs:Gs}{d0 d1 d2:Int}{j n k:Nat}(h:GI m gs)(h0:br m gs d0)(h1:br m gs d1)(h2:br m gs d2)(hj:8*j+n≤64)(hk:k≤n):Bs m (1*k) k gs (rh m gs d0 d1 d2 j k):=nB h fun i hi cW hp hg=>by
 have a:=h0.pre hp;have b:=h1.pre hp;have d:=h2.pre hp
 exact ze hg ⟨by simp,by simp,a.1,a.2,b.1,b.2,d.1,d.2,by simp only;omega,by simp only;omega,fun e=>absurd rfl e,fun e=>absurd e (by simp),fun e=>absurd e (by simp)⟩
  ⟨fun e=>absurd e (by simp),fun _ e=>absurd e (by simp),fun e=>absurd e (by simp),fun e=>absurd e (by simp)⟩
theorem jxx(e:BE)(gs:Gs)(μ:Mp)(d0 d1 d2:Int)(j n:Nat)(h:dx e gs μ)(h0:br (aw e) gs d0)(Il:br (aw e) gs d1)(hd2:br (aw e) gs d2)(hj:8*j+n≤64)(hl:gs.length+n≤99990):cM prog [0,1,3,4,5,6,7,8,9,10] 138 [.d (.fs (List.replicate n (iD 0)) n),.dk (.func 153) [] [.op 8 0,.op 9 0,.op 10 0]] (bH e gs μ++[bP,.cells [.d (iD d0),.d (iD d1),.d (iD d2)],.cells [.d (iD j)]]) (zu e [bP,.cells [.d (iD d0),.d (iD d1),.d (iD d2)],.cells [.d (iD j)]] (rh (aw e) gs d0 d1 d2 j n)):=by
 refine fV (fn:=f138) (by kernel_rfl) func138 rfl (bN rfl) fun c hc hp=>?_
 refine oc ?_
 unfold bH bP
 refine aj (ET ·) ?_
 refine aj (pY ·) ?_
 refine aH fun K3 bS=>?_
 refine aj (pY ·) ?_
 refine aW ?_
 refine c9 hp (fun τ' H' mm=>∃(k:Nat) (μ1:Mp),(k≤n∧ic (aw e) (rh (aw e) gs d0 d1 d2 j k).1 μ1)∧mm=n - k∧H'=bH e (rh (aw e) gs d0 d1 d2 j k).1 μ1++[bP,.cells [.d (iD d0),.d (iD d1),.d (iD d2)],.cells [.d (iD j)],cB (rh (aw e) gs d0 d1 d2 j k).2 n]∧τ'=aG [(1,.dk (.func 153) [] [.op 8 0,.op 9 0,.op 10 0]),(5,.os 1 11 0 n),(11,.d (.fs (List.replicate n (iD 0)) n)),(12,.d (iD n)),(13,.d (iD k))]) (n) ?_ ⟨0,μ,⟨cy _,h.n⟩,rfl,rfl,rfl⟩ ?_
 ·refine nu ?_
  refine Er ?_;simp[rh,dh,cB,bH,bO,aD,iD,au,bP]
 rintro τ' H' mm ⟨k,μ1,⟨hk,cZ⟩,rfl,rfl,rfl⟩
 have hb:=ygs h.g h0 Il hd2 hj hk
 have dY:=@jqc (aw e) gs d0 d1 d2 j k
 have jS:k=n→rh (aw e) gs d0 d1 d2 j n=rh (aw e) gs d0 d1 d2 j k:=fun e=>by rw[←e]
 generalize rh (aw e) gs d0 d1 d2 j k=s at *
 have hw:=hb.wid
 have pC:=hb.len
 have h1:dx e s.1 μ1:=⟨cZ,hb.gi,h.i,by have:=h.l;omega⟩
 refine aj (pY ·) ?_
 refine aH fun K6 cF=>?_
 refine aX rfl (fun ht=>?_) (fun ht=>?_)
 ·have aA:k<n:=by simp at ht;omega
  have tm:(List.replicate n (D.val (.int .i64 0)))[k]? =some (.val (.int .i64 0)):=by simp[aA]
  have cu:=xf hw aA (gX (aw e) s.1 ⟨7,d0,d1,d2,((8*j+k:Nat):Int)⟩).2
  refine bB (cF _ _ ?_)
  refine aH fun K7 de=>?_
  refine aW ?_
  refine aj (XW tm ·) ?_
  refine bA hp ax hc rfl fun K9 cJ=>?_
  refine pY ?_
  refine NS (bH e s.1 μ1++[bP,.cells [.d (iD d0),.d (iD d1),.d (iD d2)],.cells [.d (iD j)]]) ([cB s.2 n]) (ylx e s.1 μ1 d0 d1 d2 j k _ h1 (h0.pre hb.pre) (Il.pre hb.pre) (hd2.pre hb.pre) (by omega) (by omega)) ?_
  rintro _ _ ⟨μ2,db,rfl,rfl⟩
  refine⟨rfl,?_⟩
  refine pY ?_
  refine cJ _ _ (de _ _ ?_)
  refine bA hp ax hc rfl fun kL bU=>?_
  refine pY ?_
  refine bU _ _ ⟨_,_,_,?_,⟨k+1,μ2,⟨by omega,by rw[dY];exact db⟩,rfl,rfl,rfl⟩,?_⟩
  ·first|omega|(simp only[List.length_cons];omega)|(dsimp only;omega)
  ·refine sW [0,1,2,3,4,5,6,7,8,9,10,11] ?_
   refine nu ?_
   refine Er ?_;rw[dY];dsimp only;rw[←cu];simp[bH,bO,aD,au,iD,bP]
 ·have cf:k=n:=by simp at ht;omega
  have hz:s.2++List.replicate (n - s.2.length) (0:Int)=s.2:=by rw[hw,cf,Nat.sub_self];simp
  rw[hz]
  refine cL (bS _ _ ?_)
  refine aj (ET ·) ?_
  refine bI hp (τ':=aG [(4,.d (.fs (s.2.map iD) n))]) (H':=bH e s.1 μ1++[bP,.cells [.d (iD d0),.d (iD d1),.d (iD d2)],.cells [.d (iD j)]]) ?_ ?_
  ·refine Rt.trans (Rt.fz (id:=11) (l:=(s.2.map iD)) rfl) ?_
   refine Rt.trans (Rt.slot 4 (qL (iN (by simp[hw,cf])))) ?_
   refine sW [0,1,2,3,4,5,6,7,8,9,10] ?_
   refine nu ?_
   exact NR
  refine bh ?_
  refine c8 (t:=4) rfl ?_
  show ∃_,_
  rw[jS cf];exact⟨μ1,cZ,by show AV.d (.fs (s.2.map iD) n)= .d (.fs (s.2.map iD) s.2.length);rw[hw,cf],rfl⟩
end Go.Proofs.YtapjobndmmkanaaGreat
