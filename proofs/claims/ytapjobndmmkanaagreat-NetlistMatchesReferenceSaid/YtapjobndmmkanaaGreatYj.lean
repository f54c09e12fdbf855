/- The library's Concat; a memory's address. -/
import Derived.Test.YtapjobndmmkanaaGreatQr
import Derived.Test.YtapjobndmmkanaaGreatYi
import Derived.Test.YtapjobndmmkanaaGreatGr
set_option linter.unusedVariables false
set_option linter.unusedSimpArgs false
set_option maxRecDepth 100000
set_option maxHeartbeats 4000000
namespace Go.Proofs.YtapjobndmmkanaaGreat
open Go.Proofs.Tryz
open Go Go.RowKit
theorem jm3(l:List Int):∀y∈l.map iD,y.plain=true:=fun y hy=>by
 obtain⟨x,_,rfl⟩:=mF.1 hy;rfl
def qg(w:List (List Int)):Nat:=w.flatten.length
theorem IE{w:List (List Int)}{k:Nat}(h:k<w.length):qg (w.take (k+1))=qg (w.take k)+(nth w k).length:=by
 rw[vQ h];simp[qg]
theorem Rn{w:List (List Int)}{k:Nat}(h:k<w.length):(w.take (k+1)).flatten=(w.take k).flatten++nth w k:=by
 rw[vQ h];simp
theorem Af(w:List (List Int))(k:Nat):qg (w.take k)≤qg w:=by
 have h:(w.take k++w.drop k).flatten=w.flatten:=by rw[List.take_append_drop]
 unfold qg
 rw[←h,List.flatten_append,List.length_append];omega
theorem D4{p q:Prop}(hq:q)(h:p=q:=by
 conv=>lhs;simp -dsimp -implicitDefEqProofs (disch:=first|assumption|omega|(simp only[aH]<;>omega)|decide) only[aN,↓reduceIte,Nat.reduceEqDiff,Nat.reduceAdd,D.fix,Int.reduceToNat,Nat.reduceMul,Nat.reduceBNe,Nat.reduceBEq]):p:=h.mpr hq
theorem lL{p q:Prop}(hq:q)(h:p=q:=by
 conv=>lhs;simp -dsimp -implicitDefEqProofs (disch:=first|assumption|omega|(simp only[aH]<;>omega)|decide) only[aN,↓reduceIte,Nat.reduceEqDiff,Nat.reduceAdd,D.fix,Int.reduceToNat,Nat.reduceMul,Nat.reduceBNe,Nat.reduceBEq,bw]):p:=h.mpr hq
theorem AN{m:List Nat}{τ τ':Fr}{H H':av}(h2:H=H')(h:fw τ τ':=by
 repeat (first|exact cw _|refine cg ?_ (by first|rfl|(simp[aX];done)|simp[aX, *]))):Rt m τ H τ' H':=Rt.end h h2
theorem DD{p:Prop}(h:p:=by
 first|rfl|(simp only[cP,Nat.reduceAdd,↓reduceIte,Nat.reduceEqDiff];first|done|rfl)):p:=h
theorem jdh(w:List (List Int))(h1:w.length≤1000000)(h2:qg w≤1000000):dq prog 152 [ao w] (.d (ae w.flatten)):=by
 refine fh (fn:=f152) (by kernel_rfl) func152 rfl (cn rfl) fun c hc hp=>?_
 refine dY (τ':=aF [(0,.d (ao w))]) (by repeat (first|exact cw _|refine cg ?_ (by first|rfl|(simp[aX];done)|simp[aX, *]))) ?_
 refine ah (D4 ·) ?_
 refine ah (D4 ·) ?_
 refine aD fun K3 cm=>?_
 refine ah (lL ·) ?_
 refine aW ?_
 refine cU hp (fun τ' H' mm=>∃k,(k≤w.length)∧mm=w.length - k∧H'=[]∧τ'=aF [(0,.d (ao w)),(3,.d (iD (qg (w.take k)))),(9,.d (ao w)),(10,.d (iD w.length)),(11,.d (iD k))]) (w.length) ?_ ⟨0,cF _,rfl,rfl,rfl⟩ ?_
 ·refine AN ?_
  exact DD
 rintro τ' H' mm ⟨k,hk,rfl,rfl,rfl⟩
 refine ah (lL ·) ?_
 refine aD fun K6 cK=>?_
 refine bf rfl (fun ht=>?_) (fun ht=>?_)
 ·have aA:k<w.length:=by simp at ht;omega
  have hs:=IE aA
  have kD:=Af w k
  have rR:=Af w (k+1)
  refine bg (cK _ _ ?_)
  refine aD fun K7 cL=>?_
  refine aW ?_
  refine ah (lL ·) ?_
  refine ah (lL ·) ?_
  refine ah (lL ·) ?_
  refine bf rfl (fun ht=>?_) (fun ht=>?_)
  ·simp at ht
   omega
  ·refine bg (cL _ _ ?_)
   refine bT hp ax hc rfl fun mh cQ=>?_
   refine lL ?_
   refine cQ _ _ ⟨_,_,_,?_,⟨k+1,by omega,rfl,rfl,rfl⟩,?_⟩
   ·first|omega|(simp only[List.length_cons];omega)|(dsimp only;omega)
   ·refine AN ?_
    exact DD
 ·have bM:k=w.length:=by simp at ht;omega
  subst bM
  refine cJ (cm _ _ ?_)
  refine aZ hp ax hc rfl fun lK bN=>?_
  refine lL ?_
  refine jg9 (ZD (qg w) h2) (by simp only[List.take_length,iD,List.map_cons,List.map_nil]) ?_
  refine lL ?_
  refine bN _ _ ?_
  refine aD fun nV df=>?_
  refine ah (lL ·) ?_
  refine aW ?_
  refine cU hp (fun τ' H' mm=>∃k,(k≤w.length)∧mm=w.length - k∧H'=[.cells (ak ((w.take k).flatten.map iD))]∧τ'=aF [(0,.d (ao w)),(6,.os 1 0 0 (w.take k).flatten.length),(25,.d (ao w)),(26,.d (iD w.length)),(27,.d (iD k))]) (w.length) ?_ ⟨0,cF _,rfl,rfl,rfl⟩ ?_
  ·refine AN ?_
   exact DD
  rintro τ' H' mm ⟨k,hk,rfl,rfl,rfl⟩
  refine ah (lL ·) ?_
  refine aD fun pE dB=>?_
  refine bf rfl (fun ht=>?_) (fun ht=>?_)
  ·have aA:k<w.length:=by simp at ht;omega
   have hs:=IE aA
   have kD:=Af w k
   have rR:=Af w (k+1)
   unfold qg at hs kD rR h2
   refine bg (dB _ _ ?_)
   refine aD fun rZ ey=>?_
   refine aW ?_
   refine ah (lL ·) ?_
   refine fj (lL ·) (ey _ _ ?_)
   refine bT hp ax hc rfl fun sX fa=>?_
   refine lL ?_
   refine fa _ _ ⟨_,_,_,?_,⟨k+1,by omega,rfl,rfl,rfl⟩,?_⟩
   ·first|omega|(simp only[List.length_cons];omega)|(dsimp only;omega)
   ·refine Rt.trans (Rt.gc (keep:=[1]) (by decide) (by decide) (by simp[eJ,dg])) ?_
    refine AN ?_
    simp only[cP,Nat.reduceAdd,↓reduceIte,Nat.reduceEqDiff,Rn aA,List.map_append]
  ·have bM:k=w.length:=by simp at ht;omega
   subst bM
   refine cJ (df _ _ ?_)
   refine ah (D4 ·) ?_
   refine aM ?_
   show ai _ _=_
   simp (disch:=first|assumption|omega|(simp only[aH]<;>omega)|decide) only[fA,Nat.reduceAdd,D.fix,↓reduceIte,Nat.reduceEqDiff,List.take_length]
theorem jm4(w:List (List Int))(h1:w.length≤1000000)(h2:qg w≤1000000):Dc prog 152 [ao w] (.d (ae w.flatten)):=by
 refine jdx (fn:=f152) (by kernel_rfl) func152 rfl (cn rfl) fun c hc hp=>?_
 refine dY (τ':=aF [(0,.d (ao w))]) (by repeat (first|exact cw _|refine cg ?_ (by first|rfl|(simp[aX];done)|simp[aX, *]))) ?_
 refine ah (D4 ·) ?_
 refine ah (D4 ·) ?_
 refine aD fun K3 cm=>?_
 refine ah (lL ·) ?_
 refine aW ?_
 refine cU hp (fun τ' H' mm=>∃k,(k≤w.length)∧mm=w.length - k∧H'=[]∧τ'=aF [(0,.d (ao w)),(3,.d (iD (qg (w.take k)))),(9,.d (ao w)),(10,.d (iD w.length)),(11,.d (iD k))]) (w.length) ?_ ⟨0,cF _,rfl,rfl,rfl⟩ ?_
 ·refine AN ?_
  exact DD
 rintro τ' H' mm ⟨k,hk,rfl,rfl,rfl⟩
 refine ah (lL ·) ?_
 refine aD fun K6 cK=>?_
 refine bf rfl (fun ht=>?_) (fun ht=>?_)
 ·have aA:k<w.length:=by simp at ht;omega
  have hs:=IE aA
  have kD:=Af w k
  have rR:=Af w (k+1)
  refine bg (cK _ _ ?_)
  refine aD fun K7 cL=>?_
  refine aW ?_
  refine ah (lL ·) ?_
  refine ah (lL ·) ?_
  refine ah (lL ·) ?_
  refine bf rfl (fun ht=>?_) (fun ht=>?_)
  ·simp at ht
   omega
  ·refine bg (cL _ _ ?_)
   refine bT hp ax hc rfl fun mh cQ=>?_
   refine lL ?_
   refine cQ _ _ ⟨_,_,_,?_,⟨k+1,by omega,rfl,rfl,rfl⟩,?_⟩
   ·first|omega|(simp only[List.length_cons];omega)|(dsimp only;omega)
   ·refine AN ?_
    exact DD
 ·have bM:k=w.length:=by simp at ht;omega
  subst bM
  refine cJ (cm _ _ ?_)
  refine aZ hp ax hc rfl fun lK bN=>?_
  refine lL ?_
  refine jg9 (ZD (qg w) h2) (by simp only[List.take_length,iD,List.map_cons,List.map_nil]) ?_
  refine lL ?_
  refine bN _ _ ?_
  refine aD fun nV df=>?_
  refine ah (lL ·) ?_
  refine aW ?_
  refine cU hp (fun τ' H' mm=>∃k,(k≤w.length)∧mm=w.length - k∧H'=[.cells (ak ((w.take k).flatten.map iD))]∧τ'=aF [(0,.d (ao w)),(6,.os 1 0 0 (w.take k).flatten.length),(25,.d (ao w)),(26,.d (iD w.length)),(27,.d (iD k))]) (w.length) ?_ ⟨0,cF _,rfl,rfl,rfl⟩ ?_
  ·refine AN ?_
   exact DD
  rintro τ' H' mm ⟨k,hk,rfl,rfl,rfl⟩
  refine ah (lL ·) ?_
  refine aD fun pE dB=>?_
  refine bf rfl (fun ht=>?_) (fun ht=>?_)
  ·have aA:k<w.length:=by simp at ht;omega
   have hs:=IE aA
   have kD:=Af w k
   have rR:=Af w (k+1)
   unfold qg at hs kD rR h2
   refine bg (dB _ _ ?_)
   refine aD fun rZ ey=>?_
   refine aW ?_
   refine ah (lL ·) ?_
   refine fj (lL ·) (ey _ _ ?_)
   refine bT hp ax hc rfl fun sX fa=>?_
   refine lL ?_
   refine fa _ _ ⟨_,_,_,?_,⟨k+1,by omega,rfl,rfl,rfl⟩,?_⟩
   ·first|omega|(simp only[List.length_cons];omega)|(dsimp only;omega)
   ·refine Rt.trans (Rt.gc (keep:=[1]) (by decide) (by decide) (by simp[eJ,dg])) ?_
    refine AN ?_
    simp only[cP,Nat.reduceAdd,↓reduceIte,Nat.reduceEqDiff,Rn aA,List.map_append]
  ·have bM:k=w.length:=by simp at ht;omega
   subst bM
   refine cJ (df _ _ ?_)
   refine ah (D4 ·) ?_
   refine aM ?_
   show ku _ _=_
   simp (disch:=first|assumption|omega|(simp only[aH]<;>omega)|decide) only[fA,Nat.reduceAdd,D.fix,↓reduceIte,Nat.reduceEqDiff,List.take_length,jxi,jhc,jla,jk6 (jm3 _)]
end Go.Proofs.YtapjobndmmkanaaGreat
