/- The library's Concat; a memory's address. -/
import Derived.Test.YtapjobndmmkanaaGreatQr
import Derived.Test.YtapjobndmmkanaaGreatYi
import Derived.Test.YtapjobndmmkanaaGreatGr
set_option linter.unusedVariables false
set_option linter.unusedSimpArgs false
set_option maxRecDepth 100000
set_option maxHeartbeats 4000000
namespace Go.Proofs.YtapjobndmmkanaaGreat
open Go.Proofs.Tryz
open Go Go.RowKit
theorem jp3(l:List Int):∀y∈l.map iD,y.plain=true:=fun y hy=>by
 obtain⟨x,_,rfl⟩:=kV.1 hy;rfl
def qv(w:List (List Int)):Nat:=w.flatten.length
theorem Js{w:List (List Int)}{k:Nat}(h:k<w.length):qv (w.take (k+1))=qv (w.take k)+(nth w k).length:=by
 rw[uX h];simp[qv]
theorem R4{w:List (List Int)}{k:Nat}(h:k<w.length):(w.take (k+1)).flatten=(w.take k).flatten++nth w k:=by
 rw[uX h];simp
theorem Ay(w:List (List Int))(k:Nat):qv (w.take k)≤qv w:=by
 have h:(w.take k++w.drop k).flatten=w.flatten:=by rw[List.take_append_drop]
 unfold qv
 rw[←h,List.flatten_append,List.length_append];omega
theorem EA{p q:Prop}(hq:q)(h:p=q:=by
 conv=>lhs;simp -dsimp -implicitDefEqProofs (disch:=first|assumption|omega|(simp only[aK]<;>omega)|decide) only[aP,↓reduceIte,Nat.reduceEqDiff,Nat.reduceAdd,D.fix,Int.reduceToNat,Nat.reduceMul,Nat.reduceBNe,Nat.reduceBEq]):p:=h.mpr hq
theorem lB{p q:Prop}(hq:q)(h:p=q:=by
 conv=>lhs;simp -dsimp -implicitDefEqProofs (disch:=first|assumption|omega|(simp only[aK]<;>omega)|decide) only[aP,↓reduceIte,Nat.reduceEqDiff,Nat.reduceAdd,D.fix,Int.reduceToNat,Nat.reduceMul,Nat.reduceBNe,Nat.reduceBEq,bw]):p:=h.mpr hq
theorem AX{m:List Nat}{τ τ':Fr}{H H':ak}(h2:H=H')(h:fm τ τ':=by
 repeat (first|exact bT _|refine bM ?_ (by first|rfl|(simp[aR];done)|simp[aR, *]))):Rt m τ H τ' H':=Rt.end h h2
theorem Ev{p:Prop}(h:p:=by
 first|rfl|(simp only[cD,Nat.reduceAdd,↓reduceIte,Nat.reduceEqDiff];first|done|rfl)):p:=h
theorem jfd(w:List (List Int))(h1:w.length≤1000000)(h2:qv w≤1000000):cC prog 152 [ai w] (.d (av w.flatten)):=by
 refine ez (fn:=f152) (by kernel_rfl) func152 rfl (bN rfl) fun c hc hp=>?_
 refine dG (τ':=aG [(0,.d (ai w))]) (by repeat (first|exact bT _|refine bM ?_ (by first|rfl|(simp[aR];done)|simp[aR, *]))) ?_
 refine aj (EA ·) ?_
 refine aj (EA ·) ?_
 refine aH fun K3 bS=>?_
 refine aj (lB ·) ?_
 refine aW ?_
 refine c9 hp (fun τ' H' mm=>∃k,(k≤w.length)∧mm=w.length - k∧H'=[]∧τ'=aG [(0,.d (ai w)),(3,.d (iD (qv (w.take k)))),(9,.d (ai w)),(10,.d (iD w.length)),(11,.d (iD k))]) (w.length) ?_ ⟨0,cy _,rfl,rfl,rfl⟩ ?_
 ·refine AX ?_
  exact Ev
 rintro τ' H' mm ⟨k,hk,rfl,rfl,rfl⟩
 refine aj (lB ·) ?_
 refine aH fun K6 cF=>?_
 refine aX rfl (fun ht=>?_) (fun ht=>?_)
 ·have aA:k<w.length:=by simp at ht;omega
  have hs:=Js aA
  have uz:=Ay w k
  have uy:=Ay w (k+1)
  refine bB (cF _ _ ?_)
  refine aH fun K7 de=>?_
  refine aW ?_
  refine aj (lB ·) ?_
  refine aj (lB ·) ?_
  refine aj (lB ·) ?_
  refine aX rfl (fun ht=>?_) (fun ht=>?_)
  ·simp at ht
   omega
  ·refine bB (de _ _ ?_)
   refine bA hp ax hc rfl fun lz cm=>?_
   refine lB ?_
   refine cm _ _ ⟨_,_,_,?_,⟨k+1,by omega,rfl,rfl,rfl⟩,?_⟩
   ·first|omega|(simp only[List.length_cons];omega)|(dsimp only;omega)
   ·refine AX ?_
    exact Ev
 ·have cf:k=w.length:=by simp at ht;omega
  subst cf
  refine cL (bS _ _ ?_)
  refine bC hp ax hc rfl fun nk cU=>?_
  refine lB ?_
  refine jj1 (jue (qv w) h2) (by simp only[List.take_length,iD,List.map_cons,List.map_nil]) ?_
  refine lB ?_
  refine cU _ _ ?_
  refine aH fun rN dQ=>?_
  refine aj (lB ·) ?_
  refine aW ?_
  refine c9 hp (fun τ' H' mm=>∃k,(k≤w.length)∧mm=w.length - k∧H'=[.cells (au ((w.take k).flatten.map iD))]∧τ'=aG [(0,.d (ai w)),(6,.os 1 0 0 (w.take k).flatten.length),(25,.d (ai w)),(26,.d (iD w.length)),(27,.d (iD k))]) (w.length) ?_ ⟨0,cy _,rfl,rfl,rfl⟩ ?_
  ·refine AX ?_
   exact Ev
  rintro τ' H' mm ⟨k,hk,rfl,rfl,rfl⟩
  refine aj (lB ·) ?_
  refine aH fun pM df=>?_
  refine aX rfl (fun ht=>?_) (fun ht=>?_)
  ·have aA:k<w.length:=by simp at ht;omega
   have hs:=Js aA
   have uz:=Ay w k
   have uy:=Ay w (k+1)
   unfold qv at hs uz uy h2
   refine bB (df _ _ ?_)
   refine aH fun tF eh=>?_
   refine aW ?_
   refine aj (lB ·) ?_
   refine jX (lB ·) (eh _ _ ?_)
   refine bA hp ax hc rfl fun uK eG=>?_
   refine lB ?_
   refine eG _ _ ⟨_,_,_,?_,⟨k+1,by omega,rfl,rfl,rfl⟩,?_⟩
   ·first|omega|(simp only[List.length_cons];omega)|(dsimp only;omega)
   ·refine Rt.trans (Rt.gc (keep:=[1]) (by decide) (by decide) (by simp[eS,dg])) ?_
    refine AX ?_
    simp only[cD,Nat.reduceAdd,↓reduceIte,Nat.reduceEqDiff,R4 aA,List.map_append]
  ·have cf:k=w.length:=by simp at ht;omega
   subst cf
   refine cL (dQ _ _ ?_)
   refine aj (EA ·) ?_
   refine bh ?_
   show aC _ _=_
   simp (disch:=first|assumption|omega|(simp only[aK]<;>omega)|decide) only[gF,Nat.reduceAdd,D.fix,↓reduceIte,Nat.reduceEqDiff,List.take_length]
theorem jp4(w:List (List Int))(h1:w.length≤1000000)(h2:qv w≤1000000):w9 prog 152 [ai w] (.d (av w.flatten)):=by
 refine Td (fn:=f152) (by kernel_rfl) func152 rfl (bN rfl) fun c hc hp=>?_
 refine dG (τ':=aG [(0,.d (ai w))]) (by repeat (first|exact bT _|refine bM ?_ (by first|rfl|(simp[aR];done)|simp[aR, *]))) ?_
 refine aj (EA ·) ?_
 refine aj (EA ·) ?_
 refine aH fun K3 bS=>?_
 refine aj (lB ·) ?_
 refine aW ?_
 refine c9 hp (fun τ' H' mm=>∃k,(k≤w.length)∧mm=w.length - k∧H'=[]∧τ'=aG [(0,.d (ai w)),(3,.d (iD (qv (w.take k)))),(9,.d (ai w)),(10,.d (iD w.length)),(11,.d (iD k))]) (w.length) ?_ ⟨0,cy _,rfl,rfl,rfl⟩ ?_
 ·refine AX ?_
  exact Ev
 rintro τ' H' mm ⟨k,hk,rfl,rfl,rfl⟩
 refine aj (lB ·) ?_
 refine aH fun K6 cF=>?_
 refine aX rfl (fun ht=>?_) (fun ht=>?_)
 ·have aA:k<w.length:=by simp at ht;omega
  have hs:=Js aA
  have uz:=Ay w k
  have uy:=Ay w (k+1)
  refine bB (cF _ _ ?_)
  refine aH fun K7 de=>?_
  refine aW ?_
  refine aj (lB ·) ?_
  refine aj (lB ·) ?_
  refine aj (lB ·) ?_
  refine aX rfl (fun ht=>?_) (fun ht=>?_)
  ·simp at ht
   omega
  ·refine bB (de _ _ ?_)
   refine bA hp ax hc rfl fun lz cm=>?_
   refine lB ?_
   refine cm _ _ ⟨_,_,_,?_,⟨k+1,by omega,rfl,rfl,rfl⟩,?_⟩
   ·first|omega|(simp only[List.length_cons];omega)|(dsimp only;omega)
   ·refine AX ?_
    exact Ev
 ·have cf:k=w.length:=by simp at ht;omega
  subst cf
  refine cL (bS _ _ ?_)
  refine bC hp ax hc rfl fun nk cU=>?_
  refine lB ?_
  refine jj1 (jue (qv w) h2) (by simp only[List.take_length,iD,List.map_cons,List.map_nil]) ?_
  refine lB ?_
  refine cU _ _ ?_
  refine aH fun rN dQ=>?_
  refine aj (lB ·) ?_
  refine aW ?_
  refine c9 hp (fun τ' H' mm=>∃k,(k≤w.length)∧mm=w.length - k∧H'=[.cells (au ((w.take k).flatten.map iD))]∧τ'=aG [(0,.d (ai w)),(6,.os 1 0 0 (w.take k).flatten.length),(25,.d (ai w)),(26,.d (iD w.length)),(27,.d (iD k))]) (w.length) ?_ ⟨0,cy _,rfl,rfl,rfl⟩ ?_
  ·refine AX ?_
   exact Ev
  rintro τ' H' mm ⟨k,hk,rfl,rfl,rfl⟩
  refine aj (lB ·) ?_
  refine aH fun pM df=>?_
  refine aX rfl (fun ht=>?_) (fun ht=>?_)
  ·have aA:k<w.length:=by simp at ht;omega
   have hs:=Js aA
   have uz:=Ay w k
   have uy:=Ay w (k+1)
   unfold qv at hs uz uy h2
   refine bB (df _ _ ?_)
   refine aH fun tF eh=>?_
   refine aW ?_
   refine aj (lB ·) ?_
   refine jX (lB ·) (eh _ _ ?_)
   refine bA hp ax hc rfl fun uK eG=>?_
   refine lB ?_
   refine eG _ _ ⟨_,_,_,?_,⟨k+1,by omega,rfl,rfl,rfl⟩,?_⟩
   ·first|omega|(simp only[List.length_cons];omega)|(dsimp only;omega)
   ·refine Rt.trans (Rt.gc (keep:=[1]) (by decide) (by decide) (by simp[eS,dg])) ?_
    refine AX ?_
    simp only[cD,Nat.reduceAdd,↓reduceIte,Nat.reduceEqDiff,R4 aA,List.map_append]
  ·have cf:k=w.length:=by simp at ht;omega
   subst cf
   refine cL (dQ _ _ ?_)
   refine aj (EA ·) ?_
   refine bh ?_
   show gy _ _=_
   simp (disch:=first|assumption|omega|(simp only[aK]<;>omega)|decide) only[gF,Nat.reduceAdd,D.fix,↓reduceIte,Nat.reduceEqDiff,List.take_length,ybb,jj4,jn7,jn5 (jp3 _)]
end Go.Proofs.YtapjobndmmkanaaGreat
