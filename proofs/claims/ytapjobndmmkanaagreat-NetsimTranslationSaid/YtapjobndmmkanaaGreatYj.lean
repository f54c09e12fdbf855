/- The library's Concat; a memory's address. -/
import Derived.Test.YtapjobndmmkanaaGreatQr
import Derived.Test.YtapjobndmmkanaaGreatYi
import Derived.Test.YtapjobndmmkanaaGreatGr
set_option linter.unusedVariables false
set_option linter.unusedSimpArgs false
set_option maxRecDepth 100000
set_option maxHeartbeats 4000000
namespace Go.Proofs.YtapjobndmmkanaaGreat
open Go.Proofs.Tryz
open Go Go.RowKit
theorem jot(l:List Int):∀y∈l.map iD,y.plain=true:=fun y hy=>by
 obtain⟨x,_,rfl⟩:=qat.1 hy;rfl
def zxu(w:List (List Int)):Nat:=w.flatten.length
theorem zqs{w:List (List Int)}{k:Nat}(h:k<w.length):zxu (w.take (k+1))=zxu (w.take k)+(nth w k).length:=by
 rw[zd0 h];simp[zxu]
theorem zxv{w:List (List Int)}{k:Nat}(h:k<w.length):(w.take (k+1)).flatten=(w.take k).flatten++nth w k:=by
 rw[zd0 h];simp
theorem zht(w:List (List Int))(k:Nat):zxu (w.take k)≤zxu w:=by
 have h:(w.take k++w.drop k).flatten=w.flatten:=by rw[List.take_append_drop]
 unfold zxu
 rw[←h,List.flatten_append,List.length_append];omega
theorem jf1{p q:Prop}(hq:q)(h:p=q:=by
 conv=>lhs;simp -dsimp -implicitDefEqProofs (disch:=first|assumption|omega|(simp only[r_z]<;>omega)|decide) only[r_r,↓reduceIte,Nat.reduceEqDiff,Nat.reduceAdd,D.fix,Int.reduceToNat,Nat.reduceMul,Nat.reduceBNe,Nat.reduceBEq]):p:=h.mpr hq
theorem zf5{p q:Prop}(hq:q)(h:p=q:=by
 conv=>lhs;simp -dsimp -implicitDefEqProofs (disch:=first|assumption|omega|(simp only[r_z]<;>omega)|decide) only[r_r,↓reduceIte,Nat.reduceEqDiff,Nat.reduceAdd,D.fix,Int.reduceToNat,Nat.reduceMul,Nat.reduceBNe,Nat.reduceBEq,qae]):p:=h.mpr hq
theorem jtg{m:List Nat}{τ τ':Fr}{H H':zad}(h2:H=H')(h:zgk τ τ':=by
 repeat (first|exact zaq _|refine zak ?_ (by first|rfl|(simp[r_f];done)|simp[r_f, *]))):Rt m τ H τ' H':=Rt.end h h2
theorem jxw{p:Prop}(h:p:=by
 first|rfl|(simp only[r_g,Nat.reduceAdd,↓reduceIte,Nat.reduceEqDiff];first|done|rfl)):p:=h
theorem jel(w:List (List Int))(h1:w.length≤1000000)(h2:zxu w≤1000000):za2 prog 152 [intssD w] (.d (intsD w.flatten)):=by
 refine zax (fn:=f152) (by kernel_rfl) func152 rfl (qaf rfl) fun c hc hp=>?_
 refine za0 (τ':=frL [(0,.d (intssD w))]) (by repeat (first|exact zaq _|refine zak ?_ (by first|rfl|(simp[r_f];done)|simp[r_f, *]))) ?_
 refine szq (jf1 ·) ?_
 refine szq (jf1 ·) ?_
 refine zaa fun K3 hK3=>?_
 refine szq (zf5 ·) ?_
 refine zag ?_
 refine zao hp (fun τ' H' mm=>∃k,(k≤w.length)∧mm=w.length - k∧H'=[]∧τ'=frL [(0,.d (intssD w)),(3,.d (iD (zxu (w.take k)))),(9,.d (intssD w)),(10,.d (iD w.length)),(11,.d (iD k))]) (w.length) ?_ ⟨0,qap _,rfl,rfl,rfl⟩ ?_
 ·refine jtg ?_
  exact jxw
 rintro τ' H' mm ⟨k,hk,rfl,rfl,rfl⟩
 refine szq (zf5 ·) ?_
 refine zaa fun K6 hK6=>?_
 refine zan rfl (fun ht=>?_) (fun ht=>?_)
 ·have hlt:k<w.length:=by simp at ht;omega
  have hs:=zqs hlt
  have hs1:=zht w k
  have hs2:=zht w (k+1)
  refine zai (hK6 _ _ ?_)
  refine zaa fun K7 hK7=>?_
  refine zag ?_
  refine szq (zf5 ·) ?_
  refine szq (zf5 ·) ?_
  refine szq (zf5 ·) ?_
  refine zan rfl (fun ht=>?_) (fun ht=>?_)
  ·simp at ht
   omega
  ·refine zai (hK7 _ _ ?_)
   refine za1 hp zah hc rfl fun K11 hK11=>?_
   refine zf5 ?_
   refine hK11 _ _ ⟨_,_,_,?_,⟨k+1,by omega,rfl,rfl,rfl⟩,?_⟩
   ·first|omega|(simp only[List.length_cons];omega)|(dsimp only;omega)
   ·refine jtg ?_
    exact jxw
 ·have hkk:k=w.length:=by simp at ht;omega
  subst hkk
  refine zau (hK3 _ _ ?_)
  refine zaf hp zah hc rfl fun K12 hK12=>?_
  refine zf5 ?_
  refine ji3 (jtf (zxu w) h2) (by simp only[List.take_length,iD,List.map_cons,List.map_nil]) ?_
  refine zf5 ?_
  refine hK12 _ _ ?_
  refine zaa fun K13 hK13=>?_
  refine szq (zf5 ·) ?_
  refine zag ?_
  refine zao hp (fun τ' H' mm=>∃k,(k≤w.length)∧mm=w.length - k∧H'=[.cells (avs ((w.take k).flatten.map iD))]∧τ'=frL [(0,.d (intssD w)),(6,.os 1 0 0 (w.take k).flatten.length),(25,.d (intssD w)),(26,.d (iD w.length)),(27,.d (iD k))]) (w.length) ?_ ⟨0,qap _,rfl,rfl,rfl⟩ ?_
  ·refine jtg ?_
   exact jxw
  rintro τ' H' mm ⟨k,hk,rfl,rfl,rfl⟩
  refine szq (zf5 ·) ?_
  refine zaa fun K16 hK16=>?_
  refine zan rfl (fun ht=>?_) (fun ht=>?_)
  ·have hlt:k<w.length:=by simp at ht;omega
   have hs:=zqs hlt
   have hs1:=zht w k
   have hs2:=zht w (k+1)
   unfold zxu at hs hs1 hs2 h2
   refine zai (hK16 _ _ ?_)
   refine zaa fun K17 hK17=>?_
   refine zag ?_
   refine szq (zf5 ·) ?_
   refine szs (zf5 ·) (hK17 _ _ ?_)
   refine za1 hp zah hc rfl fun K20 hK20=>?_
   refine zf5 ?_
   refine hK20 _ _ ⟨_,_,_,?_,⟨k+1,by omega,rfl,rfl,rfl⟩,?_⟩
   ·first|omega|(simp only[List.length_cons];omega)|(dsimp only;omega)
   ·refine Rt.trans (Rt.gc (keep:=[1]) (by decide) (by decide) (by simp[fzH,gcH])) ?_
    refine jtg ?_
    simp only[r_g,Nat.reduceAdd,↓reduceIte,Nat.reduceEqDiff,zxv hlt,List.map_append]
  ·have hkk:k=w.length:=by simp at ht;omega
   subst hkk
   refine zau (hK13 _ _ ?_)
   refine szq (jf1 ·) ?_
   refine zaj ?_
   show closeA _ _=_
   simp (disch:=first|assumption|omega|(simp only[r_z]<;>omega)|decide) only[r_c,Nat.reduceAdd,D.fix,↓reduceIte,Nat.reduceEqDiff,List.take_length]
theorem jou(w:List (List Int))(h1:w.length≤1000000)(h2:zxu w≤1000000):zji prog 152 [intssD w] (.d (intsD w.flatten)):=by
 refine zs6 (fn:=f152) (by kernel_rfl) func152 rfl (qaf rfl) fun c hc hp=>?_
 refine za0 (τ':=frL [(0,.d (intssD w))]) (by repeat (first|exact zaq _|refine zak ?_ (by first|rfl|(simp[r_f];done)|simp[r_f, *]))) ?_
 refine szq (jf1 ·) ?_
 refine szq (jf1 ·) ?_
 refine zaa fun K3 hK3=>?_
 refine szq (zf5 ·) ?_
 refine zag ?_
 refine zao hp (fun τ' H' mm=>∃k,(k≤w.length)∧mm=w.length - k∧H'=[]∧τ'=frL [(0,.d (intssD w)),(3,.d (iD (zxu (w.take k)))),(9,.d (intssD w)),(10,.d (iD w.length)),(11,.d (iD k))]) (w.length) ?_ ⟨0,qap _,rfl,rfl,rfl⟩ ?_
 ·refine jtg ?_
  exact jxw
 rintro τ' H' mm ⟨k,hk,rfl,rfl,rfl⟩
 refine szq (zf5 ·) ?_
 refine zaa fun K6 hK6=>?_
 refine zan rfl (fun ht=>?_) (fun ht=>?_)
 ·have hlt:k<w.length:=by simp at ht;omega
  have hs:=zqs hlt
  have hs1:=zht w k
  have hs2:=zht w (k+1)
  refine zai (hK6 _ _ ?_)
  refine zaa fun K7 hK7=>?_
  refine zag ?_
  refine szq (zf5 ·) ?_
  refine szq (zf5 ·) ?_
  refine szq (zf5 ·) ?_
  refine zan rfl (fun ht=>?_) (fun ht=>?_)
  ·simp at ht
   omega
  ·refine zai (hK7 _ _ ?_)
   refine za1 hp zah hc rfl fun K11 hK11=>?_
   refine zf5 ?_
   refine hK11 _ _ ⟨_,_,_,?_,⟨k+1,by omega,rfl,rfl,rfl⟩,?_⟩
   ·first|omega|(simp only[List.length_cons];omega)|(dsimp only;omega)
   ·refine jtg ?_
    exact jxw
 ·have hkk:k=w.length:=by simp at ht;omega
  subst hkk
  refine zau (hK3 _ _ ?_)
  refine zaf hp zah hc rfl fun K12 hK12=>?_
  refine zf5 ?_
  refine ji3 (jtf (zxu w) h2) (by simp only[List.take_length,iD,List.map_cons,List.map_nil]) ?_
  refine zf5 ?_
  refine hK12 _ _ ?_
  refine zaa fun K13 hK13=>?_
  refine szq (zf5 ·) ?_
  refine zag ?_
  refine zao hp (fun τ' H' mm=>∃k,(k≤w.length)∧mm=w.length - k∧H'=[.cells (avs ((w.take k).flatten.map iD))]∧τ'=frL [(0,.d (intssD w)),(6,.os 1 0 0 (w.take k).flatten.length),(25,.d (intssD w)),(26,.d (iD w.length)),(27,.d (iD k))]) (w.length) ?_ ⟨0,qap _,rfl,rfl,rfl⟩ ?_
  ·refine jtg ?_
   exact jxw
  rintro τ' H' mm ⟨k,hk,rfl,rfl,rfl⟩
  refine szq (zf5 ·) ?_
  refine zaa fun K16 hK16=>?_
  refine zan rfl (fun ht=>?_) (fun ht=>?_)
  ·have hlt:k<w.length:=by simp at ht;omega
   have hs:=zqs hlt
   have hs1:=zht w k
   have hs2:=zht w (k+1)
   unfold zxu at hs hs1 hs2 h2
   refine zai (hK16 _ _ ?_)
   refine zaa fun K17 hK17=>?_
   refine zag ?_
   refine szq (zf5 ·) ?_
   refine szs (zf5 ·) (hK17 _ _ ?_)
   refine za1 hp zah hc rfl fun K20 hK20=>?_
   refine zf5 ?_
   refine hK20 _ _ ⟨_,_,_,?_,⟨k+1,by omega,rfl,rfl,rfl⟩,?_⟩
   ·first|omega|(simp only[List.length_cons];omega)|(dsimp only;omega)
   ·refine Rt.trans (Rt.gc (keep:=[1]) (by decide) (by decide) (by simp[fzH,gcH])) ?_
    refine jtg ?_
    simp only[r_g,Nat.reduceAdd,↓reduceIte,Nat.reduceEqDiff,zxv hlt,List.map_append]
  ·have hkk:k=w.length:=by simp at ht;omega
   subst hkk
   refine zau (hK13 _ _ ?_)
   refine szq (jf1 ·) ?_
   refine zaj ?_
   show closeN _ _=_
   simp (disch:=first|assumption|omega|(simp only[r_z]<;>omega)|decide) only[r_c,Nat.reduceAdd,D.fix,↓reduceIte,Nat.reduceEqDiff,List.take_length,jz4,ji4,jmu,jmr (jot _)]
end Go.Proofs.YtapjobndmmkanaaGreat
