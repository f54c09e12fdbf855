/- The reference's Valid and Check: walked. -/
import Derived.Test.YtfolbdkbpmgjgaaQr
import Derived.Test.YtfolbdkbpmgjgaaJo
set_option linter.unusedVariables false
set_option linter.unusedSimpArgs false
set_option maxRecDepth 100000
set_option maxHeartbeats 4000000
namespace Go.Proofs.Ytfolbdkbpmgjgaa
open Go Go.RowKit
theorem ztu:(((type_of% @zeg)∧((type_of% @zea)∧(type_of% @zeb)))∧(((type_of% @zb9)∧(type_of% @zca))∧((type_of% @zb8)∧(type_of% @zcl)))):=⟨⟨@zeg,⟨@zea,@zeb⟩⟩,⟨⟨@zb9,@zca⟩,⟨@zb8,@zcl⟩⟩⟩
theorem jmv{l:List (Int × Int)}{k:Nat}(h:k<l.length):(l.flatMap ezC)[k*2]? =some (iD (nth l k).1):=by
 exact((zb7 (zha h)).2 0 (by decide)).symm
theorem jmw{l:List (Int × Int)}{k:Nat}(h:k<l.length):(l.flatMap ezC)[k*2+1]? =some (iD (nth l k).2):=by
 exact((zb7 (zha h)).2 1 (by decide)).symm
theorem zc9{l:List (Int × Int)}:(l.flatMap ezC).length=l.length*2:=zin jbm l
theorem zyx{p q:Prop}(hq:q)(h:p=q:=by
 conv=>lhs;simp -dsimp -implicitDefEqProofs (disch:=first|assumption|omega|(simp only[r_z,zc9]<;>omega)|decide) only[r_r,↓reduceIte,Nat.reduceEqDiff,Nat.reduceAdd,D.fix,Int.reduceToNat,Nat.reduceMul,Nat.reduceBNe,Nat.reduceBEq,zbo]):p:=h.mpr hq
theorem jbq{m:List Nat}{τ τ':Fr}{H H':zaa}(h2:H=H')(h:zez τ τ':=by
 repeat (first|exact zal _|refine zaf ?_ (by first|rfl|(simp[r_f,zc9];done)|simp[r_f,zc9, *]))):Rt m τ H τ' H':=Rt.end h h2
theorem jmx{p q:Prop}(hq:q)(h:p=q:=by
 conv=>lhs;simp -dsimp -implicitDefEqProofs (disch:=first|assumption|omega|(simp only[r_z,zc9]<;>omega)|decide) only[r_r,↓reduceIte,Nat.reduceEqDiff,Nat.reduceAdd,D.fix,Int.reduceToNat,Nat.reduceMul,Nat.reduceBNe,Nat.reduceBEq,zbo,ztu]):p:=h.mpr hq
theorem zp0{p q r:Prop}(e:r)(hq:q)(h:r→p=q:=by
 intro hY
 conv=>lhs;simp -dsimp -implicitDefEqProofs (disch:=first|assumption|omega|(simp only[r_z,zc9]<;>omega)|decide) only[r_r,↓reduceIte,Nat.reduceEqDiff,Nat.reduceAdd,D.fix,Int.reduceToNat,Nat.reduceMul,Nat.reduceBNe,Nat.reduceBEq,zbo,decide_true,decide_false,Bool.not_true,Bool.not_false,ztu,hY]):p:=(h e).mpr hq
theorem jqo{p q:Prop}(hq:q)(h:p=q:=by
 conv=>lhs;simp (disch:=first|assumption|omega|(simp only[r_z,zc9]<;>omega)|decide) only[r_c,Nat.reduceAdd,D.fix,↓reduceIte,Nat.reduceEqDiff,zbo]):p:=h.mpr hq
theorem jbr{p:Prop}(h:p:=by
 first|rfl|(simp only[r_g,Nat.reduceAdd,↓reduceIte,Nat.reduceEqDiff,zbo];first|done|rfl)):p:=h
theorem jbs(n:Int)(es:List (Int × Int))(hl:es.length≤1000000):zas Try.prog 13 [iD n,zbo es] (.d (oD (ztq n es))):=by
 refine zau (fn:=Try.f13) (by kernel_rfl) Try.func13 rfl (Nat.le_of_ble_eq_true rfl) fun c hc hp=>?_
 refine zaw (τ':=frL [(0,.d (iD n)),(1,.d (zbo es))]) (by repeat (first|exact zal _|refine zaf ?_ (by first|rfl|(simp[r_f,zc9];done)|simp[r_f,zc9, *]))) ?_
 refine szq hp (fun _ hZ=>zyx hZ) ?_
 refine zab fun K2 hK2=>?_
 have h3:n<0∨(¬n<0∧200<n)∨(¬n<0∧¬200<n):=by omega
 refine zaj hp zam hc rfl fun K3 hK3=>?_
 have hJ3:∀τ' H',(∃τ1 H1,∃(b:Bool),(b=true↔(n<0∨200<n∨2000<(es.length:Int)))∧H1=[]∧τ1=frL [(0,.d (iD n)),(1,.d (zbo es)),(16,.d (oD b))]∧Rt [] τ' H' τ1 H1)→K3 τ' H':=by
  rintro τ' H' ⟨_,_,b,hbb,rfl,rfl,hrt⟩
  refine hK3 _ _ (zba hp hrt ?_)
  clear hrt
  refine zai rfl (fun ht=>?_) (fun ht=>?_)
  ·have hno:=zyb (hbb.1 ht)
   refine szq hp (fun _ hZ=>zyx hZ) ?_
   refine zaq ?_
   show closeA _ _=_
   refine jqo ?_
   rw[hno]
  ·have hbn:¬(n<0∨200<n∨2000<(es.length:Int)):=fun h=>by rw[hbb.2 h]at ht;cases ht
   refine zah (hK2 _ _ ?_)
   refine zab fun K5 hK5=>?_
   refine szq hp (fun _ hZ=>zyx hZ) ?_
   refine zae ?_
   refine zao hp (fun τ' H' mm=>∃(k:Nat),(k≤es.length∧∀j,j<k→zoi n (nth es j)=true)∧mm=es.length - k∧H'=[]∧τ'=frL [(0,.d (iD n)),(1,.d (zbo es)),(5,.d (iD (k:Int)))]) (es.length) ?_ ⟨0,⟨Nat.zero_le _,fun j hj=>absurd hj (by omega)⟩,rfl,rfl,rfl⟩ ?_
   ·refine jbq ?_
    exact jbr
   rintro τ' H' mm ⟨k,⟨hk,hf⟩,rfl,rfl,rfl⟩
   refine zab fun K7 hK7=>?_
   refine szq hp (fun _ hZ=>jmx hZ) ?_
   refine zai rfl (fun ht=>?_) (fun ht=>?_)
   ·have hkl:k<es.length:=by simp at ht;omega
    obtain⟨a,ha⟩:∃a,a=(nth es k).1:=⟨_,rfl⟩
    obtain⟨b,hb⟩:∃b,b=(nth es k).2:=⟨_,rfl⟩
    have hab:zoi n (nth es k)=(decide (0≤a)&&decide (0≤b)&&decide (a<n)&&decide (b<n)):=by rw[zoi,ha,hb]
    have hg1:(es.flatMap ezC)[k*2]? =some (iD a):=by rw[ha];exact jmv hkl
    have hg2:(es.flatMap ezC)[k*2+1]? =some (iD b):=by rw[hb];exact jmw hkl
    clear ha hb
    refine zah (hK7 _ _ ?_)
    refine zab fun K9 hK9=>?_
    refine zae ?_
    have h4:a<0∨(¬a<0∧n≤a)∨(¬a<0∧¬n≤a∧b<0)∨(¬a<0∧¬n≤a∧¬b<0):=by omega
    refine zaj hp zam hc rfl fun K10 hK10=>?_
    have hJ10:∀τ' H',(∃τ1 H1,∃(b1:Bool),(b1= !zoi n (nth es k))∧H1=[]∧τ1=frL [(0,.d (iD n)),(1,.d (zbo es)),(5,.d (iD (k:Int))),(54,.d (oD b1))]∧Rt [] τ' H' τ1 H1)→K10 τ' H':=by
     rintro τ' H' ⟨_,_,b1,hb1,rfl,rfl,hrt⟩
     refine hK10 _ _ (zba hp hrt ?_)
     clear hrt
     refine zai rfl (fun ht=>?_) (fun ht=>?_)
     ·have hno:=zyc hkl (by rw[hb1]at ht;simpa using ht)
      refine szq hp (fun _ hZ=>zyx hZ) ?_
      refine zaq ?_
      show closeA _ _=_
      refine jqo ?_
      rw[hno]
     ·have hok:zoi n (nth es k)=true:=by rw[hb1]at ht;simpa using ht
      refine zah (hK9 _ _ ?_)
      refine za6 hp zam hc rfl fun K12 hK12=>?_
      refine jmx ?_
      refine hK12 _ _ ⟨_,_,_,?_,⟨k+1,⟨by omega,fun j hj=>(by rcases Nat.lt_or_ge j k with h|h;exact hf j h;rw[show j=k by omega];exact hok)⟩,rfl,rfl,rfl⟩,?_⟩
      ·first|omega|(simp only[List.length_cons];omega)|(dsimp only;omega)
      ·refine jbq ?_
       exact jbr
    rcases h4 with q1|⟨q1,q2⟩|⟨q1,q2,q3⟩|⟨q1,q2,q3⟩
    ·have q2:=q1
     have q3:=q1
     refine zp0 (sza hg1 (sza hg2 (sza q1 (sza q2 q3)))) ?_
     refine(hJ10 _ _ ⟨_,_,true,by rw[hab];simp;omega,rfl,rfl,?_⟩)
     refine jbq ?_
     exact jbr
    ·have q3:=q1
     refine zp0 (sza hg1 (sza hg2 (sza q1 (sza q2 q3)))) ?_
     refine(hJ10 _ _ ⟨_,_,true,by rw[hab];simp;omega,rfl,rfl,?_⟩)
     refine jbq ?_
     exact jbr
    ·refine zp0 (sza hg1 (sza hg2 (sza q1 (sza q2 q3)))) ?_
     refine(hJ10 _ _ ⟨_,_,true,by rw[hab];simp;omega,rfl,rfl,?_⟩)
     refine jbq ?_
     exact jbr
    ·refine zp0 (sza hg1 (sza hg2 (sza q1 (sza q2 q3)))) ?_
     refine(hJ10 _ _ ⟨_,_,decide (n≤b),by rw[hab,Bool.eq_iff_iff];simp;omega,rfl,rfl,?_⟩)
     refine jbq ?_
     exact jbr
   ·have hke:k=es.length:=by simp at ht;omega
    subst hke
    have hall:=zpu hbn hf
    refine zat (hK5 _ _ ?_)
    refine szq hp (fun _ hZ=>zyx hZ) ?_
    refine zaq ?_
    show closeA _ _=_
    refine jqo ?_
    rw[hall]
 rcases h3 with q1|⟨q1,q2⟩|⟨q1,q2⟩
 ·have q2:=q1
  refine zp0 (sza q1 q2) ?_
  refine(hJ3 _ _ ⟨_,_,true,by simp[q1],rfl,rfl,?_⟩)
  refine jbq ?_
  exact jbr
 ·refine zp0 (sza q1 q2) ?_
  refine(hJ3 _ _ ⟨_,_,true,by simp[q2],rfl,rfl,?_⟩)
  refine jbq ?_
  exact jbr
 ·refine zp0 (sza q1 q2) ?_
  refine(hJ3 _ _ ⟨_,_,decide (2000<(es.length:Int)),by simp[q1,q2],rfl,rfl,?_⟩)
  refine jbq ?_
  exact jbr
theorem zp1{p q:Prop}(hq:q)(h:p=q:=by
 conv=>lhs;simp -dsimp -implicitDefEqProofs (disch:=first|assumption|omega|(simp only[r_z,zad,zbx,zac]<;>omega)|decide) only[r_r,↓reduceIte,Nat.reduceEqDiff,Nat.reduceAdd,D.fix,Int.reduceToNat,Nat.reduceMul,Nat.reduceBNe,Nat.reduceBEq,zag,intsD]):p:=h.mpr hq
theorem ztv{p q:Prop}(hq:q)(h:p=q:=by
 conv=>lhs;simp -dsimp -implicitDefEqProofs (disch:=first|assumption|omega|(simp only[r_z,zad,zbx,zac]<;>omega)|decide) only[r_r,↓reduceIte,Nat.reduceEqDiff,Nat.reduceAdd,D.fix,Int.reduceToNat,Nat.reduceMul,Nat.reduceBNe,Nat.reduceBEq,zag,intsD,ztu]):p:=h.mpr hq
theorem jhu{m:List Nat}{τ τ':Fr}{H H':zaa}(h2:H=H')(h:zez τ τ':=by
 repeat (first|exact zal _|refine zaf ?_ (by first|rfl|(simp[r_f,zad,zbx,zac];done)|simp[r_f,zad,zbx,zac, *]))):Rt m τ H τ' H':=Rt.end h h2
theorem jhv{p q r:Prop}(e:r)(hq:q)(h:r→p=q:=by
 intro hY
 conv=>lhs;simp -dsimp -implicitDefEqProofs (disch:=first|assumption|omega|(simp only[r_z,zad,zbx,zac]<;>omega)|decide) only[r_r,↓reduceIte,Nat.reduceEqDiff,Nat.reduceAdd,D.fix,Int.reduceToNat,Nat.reduceMul,Nat.reduceBNe,Nat.reduceBEq,zag,intsD,decide_true,decide_false,Bool.not_true,Bool.not_false,ztu,hY]):p:=(h e).mpr hq
theorem jok{p q:Prop}(hq:q)(h:p=q:=by
 conv=>lhs;simp (disch:=first|assumption|omega|(simp only[r_z,zad,zbx,zac]<;>omega)|decide) only[r_c,Nat.reduceAdd,D.fix,↓reduceIte,Nat.reduceEqDiff,zag,intsD]):p:=h.mpr hq
theorem jiq{p:Prop}(h:p:=by
 first|rfl|(simp only[r_g,Nat.reduceAdd,↓reduceIte,Nat.reduceEqDiff,zag,intsD];first|done|rfl)):p:=h
theorem jbt(n:Nat)(es:List Ed)(l:List Int)(h:Gr n es)(hl:l.length≤100000):zas Try.prog 22 [iD (n:Int),zag es,intsD l] (.d (iD (ckR n es l))):=by
 have hb:=h.b
 have hel:=h.l
 refine zau (fn:=Try.f22) (by kernel_rfl) Try.func22 rfl (Nat.le_of_ble_eq_true rfl) fun c hc hp=>?_
 refine zaw (τ':=frL [(0,.d (iD (n:Int))),(1,.d (zag es)),(2,.d (intsD l))]) (by repeat (first|exact zal _|refine zaf ?_ (by first|rfl|(simp[r_f,zad,zbx,zac];done)|simp[r_f,zad,zbx,zac, *]))) ?_
 refine szq hp (fun _ hZ=>zp1 hZ) ?_
 refine zab fun K2 hK2=>?_
 refine szq hp (fun _ hZ=>ztv hZ) ?_
 refine zai rfl (fun ht=>?_) (fun ht=>?_)
 ·have hne:l.length≠n:=fun e=>by rw[e]at ht;simp at ht
  have hck:=jmt (es:=es) hne
  refine szq hp (fun _ hZ=>zp1 hZ) ?_
  refine zaq ?_
  show closeA _ _=_
  refine jok ?_
  rw[hck]
 ·have hln:l.length=n:=by simp at ht;omega
  refine zah (hK2 _ _ ?_)
  refine szq hp (fun _ hZ=>ztv hZ) ?_
  refine zab fun K6 hK6=>?_
  refine szq hp (fun _ hZ=>zp1 hZ) ?_
  refine zae ?_
  refine zao hp (fun τ' H' mm=>∃(k:Nat) (t:List Nat),(k≤n∧t=ckS n l k∧t.length=n∧∀j,j<k→ckP n (ckS n l j) (nth l j)=false)∧mm=n - k∧H'=[.cells (avs (nsD t))]∧τ'=frL [(0,.d (iD (n:Int))),(1,.d (zag es)),(2,.d (intsD l)),(7,.os 1 0 0 n),(8,.d (iD (k:Int)))]) (n) ?_ ⟨0,List.replicate n 0,⟨Nat.zero_le _,rfl,by simp,fun j hj=>absurd hj (by omega)⟩,rfl,rfl,rfl⟩ ?_
  ·refine jhu ?_
   rw[zh8];rfl
  rintro τ' H' mm ⟨k,t,⟨hk,ht0,htl,hf⟩,rfl,rfl,rfl⟩
  refine zab fun K8 hK8=>?_
  refine szq hp (fun _ hZ=>ztv hZ) ?_
  refine zai rfl (fun ht=>?_) (fun ht=>?_)
  ·have hkl:k<l.length:=by simp at ht;omega
   have h3:(nth l k<0)∨(¬nth l k<0∧(n:Int)≤nth l k)∨(¬nth l k<0∧¬(n:Int)≤nth l k):=by omega
   have hgl:(l.map iD)[k]? =some (iD (nth l k)):=by rw[List.getElem?_map,List.getElem?_eq_getElem hkl,za5 hkl];rfl
   refine zah (hK8 _ _ ?_)
   refine zab fun K10 hK10=>?_
   refine zae ?_
   refine zab fun K11 hK11=>?_
   refine zaj hp zam hc rfl fun K12 hK12=>?_
   have hJ12:∀τ' H',(∃τ1 H1,∃(b:Bool),(b=ckP n t (nth l k))∧H1=[.cells (avs (nsD t))]∧τ1=frL [(0,.d (iD (n:Int))),(1,.d (zag es)),(2,.d (intsD l)),(7,.os 1 0 0 n),(8,.d (iD (k:Int))),(43,.d (oD b))]∧Rt [] τ' H' τ1 H1)→K12 τ' H':=by
    rintro τ' H' ⟨_,_,b,hbb,rfl,rfl,hrt⟩
    refine hK12 _ _ (zba hp hrt ?_)
    clear hrt
    refine zai rfl (fun ht=>?_) (fun ht=>?_)
    ·have hbad:=zx8 (es:=es) hkl (by rw[←ht0,←hbb];exact ht)
     refine szq hp (fun _ hZ=>zp1 hZ) ?_
     refine zaq ?_
     show closeA _ _=_
     refine jok ?_
     rw[hbad]
    ·rw[hbb]at ht
     have q1:¬nth l k<0:=fun q=>by simp[ckP,q]at ht
     have q2:¬(n:Int)≤nth l k:=fun q=>by simp[ckP,q]at ht
     have hk1:((k:Int)+1)=((k+1:Nat):Int):=by omega
     have hf2:∀j,j<k+1→ckP n (ckS n l j) (nth l j)=false:=fun j hj=>by
      rcases Nat.lt_or_ge j k with h|h
      ·exact hf j h
      ·obtain rfl:j=k:=by omega
       rw[←ht0];exact ht
     refine zah (hK11 _ _ ?_)
     refine za6 hp zam hc rfl fun K14 hK14=>?_
     simp -dsimp -implicitDefEqProofs (disch:=first|assumption|omega|(simp only[r_z,zad,zbx,zac]<;>omega)|decide) only[r_r,↓reduceIte,Nat.reduceEqDiff,Nat.reduceAdd,D.fix,Int.reduceToNat,Nat.reduceMul,Nat.reduceBNe,Nat.reduceBEq,zag,intsD,hgl,hk1,zex,ztu]
     refine hK14 _ _ (hK10 _ _ ?_)
     refine za6 hp zam hc rfl fun K15 hK15=>?_
     refine ztv ?_
     refine hK15 _ _ ⟨_,_,_,?_,⟨k+1,t.set (nth l k).toNat (k+1),⟨by omega,by rw[ckS,ht0],by simp[htl],hf2⟩,rfl,rfl,rfl⟩,?_⟩
     ·first|omega|(simp only[List.length_cons];omega)|(dsimp only;omega)
     ·refine jhu ?_
      exact jiq
   rcases h3 with q1|⟨q1,q2⟩|⟨q1,q2⟩
   ·have q2:=q1
    have hg:=q1
    refine jhv (sza hgl (sza q1 (sza q2 hg))) ?_
    refine(hJ12 _ _ ⟨_,_,true,by simp[ckP,q1],rfl,rfl,?_⟩)
    refine jhu ?_
    exact jiq
   ·have hg:=q1
    refine jhv (sza hgl (sza q1 (sza q2 hg))) ?_
    refine(hJ12 _ _ ⟨_,_,true,by simp[ckP,q2],rfl,rfl,?_⟩)
    refine jhu ?_
    exact jiq
   ·have hg:(nsD t)[(nth l k).toNat]? =some (iD ((nth t (nth l k).toNat:Nat):Int)):=zbf (by omega)
    refine jhv (sza hgl (sza q1 (sza q2 hg))) ?_
    refine(hJ12 _ _ ⟨_,_,decide (0<((nth t (nth l k).toNat:Nat):Int)),by rw[ckP,decide_eq_false q1,decide_eq_false q2,Bool.false_or,Bool.false_or];exact decide_eq_decide.2 Int.natCast_pos,rfl,rfl,?_⟩)
    refine jhu ?_
    exact jiq
  ·have hke:k=l.length:=by simp at ht;omega
   subst hke
   have hend:=zx9 (es:=es) hf
   have hnn:(l.length !=n)=false:=by rw[hln];simp
   rw[hnn,Bool.false_or,ckE,←ht0]at hend
   refine zat (hK6 _ _ ?_)
   refine zab fun K16 hK16=>?_
   refine szq hp (fun _ hZ=>zp1 hZ) ?_
   refine zae ?_
   refine zao hp (fun τ' H' mm=>∃(j:Nat),(j≤es.length∧∀i,i<j→nth t (nth es i).1<nth t (nth es i).2)∧mm=es.length - j∧H'=[.cells (avs (nsD t))]∧τ'=frL [(1,.d (zag es)),(7,.os 1 0 0 n),(9,.d (iD (j:Int)))]) (es.length) ?_ ⟨0,⟨Nat.zero_le _,fun j hj=>absurd hj (by omega)⟩,rfl,rfl,rfl⟩ ?_
   ·refine jhu ?_
    exact jiq
   rintro τ' H' mm ⟨j,⟨hj,hjf⟩,rfl,rfl,rfl⟩
   refine zab fun K18 hK18=>?_
   refine szq hp (fun _ hZ=>ztv hZ) ?_
   refine zai rfl (fun ht=>?_) (fun ht=>?_)
   ·have hje:j<es.length:=by simp at ht;omega
    obtain⟨a,ha⟩:∃a,a=(nth es j).1:=⟨_,rfl⟩
    obtain⟨b,hb⟩:∃b,b=(nth es j).2:=⟨_,rfl⟩
    have hge:=h.e _ (za3 hje)
    rw[←ha,←hb]at hge
    have hg1:(es.flatMap edC)[j*2]? =some (iD (a:Int)):=by rw[ha];exact zj1 hje
    have hg2:(es.flatMap edC)[j*2+1]? =some (iD (b:Int)):=by rw[hb];exact zj2 hje
    have hg3:(nsD t)[a]? =some (iD ((nth t a:Nat):Int)):=zbf (by omega)
    have hg4:(nsD t)[b]? =some (iD ((nth t b:Nat):Int)):=zbf (by omega)
    refine zah (hK18 _ _ ?_)
    refine zab fun K20 hK20=>?_
    refine zae ?_
    refine zbj zam hc mixed rfl (q:=0) (by kernel_rfl) (by kernel_rfl) fun K21 hK21=>?_
    simp -dsimp -implicitDefEqProofs (disch:=first|assumption|omega|(simp only[r_z,zad,zbx,zac]<;>omega)|decide) only[r_r,↓reduceIte,Nat.reduceEqDiff,Nat.reduceAdd,D.fix,Int.reduceToNat,Nat.reduceMul,Nat.reduceBNe,Nat.reduceBEq,zag,intsD,hg1,hg2,hg3,hg4,ztu]
    refine hK21 _ _ ?_
    refine zai rfl (fun ht=>?_) (fun ht=>?_)
    ·have hle:nth t b≤nth t a:=by simp at ht;omega
     have hany:(es.any fun e=>decide (nth t e.2≤nth t e.1))=true:=List.any_eq_true.2 ⟨_,za3 hje,by rw[←ha,←hb];exact decide_eq_true hle⟩
     rw[hany,if_pos rfl]at hend
     refine szq hp (fun _ hZ=>zp1 hZ) ?_
     refine zaq ?_
     show closeA _ _=_
     refine jok ?_
     rw[hend]
    ·have hlt:nth t a<nth t b:=by simp at ht;omega
     rw[ha,hb]at hlt
     refine zah (hK20 _ _ ?_)
     refine za6 hp zam hc rfl fun K23 hK23=>?_
     refine ztv ?_
     refine hK23 _ _ ⟨_,_,_,?_,⟨j+1,⟨hje,fun i hi=>(by rcases Nat.lt_or_ge i j with h|h;exact hjf i h;rw[show i=j by omega];exact hlt)⟩,rfl,rfl,rfl⟩,?_⟩
     ·first|omega|(simp only[List.length_cons];omega)|(dsimp only;omega)
     ·refine jhu ?_
      exact jiq
   ·have hje:j=es.length:=by simp at ht;omega
    subst hje
    have hany:(es.any fun e=>decide (nth t e.2≤nth t e.1))=false:=List.any_eq_false.2 fun e he=>by
     obtain⟨i,hi,rfl⟩:=List.getElem_of_mem he
     have:=hjf i hi
     rw[za5 hi]at this
     simp;omega
    rw[hany,if_neg (by decide)]at hend
    refine zat (hK16 _ _ ?_)
    refine szq hp (fun _ hZ=>zp1 hZ) ?_
    refine zaq ?_
    show closeA _ _=_
    refine jok ?_
    rw[hend]
/- The reference's Reach: walked. -/
section
theorem jbu:((((type_of% @znr)∧(type_of% @zns))∧((type_of% @jdi)∧((type_of% @jdj)∧(type_of% @zea))))∧(((type_of% @zeb)∧(type_of% @zeg))∧((type_of% @zb9)∧((type_of% @zca)∧(type_of% @zcl))))):=⟨⟨⟨@znr,@zns⟩,⟨@jdi,⟨@jdj,@zea⟩⟩⟩,⟨⟨@zeb,@zeg⟩,⟨@zb9,⟨@zca,@zcl⟩⟩⟩⟩
theorem zyy{nx:List (List Nat)}{st x:Nat}(h:GrN nx st)(hr:RT nx st x):∃k,k≤nx.length∧WayN nx st x k∧nth (zew nx st).far x=k+1:=by
 have hx:=(zj3 h x).2 hr
 obtain⟨k,h1,h2⟩:=(zg6 h.n h.s).way x (List.mem_append_left _ hx)
 have h3:=zti nx st nx.length x
 rw[show bS nx st nx.length=zew nx st from rfl,h1]at h3
 exact⟨k,by omega,h2,h1⟩
theorem jhw{n:Nat}{es:List Ed}(h:Gr n es){a b k:Nat}(ha:a<n)(hw:WayN (zav n es) a b k):b<n:=by
 induction hw with
 |here=>exact ha
 |go _ hc ih=>exact(h.e _ ((zcn ih).1 hc)).2
structure SnR (n:Nat) (nx:List (List Nat)) (st:Nat) (S:List Bool) (r:Nat):Prop where
 l:S.length=n
 so:∀x,x<n→nth S x=true→RT nx st x
 wy:∀x d,d≤r→WayN nx st x d→nth S x=true
structure SnE (n:Nat) (nx:List (List Nat)) (es:List Ed) (st:Nat) (S T:List Bool) (k:Nat):Prop where
 l:T.length=n
 so:∀x,x<n→nth T x=true→RT nx st x
 mo:∀x,nth S x=true→nth T x=true
 ed:∀i,i<k→nth S (nth es i).1=true→nth T (nth es i).2=true
section
variable {n:Nat} {es:List Ed} {st:Nat} {S T:List Bool}
theorem zgo{S:List Bool}{b x:Nat}(hb:b<S.length):nth (S.set b true) x=true↔x=b∨nth S x=true:=by
 by_cases e:x=b
 ·subst e;simp[zaz hb]
 ·rw[zax fun h=>e h.symm];simp[e]
theorem jst(hs:st<n):SnR n (zav n es) st ((List.replicate n false).set st true) 0:=by
 have hl:st<(List.replicate n false).length:=by simpa using hs
 refine⟨by simp,fun x hx h=>?_,fun x d hd hw=>?_⟩
 ·rcases(zgo hl).1 h with rfl|h
  ·exact .here
  ·rw[zhy hx]at h;cases h
 ·obtain rfl:d=0:=by omega
  cases hw
  exact(zgo hl).2 (.inl rfl)
theorem jqp{r:Nat}(h:SnR n (zav n es) st S r):SnE n (zav n es) es st S S 0:=⟨h.l,h.so,fun _ h=>h,fun i hi=>absurd hi (by omega)⟩
theorem jsu{k:Nat}(hG:Gr n es)(h:SnE n (zav n es) es st S T k)(hk:k<es.length)(ht:nth T (nth es k).1=true):SnE n (zav n es) es st S (T.set (nth es k).2 true) (k+1):=by
 have hge:=hG.e _ (za3 hk)
 have hl:(nth es k).2<T.length:=by rw[h.l];exact hge.2
 refine⟨by rw[List.length_set];exact h.l,fun x hx hh=>?_,fun x hh=>(zgo hl).2 (.inr (h.mo x hh)),fun i hi hh=>(zgo hl).2 ?_⟩
 ·rcases(zgo hl).1 hh with rfl|hh
  ·exact(h.so _ hge.1 ht).go ((zcn hge.1).2 (za3 hk))
  ·exact h.so x hx hh
 ·rcases Nat.lt_or_ge i k with hlt|hge'
  ·exact .inr (h.ed i hlt hh)
  ·rw[show i=k by omega];exact .inl rfl
theorem jsv{k:Nat}(h:SnE n (zav n es) es st S T k)(ht:nth T (nth es k).1=false):SnE n (zav n es) es st S T (k+1):=by
 refine⟨h.l,h.so,h.mo,fun i hi hh=>?_⟩
 rcases Nat.lt_or_ge i k with hlt|hge'
 ·exact h.ed i hlt hh
 ·rw[show i=k by omega]at hh
  rw[h.mo _ hh]at ht;cases ht
theorem jsw{r:Nat}(hG:Gr n es)(hs:st<n)(h:SnR n (zav n es) st S r)(e:SnE n (zav n es) es st S T es.length):SnR n (zav n es) st T (r+1):=by
 refine⟨e.l,e.so,fun x d hd hw=>?_⟩
 rcases Nat.lt_or_ge r d with hlt|hge
 ·obtain rfl:d=r+1:=by omega
  cases hw with
  |@go b _ _ hb hc=>
   have hbn:=jhw hG hs hb
   obtain⟨i,hi,he⟩:=List.getElem_of_mem ((zcn hbn).1 hc)
   have:=e.ed i hi
   rw[za5 hi,he]at this
   exact this (h.wy b r (Nat.le_refl _) hb)
 ·exact e.mo x (h.wy x d hge hw)
theorem jmy(hG:Gr n es)(hs:st<n)(h:SnR n (zav n es) st S n):(List.range n).filter (fun x=>nth S x)=zf9 n (zav n es) st:=by
 unfold zf9
 refine List.filter_congr fun x hx=>?_
 have hx:=List.mem_range.1 hx
 have hN:=hG.next hs
 rw[Bool.eq_iff_iff,List.contains_iff_mem,zj3 hN]
 refine⟨h.so x hx,fun hr=>?_⟩
 obtain⟨k,hk,hw,_⟩:=zyy hN hr
 rw[zbb]at hk
 exact h.wy x k hk hw
end
theorem zp2{p:Nat→Bool}(k:Nat):(List.range (k+1)).filter p=if p k=true then(List.range k).filter p++[k]else(List.range k).filter p:=by
 rw[List.range_succ,List.filter_append]
 by_cases h:p k=true
 ·rw[if_pos h];simp[h]
 ·rw[if_neg h];simp[h]
theorem ztw{p q:Prop}(hq:q)(h:p=q:=by
 conv=>lhs;simp -dsimp -implicitDefEqProofs (disch:=first|assumption|omega|(simp only[r_z,zad,zac,zbg]<;>omega)|decide) only[r_r,↓reduceIte,Nat.reduceEqDiff,Nat.reduceAdd,D.fix,Int.reduceToNat,Nat.reduceMul,Nat.reduceBNe,Nat.reduceBEq,intsD,zag]):p:=h.mpr hq
theorem zj4{p q:Prop}(hq:q)(h:p=q:=by
 conv=>lhs;simp -dsimp -implicitDefEqProofs (disch:=first|assumption|omega|(simp only[r_z,zad,zac,zbg]<;>omega)|decide) only[r_r,↓reduceIte,Nat.reduceEqDiff,Nat.reduceAdd,D.fix,Int.reduceToNat,Nat.reduceMul,Nat.reduceBNe,Nat.reduceBEq,intsD,zag,jbu]):p:=h.mpr hq
theorem zzg{m:List Nat}{τ τ':Fr}{H H':zaa}(h2:H=H')(h:zez τ τ':=by
 repeat (first|exact zal _|refine zaf ?_ (by first|rfl|(simp[r_f,zad,zac,zbg];done)|simp[r_f,zad,zac,zbg, *]))):Rt m τ H τ' H':=Rt.end h h2
theorem jbv{p q r:Prop}(e:r)(hq:q)(h:r→p=q:=by
 intro hY
 conv=>lhs;simp -dsimp -implicitDefEqProofs (disch:=first|assumption|omega|(simp only[r_z,zad,zac,zbg]<;>omega)|decide) only[r_r,↓reduceIte,Nat.reduceEqDiff,Nat.reduceAdd,D.fix,Int.reduceToNat,Nat.reduceMul,Nat.reduceBNe,Nat.reduceBEq,intsD,zag,jbu,hY]):p:=(h e).mpr hq
theorem jr6{p q:Prop}(hq:q)(h:p=q:=by
 conv=>lhs;simp (disch:=first|assumption|omega|(simp only[r_z,zad,zac,zbg]<;>omega)|decide) only[r_c,Nat.reduceAdd,D.fix,↓reduceIte,Nat.reduceEqDiff,intsD,zag]):p:=h.mpr hq
theorem jei{p:Prop}(h:p:=by
 first|rfl|(simp only[r_g,Nat.reduceAdd,↓reduceIte,Nat.reduceEqDiff,intsD,zag];first|done|rfl)):p:=h
theorem zsi(n:Nat)(es:List Ed)(h:Gr n es)(st:Int):zas Try.prog 25 [iD (n:Int),zag es,iD st] (.d (intsD (ze1 n es st))):=by
 have hb:=h.b
 have hel:=h.l
 refine zau (fn:=Try.f25) (by kernel_rfl) Try.func25 rfl (Nat.le_of_ble_eq_true rfl) fun c hc hp=>?_
 refine zaw (τ':=frL [(0,.d (iD (n:Int))),(1,.d (zag es)),(2,.d (iD st))]) (by repeat (first|exact zal _|refine zaf ?_ (by first|rfl|(simp[r_f,zad,zac,zbg];done)|simp[r_f,zad,zac,zbg, *]))) ?_
 refine szq hp (fun _ hZ=>ztw hZ) ?_
 refine zab fun K2 hK2=>?_
 refine zaj hp zam hc rfl fun K3 hK3=>?_
 have hJ3:∀τ' H',(∃τ1 H1,∃(b:Bool),(b=true↔¬(0≤st∧st<(n:Int)))∧H1=[]∧τ1=frL [(0,.d (iD (n:Int))),(1,.d (zag es)),(2,.d (iD st)),(6,.d (.val (.slice none 0 0))),(18,.d (oD b))]∧Rt [] τ' H' τ1 H1)→K3 τ' H':=by
  rintro τ' H' ⟨_,_,b,hbb,rfl,rfl,hrt⟩
  refine hK3 _ _ (zba hp hrt ?_)
  clear hrt
  refine zai rfl (fun ht=>?_) (fun ht=>?_)
  ·have hc0:¬(0≤st∧st<(n:Int)):=hbb.1 ht
   refine szq hp (fun _ hZ=>ztw hZ) ?_
   refine zaq ?_
   show closeA _ _=_
   refine jr6 ?_
   simp[ze1,hc0];done
  ·have hc0:0≤st∧st<(n:Int):=Classical.byContradiction fun hh=>by rw[hbb.2 hh]at ht;cases ht
   obtain⟨s,hs⟩:∃s:Nat,st=(s:Int):=⟨st.toNat,by omega⟩
   subst hs
   have hsn:s<n:=by omega
   refine zah (hK2 _ _ ?_)
   refine szq hp (fun _ hZ=>zj4 hZ) ?_
   refine zaj hp zam hc rfl fun K6 hK6=>?_
   simp -dsimp -implicitDefEqProofs (disch:=first|assumption|omega|(simp only[r_z,zad,zac,zbg]<;>omega)|decide) only[r_r,↓reduceIte,Nat.reduceEqDiff,Nat.reduceAdd,D.fix,Int.reduceToNat,Nat.reduceMul,Nat.reduceBNe,Nat.reduceBEq,intsD,zag,zhw,jbu]
   refine hK6 _ _ ?_
   refine zab fun K7 hK7=>?_
   refine szq hp (fun _ hZ=>ztw hZ) ?_
   refine zae ?_
   refine zao hp (fun τ' H' mm=>∃(v:Nat) (S:List Bool),(v≤n∧SnR n (zav n es) s S v)∧mm=n - v∧H'=[.cells (avs (S.map oD))]∧τ'=frL [(0,.d (iD (n:Int))),(1,.d (zag es)),(7,.os 1 0 0 n),(8,.d (iD (v:Int)))]) (n) ?_ ⟨0,(List.replicate n false).set s true,⟨Nat.zero_le _,jst hsn⟩,rfl,rfl,rfl⟩ ?_
   ·refine zzg ?_
    rw[←jd5,zyw];rfl
   rintro τ' H' mm ⟨v,S,⟨hv,hS⟩,rfl,rfl,rfl⟩
   refine zab fun K9 hK9=>?_
   refine szq hp (fun _ hZ=>zj4 hZ) ?_
   refine zai rfl (fun ht=>?_) (fun ht=>?_)
   ·have hvn:v<n:=by simp at ht;omega
    refine zah (hK9 _ _ ?_)
    refine zab fun K11 hK11=>?_
    refine zae ?_
    refine szq hp (fun _ hZ=>ztw hZ) ?_
    refine zae ?_
    refine zao hp (fun τ' H' mm=>∃(k:Nat) (T:List Bool),(k≤es.length∧SnE n (zav n es) es s S T k)∧mm=es.length - k∧H'=[.cells (avs (T.map oD))]∧τ'=frL [(0,.d (iD (n:Int))),(1,.d (zag es)),(7,.os 1 0 0 n),(8,.d (iD (v:Int))),(9,.d (iD (k:Int)))]) (es.length) ?_ ⟨0,S,⟨Nat.zero_le _,jqp hS⟩,rfl,rfl,rfl⟩ ?_
    ·refine zzg ?_
     exact jei
    rintro τ' H' mm ⟨k,T,⟨hk,hT⟩,rfl,rfl,rfl⟩
    refine zab fun K13 hK13=>?_
    refine szq hp (fun _ hZ=>zj4 hZ) ?_
    refine zai rfl (fun ht=>?_) (fun ht=>?_)
    ·have hke:k<es.length:=by simp at ht;omega
     have hTl:=hT.l
     have hy:=jsu h hT hke
     have hno:=jsv hT (k:=k)
     obtain⟨a,ha⟩:∃a,a=(nth es k).1:=⟨_,rfl⟩
     obtain⟨b,hb2⟩:∃b,b=(nth es k).2:=⟨_,rfl⟩
     have hge:=h.e _ (za3 hke)
     rw[←ha,←hb2]at hge hy
     rw[←ha]at hno
     have hg2:(es.flatMap edC)[k*2]? =some (iD (a:Int)):=by rw[ha];exact zj1 hke
     have hg3:(es.flatMap edC)[k*2+1]? =some (iD (b:Int)):=by rw[hb2];exact zj2 hke
     have hg4:(T.map oD)[a]? =some (oD (nth T a)):=zbk (by omega)
     clear ha hb2
     refine zah (hK13 _ _ ?_)
     refine zab fun K15 hK15=>?_
     refine zae ?_
     refine szq hp (fun _ hZ=>jbv (sza hg2 hg4) hZ) ?_
     refine zai rfl (fun ht=>?_) (fun ht=>?_)
     ·refine za6 hp zam hc rfl fun K17 hK17=>?_
      simp -dsimp -implicitDefEqProofs (disch:=first|assumption|omega|(simp only[r_z,zad,zac,zbg]<;>omega)|decide) only[r_r,↓reduceIte,Nat.reduceEqDiff,Nat.reduceAdd,D.fix,Int.reduceToNat,Nat.reduceMul,Nat.reduceBNe,Nat.reduceBEq,intsD,zag,hg3,zhw,jbu]
      refine hK17 _ _ (hK15 _ _ ?_)
      refine za6 hp zam hc rfl fun K18 hK18=>?_
      refine zj4 ?_
      refine hK18 _ _ ⟨_,_,_,?_,⟨k+1,T.set b true,⟨hke,hy ht⟩,rfl,rfl,rfl⟩,?_⟩
      ·first|omega|(simp only[List.length_cons];omega)|(dsimp only;omega)
      ·refine zzg ?_
       exact jei
     ·refine zah (hK15 _ _ ?_)
      refine za6 hp zam hc rfl fun K19 hK19=>?_
      refine zj4 ?_
      refine hK19 _ _ ⟨_,_,_,?_,⟨k+1,T,⟨hke,hno ht⟩,rfl,rfl,rfl⟩,?_⟩
      ·first|omega|(simp only[List.length_cons];omega)|(dsimp only;omega)
      ·refine zzg ?_
       exact jei
    ·have hke:k=es.length:=by simp at ht;omega
     subst hke
     refine zat (hK11 _ _ ?_)
     refine za6 hp zam hc rfl fun K20 hK20=>?_
     refine zj4 ?_
     refine hK20 _ _ ⟨_,_,_,?_,⟨v+1,T,⟨hvn,jsw h hsn hS hT⟩,rfl,rfl,rfl⟩,?_⟩
     ·first|omega|(simp only[List.length_cons];omega)|(dsimp only;omega)
     ·refine zzg ?_
      exact jei
   ·have hve:v=n:=by simp at ht;omega
    subst hve
    have hSe:=jmy h hsn hS
    have hSl:=hS.l
    refine zat (hK7 _ _ ?_)
    refine szq hp (fun _ hZ=>zj4 hZ) ?_
    refine zab fun K22 hK22=>?_
    refine szq hp (fun _ hZ=>ztw hZ) ?_
    refine zae ?_
    refine zao hp (fun τ' H' mm=>∃(x:Nat) (O:List Nat),(x≤v∧O=(List.range x).filter (fun x=>nth S x)∧O.length≤x)∧mm=v - x∧H'=[.cells (avs (S.map oD)),.cells (avs (nsD O))]∧τ'=frL [(0,.d (iD (v:Int))),(7,.os 1 0 0 v),(10,.os 1 1 0 O.length),(11,.d (iD (x:Int)))]) (v) ?_ ⟨0,[],⟨Nat.zero_le _,rfl,Nat.le_refl _⟩,rfl,rfl,rfl⟩ ?_
    ·refine zzg ?_
     exact jei
    rintro τ' H' mm ⟨x,O,⟨hx,hO,hOl⟩,rfl,rfl,rfl⟩
    refine zab fun K24 hK24=>?_
    refine szq hp (fun _ hZ=>zj4 hZ) ?_
    refine zai rfl (fun ht=>?_) (fun ht=>?_)
    ·have hxn:x<v:=by simp at ht;omega
     have hg5:(S.map oD)[x]? =some (oD (nth S x)):=zbk (by omega)
     have hsn2:=zp2 (p:=fun x=>nth S x) x
     rw[←hO]at hsn2
     refine zah (hK24 _ _ ?_)
     refine zab fun K26 hK26=>?_
     refine zae ?_
     refine szq hp (fun _ hZ=>jbv hg5 hZ) ?_
     refine zai rfl (fun ht=>?_) (fun ht=>?_)
     ·rw[if_pos ht]at hsn2
      refine szs hp (fun _ hZ=>zj4 hZ) (hK26 _ _ ?_)
      refine za6 hp zam hc rfl fun K29 hK29=>?_
      refine zj4 ?_
      refine hK29 _ _ ⟨_,_,_,?_,⟨x+1,O++[x],⟨hxn,hsn2.symm,by simp;omega⟩,rfl,rfl,rfl⟩,?_⟩
      ·first|omega|(simp only[List.length_cons];omega)|(dsimp only;omega)
      ·refine Rt.trans (Rt.gc (keep:=[0,3]) (by decide) (by decide) (by simp[fzH,gcH])) ?_
       refine zzg ?_
       simp only[r_g,Nat.reduceAdd,↓reduceIte,Nat.reduceEqDiff,intsD,zag];rw[←zf8];rfl
     ·rw[if_neg (by rw[ht];decide)]at hsn2
      refine zah (hK26 _ _ ?_)
      refine za6 hp zam hc rfl fun K30 hK30=>?_
      refine zj4 ?_
      refine hK30 _ _ ⟨_,_,_,?_,⟨x+1,O,⟨hxn,hsn2.symm,by omega⟩,rfl,rfl,rfl⟩,?_⟩
      ·first|omega|(simp only[List.length_cons];omega)|(dsimp only;omega)
      ·refine zzg ?_
       exact jei
    ·have hxe:x=v:=by simp at ht;omega
     subst hxe
     refine zat (hK22 _ _ ?_)
     refine szq hp (fun _ hZ=>ztw hZ) ?_
     refine zaq ?_
     show closeA _ _=_
     refine jr6 ?_
     rw[zmj h hsn,←hSe,←hO,zbe,ze2];rfl
 rcases tf (decide (st<0))with q1|q1
 ·refine jbv q1 ?_
  refine(hJ3 _ _ ⟨_,_,true,by simp at q1;simp;omega,rfl,rfl,?_⟩)
  refine zzg ?_
  exact jei
 ·refine jbv q1 ?_
  refine(hJ3 _ _ ⟨_,_,decide ((n:Int)≤st),by simp at q1;simp;omega,rfl,rfl,?_⟩)
  refine zzg ?_
  exact jei
/- The reference's free and OrderIn: walked. -/
end
theorem zyz:(((((type_of% @zeg)∧(type_of% @zea))∧((type_of% @zeb)∧(type_of% @zca)))∧(((type_of% @zb9)∧(type_of% @znr))∧((type_of% @jdi)∧(type_of% @jdj))))∧((((type_of% @zie)∧(type_of% @znp))∧((type_of% @zkc)∧(type_of% @zns)))∧(((type_of% @zb8)∧(type_of% @zcl))∧((type_of% @zkd)∧((type_of% @zec)∧(type_of% @zfh)))))):=⟨⟨⟨⟨@zeg,@zea⟩,⟨@zeb,@zca⟩⟩,⟨⟨@zb9,@znr⟩,⟨@jdi,@jdj⟩⟩⟩,⟨⟨⟨@zie,@znp⟩,⟨@zkc,@zns⟩⟩,⟨⟨@zb8,@zcl⟩,⟨@zkd,⟨@zec,@zfh⟩⟩⟩⟩⟩
def frE(es:List Ed)(B:List Bool)(v:Nat):Bool:=es.all fun e=> !(e.2==v)||nth B e.1
theorem jmz{es:List Ed}{B:List Bool}{v k:Nat}(hk:k<es.length)(h1:(nth es k).2=v)(h2:nth B (nth es k).1=false):frE es B v=false:=List.all_eq_false.2 ⟨_,za3 hk,by rw[h1,h2];simp⟩
theorem jm0{es:List Ed}{B:List Bool}{v:Nat}(h:∀i,i<es.length→(nth es i).2=v→nth B (nth es i).1=true):frE es B v=true:=List.all_eq_true.2 fun e he=>by
 obtain⟨i,hi,rfl⟩:=List.getElem_of_mem he
 by_cases e:(es[i]).2=v
 ·have:=h i hi (by rw[za5 hi];exact e)
  rw[za5 hi]at this
  rw[this];simp
 ·simp[e]
theorem jm1(l:List Bool):(l.map oD).map D.fix=l.map oD:=zlp (fun _=>rfl) l
theorem jbw{p q:Prop}(hq:q)(h:p=q:=by
 conv=>lhs;simp -dsimp -implicitDefEqProofs (disch:=first|assumption|omega|(simp only[r_z,zac,zbg]<;>omega)|decide) only[r_r,↓reduceIte,Nat.reduceEqDiff,Nat.reduceAdd,D.fix,Int.reduceToNat,Nat.reduceMul,Nat.reduceBNe,Nat.reduceBEq,zag,boolsD]):p:=h.mpr hq
theorem jqq{m:List Nat}{τ τ':Fr}{H H':zaa}(h2:H=H')(h:zez τ τ':=by
 repeat (first|exact zal _|refine zaf ?_ (by first|rfl|(simp[r_f,zac,zbg];done)|simp[r_f,zac,zbg, *]))):Rt m τ H τ' H':=Rt.end h h2
theorem jhx{p q:Prop}(hq:q)(h:p=q:=by
 conv=>lhs;simp -dsimp -implicitDefEqProofs (disch:=first|assumption|omega|(simp only[r_z,zac,zbg]<;>omega)|decide) only[r_r,↓reduceIte,Nat.reduceEqDiff,Nat.reduceAdd,D.fix,Int.reduceToNat,Nat.reduceMul,Nat.reduceBNe,Nat.reduceBEq,zag,boolsD,zyz]):p:=h.mpr hq
theorem jm2{p q r:Prop}(e:r)(hq:q)(h:r→p=q:=by
 intro hY
 conv=>lhs;simp -dsimp -implicitDefEqProofs (disch:=first|assumption|omega|(simp only[r_z,zac,zbg]<;>omega)|decide) only[r_r,↓reduceIte,Nat.reduceEqDiff,Nat.reduceAdd,D.fix,Int.reduceToNat,Nat.reduceMul,Nat.reduceBNe,Nat.reduceBEq,zag,boolsD,zyz,hY]):p:=(h e).mpr hq
theorem jqr{p:Prop}(h:p:=by
 first|rfl|(simp only[r_g,Nat.reduceAdd,↓reduceIte,Nat.reduceEqDiff,zag,boolsD];first|done|rfl)):p:=h
theorem jr7{p q:Prop}(hq:q)(h:p=q:=by
 conv=>lhs;simp (disch:=first|assumption|omega|(simp only[r_z,zac,zbg]<;>omega)|decide) only[r_c,Nat.reduceAdd,D.fix,↓reduceIte,Nat.reduceEqDiff,zag,boolsD]):p:=h.mpr hq
theorem jm3(es:List Ed)(B:List Bool)(v:Nat)(hl:es.length≤1000000)(hd:∀e∈es,e.1<B.length):zas Try.prog 35 [zag es,boolsD B,iD (v:Int)] (.d (oD (frE es B v))):=by
 refine zau (fn:=Try.f35) (by kernel_rfl) Try.func35 rfl (Nat.le_of_ble_eq_true rfl) fun c hc hp=>?_
 refine zaw (τ':=frL [(0,.d (zag es)),(1,.d (boolsD B)),(2,.d (iD (v:Int)))]) (by repeat (first|exact zal _|refine zaf ?_ (by first|rfl|(simp[r_f,zac,zbg];done)|simp[r_f,zac,zbg, *]))) ?_
 refine szq hp (fun _ hZ=>jbw hZ) ?_
 refine zab fun K2 hK2=>?_
 refine szq hp (fun _ hZ=>jbw hZ) ?_
 refine zae ?_
 refine zao hp (fun τ' H' mm=>∃(k:Nat),(k≤es.length∧∀i,i<k→(nth es i).2=v→nth B (nth es i).1=true)∧mm=es.length - k∧H'=[]∧τ'=frL [(0,.d (zag es)),(1,.d (boolsD B)),(2,.d (iD (v:Int))),(7,.d (iD (k:Int)))]) (es.length) ?_ ⟨0,⟨Nat.zero_le _,fun j hj=>absurd hj (by omega)⟩,rfl,rfl,rfl⟩ ?_
 ·refine jqq ?_
  exact jqr
 rintro τ' H' mm ⟨k,⟨hk,hf⟩,rfl,rfl,rfl⟩
 refine zab fun K4 hK4=>?_
 refine szq hp (fun _ hZ=>jhx hZ) ?_
 refine zai rfl (fun ht=>?_) (fun ht=>?_)
 ·have hke:k<es.length:=by simp at ht;omega
  obtain⟨a,ha⟩:∃a,a=(nth es k).1:=⟨_,rfl⟩
  obtain⟨b,hb⟩:∃b,b=(nth es k).2:=⟨_,rfl⟩
  have hge:=hd _ (za3 hke)
  rw[←ha]at hge
  have hg2:(es.flatMap edC)[k*2]? =some (iD (a:Int)):=by rw[ha];exact zj1 hke
  have hg3:(es.flatMap edC)[k*2+1]? =some (iD (b:Int)):=by rw[hb];exact zj2 hke
  have hg4:(B.map oD)[a]? =some (oD (nth B a)):=zbk hge
  refine zah (hK4 _ _ ?_)
  refine zab fun K6 hK6=>?_
  refine zae ?_
  refine zaj hp zam hc rfl fun K7 hK7=>?_
  by_cases q1:b=v
  ·have e1:((b:Int)==(v:Int))=true:=by rw[q1];simp
   refine jm2 (sza hg2 (sza hg3 (sza hg4 e1))) ?_
   refine hK7 _ _ ?_
   refine zai rfl (fun ht=>?_) (fun ht=>?_)
   ·have hno:frE es B v=false:=jmz hke (by rw[←hb];exact q1) (by rw[←ha];simpa using ht)
    refine szq hp (fun _ hZ=>jbw hZ) ?_
    refine zaq ?_
    show closeA _ _=_
    refine jr7 ?_
    rw[hno]
   ·have hda:nth B a=true:=by simpa using ht
    refine zah (hK6 _ _ ?_)
    refine za6 hp zam hc rfl fun K9 hK9=>?_
    refine jhx ?_
    refine hK9 _ _ ⟨_,_,_,?_,⟨k+1,⟨hke,fun i hi h1=>(by rcases Nat.lt_or_ge i k with h|h;exact hf i h h1;rw[show i=k by omega,←ha];exact hda)⟩,rfl,rfl,rfl⟩,?_⟩
    ·first|omega|(simp only[List.length_cons];omega)|(dsimp only;omega)
    ·refine jqq ?_
     exact jqr
  ·have e1:((b:Int)==(v:Int))=false:=by rw[beq_eq_false_iff_ne];omega
   refine jm2 (sza hg2 (sza hg3 (sza hg4 e1))) ?_
   refine hK7 _ _ ?_
   refine szf ?_
   refine zah (hK6 _ _ ?_)
   refine za6 hp zam hc rfl fun K10 hK10=>?_
   refine jhx ?_
   refine hK10 _ _ ⟨_,_,_,?_,⟨k+1,⟨hke,fun i hi h1=>(by rcases Nat.lt_or_ge i k with h|h;exact hf i h h1;rw[show i=k by omega,←hb]at h1;exact absurd h1 q1)⟩,rfl,rfl,rfl⟩,?_⟩
   ·first|omega|(simp only[List.length_cons];omega)|(dsimp only;omega)
   ·refine jqq ?_
    exact jqr
 ·have hke:k=es.length:=by simp at ht;omega
  subst hke
  have hok:=jm0 hf
  refine zat (hK2 _ _ ?_)
  refine szq hp (fun _ hZ=>jbw hZ) ?_
  refine zaq ?_
  show closeA _ _=_
  refine jr7 ?_
  rw[hok]
theorem jsx{n:Nat}{es:List Ed}{B:List Bool}{O:List Nat}{v:Nat}(hG:Gr n es)(hD:∀x,x<n→(nth B x=true↔x∈O))(hv:v<n):frB (zay n es) O v=(!(nth B v)&&frE es B v):=by
 rw[Bool.eq_iff_iff,fr_iff,Bool.and_eq_true,Bool.not_eq_true',←Bool.not_eq_true,hD v hv,frE,List.all_eq_true]
 refine and_congr Iff.rfl ⟨fun h e he=>?_,fun h u hu=>?_⟩
 ·by_cases e2:e.2=v
  ·have hm:e.1∈nth (zay n es) v:=(zc6 hv).2 (by rw[←e2];exact he)
   have:=(hD e.1 (hG.e _ he).1).2 (h _ hm)
   rw[this];simp
  ·simp[e2]
 ·have hm:=(zc6 hv).1 hu
  have:=h _ hm
  rw[←hD u (hG.e _ hm).1]
  simpa using this
theorem zoh{n q:Nat}{f:Nat→Bool}(hq:q<n)(h:f q=true)(hu:∀u,u<q→f u=false):∃l,(List.range n).filter f=q::l:=by
 have e:n=q+(n - q):=by omega
 rw[e,List.range_add,List.filter_append]
 have e1:(List.range q).filter f=[]:=List.filter_eq_nil_iff.2 fun x hx=>by rw[hu x (List.mem_range.1 hx)];decide
 obtain⟨m,hm⟩:∃m,n - q=m+1:=⟨n - q - 1,by omega⟩
 rw[e1,List.nil_append,hm,List.range_succ_eq_map,List.map_cons,List.filter_cons_of_pos (by simpa using h)]
 exact⟨_,rfl⟩
def PkI(f:Nat→Bool)(n v:Nat)(p:Int):Prop:=(p= -1∧∀u,u<v→f u=false)∨∃q:Nat,p=(q:Int)∧q<n∧f q=true∧∀u,u<q→f u=false
theorem jsy{f:Nat→Bool}{n:Nat}:PkI f n 0 (-1):=.inl ⟨rfl,fun u hu=>absurd hu (Nat.not_lt_zero _)⟩
theorem jsz{f:Nat→Bool}{n v:Nat}{p:Int}(h:PkI f n v p)(hp:p<0)(hf:f v=false):PkI f n (v+1) p:=by
 rcases h with⟨h1,h2⟩|⟨q,h1,_⟩
 ·refine .inl ⟨h1,fun u hu=>?_⟩
  rcases Nat.lt_or_ge u v with h|h
  ·exact h2 u h
  ·rw[show u=v by omega];exact hf
 ·omega
theorem js0{f:Nat→Bool}{n v:Nat}{p:Int}(h:PkI f n v p)(hp:p<0)(hv:v<n)(hf:f v=true):PkI f n (v+1) (v:Int):=by
 rcases h with⟨h1,h2⟩|⟨q,h1,_⟩
 ·exact .inr ⟨v,rfl,hv,hf,h2⟩
 ·omega
theorem jhy{n k:Nat}{es:List Ed}(hl:(zcg n (zay n es) k).length=k)(hk:k<n)(hf:∀u,u<n→frB (zay n es) (zcg n (zay n es) k) u=false):zdv n es=([],50):=by
 have h0:zcf n (zay n es) (zcg n (zay n es) k)=[]:=List.filter_eq_nil_iff.2 fun x hx=>by rw[hf x (List.mem_range.1 hx)];decide
 rw[zdv,zxw h0 hl,if_pos (by omega)]
theorem jbx{n:Nat}{es:List Ed}(hl:(zcg n (zay n es) n).length=n):zdv n es=(zcg n (zay n es) n,0):=by rw[zdv,if_neg (by omega)]
theorem zkf{p q:Prop}(hq:q)(h:p=q:=by
 conv=>lhs;simp -dsimp -implicitDefEqProofs (disch:=first|assumption|omega|(simp only[r_z,zad,zac,zbg]<;>omega)|decide) only[r_r,↓reduceIte,Nat.reduceEqDiff,Nat.reduceAdd,D.fix,Int.reduceToNat,Nat.reduceMul,Nat.reduceBNe,Nat.reduceBEq,zag,lsD,zyz]):p:=h.mpr hq
theorem jby{m:List Nat}{τ τ':Fr}{H H':zaa}(h2:H=H')(h:zez τ τ':=by
 repeat (first|exact zal _|refine zaf ?_ (by first|rfl|(simp[r_f,zad,zac,zbg];done)|simp[r_f,zad,zac,zbg, *]))):Rt m τ H τ' H':=Rt.end h h2
theorem jhz{p q:Prop}(hq:q)(h:p=q:=by
 conv=>lhs;simp -dsimp -implicitDefEqProofs (disch:=first|assumption|omega|(simp only[r_z,zad,zac,zbg]<;>omega)|decide) only[r_r,↓reduceIte,Nat.reduceEqDiff,Nat.reduceAdd,D.fix,Int.reduceToNat,Nat.reduceMul,Nat.reduceBNe,Nat.reduceBEq,zag,lsD]):p:=h.mpr hq
theorem zy0{p q r:Prop}(e:r)(hq:q)(h:r→p=q:=by
 intro hY
 conv=>lhs;simp -dsimp -implicitDefEqProofs (disch:=first|assumption|omega|(simp only[r_z,zad,zac,zbg]<;>omega)|decide) only[r_r,↓reduceIte,Nat.reduceEqDiff,Nat.reduceAdd,D.fix,Int.reduceToNat,Nat.reduceMul,Nat.reduceBNe,Nat.reduceBEq,zag,lsD,zyz,hY]):p:=(h e).mpr hq
theorem jm4{p q:Prop}(hq:q)(h:p=q:=by
 conv=>lhs;simp -dsimp -implicitDefEqProofs (disch:=first|assumption|omega|(simp only[r_z,zad,zac,zbg]<;>omega)|decide) only[r_r,↓reduceIte,Nat.reduceEqDiff,Nat.reduceAdd,D.fix,Int.reduceToNat,Nat.reduceMul,Nat.reduceBNe,Nat.reduceBEq,zag,lsD,zie,zz9]):p:=h.mpr hq
theorem jh0{p:Prop}(h:p:=by
 first|rfl|(simp only[r_g,Nat.reduceAdd,↓reduceIte,Nat.reduceEqDiff,zag,lsD];first|done|rfl)):p:=h
theorem jr8{p q:Prop}(hq:q)(h:p=q:=by
 conv=>lhs;simp (disch:=first|assumption|omega|(simp only[r_z,zad,zac,zbg]<;>omega)|decide) only[r_c,Nat.reduceAdd,D.fix,↓reduceIte,Nat.reduceEqDiff,zag,lsD]):p:=h.mpr hq
theorem zsj(n:Nat)(es:List Ed)(h:Gr n es):zas Try.prog 16 [iD (n:Int),zag es] (.d (lsD (zdv n es))):=by
 have hb:=h.b
 have hel:=h.l
 refine zau (fn:=Try.f16) (by kernel_rfl) Try.func16 rfl (Nat.le_of_ble_eq_true rfl) fun c hc hp=>?_
 refine zaw (τ':=frL [(0,.d (iD (n:Int))),(1,.d (zag es))]) (by repeat (first|exact zal _|refine zaf ?_ (by first|rfl|(simp[r_f,zad,zac,zbg];done)|simp[r_f,zad,zac,zbg, *]))) ?_
 refine szq hp (fun _ hZ=>zkf hZ) ?_
 refine szq hp (fun _ hZ=>zkf hZ) ?_
 refine szq hp (fun _ hZ=>zkf hZ) ?_
 refine zab fun K4 hK4=>?_
 refine zae ?_
 refine zao hp (fun τ' H' mm=>∃(k:Nat) (B:List Bool) (O:List Nat),(k≤n∧O=zcg n (zay n es) k∧O.length=k∧B.length=n∧∀x,x<n→(nth B x=true↔x∈O))∧mm=n - k∧H'=[.cells [.d (.val (.slice none 0 0)),.d (iD 0)],.cells (avs (B.map oD)),.cells (avs (nsD O))]∧τ'=frL [(0,.d (iD (n:Int))),(1,.d (zag es)),(4,.op 0 0),(5,.os 1 1 0 n),(6,.os 1 2 0 k)]) (n) ?_ ⟨0,List.replicate n false,[],⟨Nat.zero_le _,rfl,rfl,by simp,fun x hx=>by rw[zhy hx];simp⟩,rfl,rfl,rfl⟩ ?_
 ·refine jby ?_
  rw[zyw];rfl
 rintro τ' H' mm ⟨k,B,O,⟨hk,hO,hOl,hDl,hD⟩,rfl,rfl,rfl⟩
 refine zab fun K5 hK5=>?_
 refine szq hp (fun _ hZ=>zkf hZ) ?_
 refine zai rfl (fun ht=>?_) (fun ht=>?_)
 ·have hkn:k<n:=by simp at ht;omega
  refine zah (hK5 _ _ ?_)
  refine zae ?_
  refine szq hp (fun _ hZ=>jhz hZ) ?_
  refine zab fun K8 hK8=>?_
  refine szq hp (fun _ hZ=>jhz hZ) ?_
  refine zae ?_
  refine zao hp (fun τ' H' mm=>∃(v:Nat) (p:Int),(v≤n∧PkI (frB (zay n es) O) n v p)∧mm=n - v∧H'=[.cells [.d (.val (.slice none 0 0)),.d (iD 0)],.cells (avs (B.map oD)),.cells (avs (nsD O))]∧τ'=frL [(0,.d (iD (n:Int))),(1,.d (zag es)),(4,.op 0 0),(5,.os 1 1 0 n),(6,.os 1 2 0 k),(7,.d (iD p)),(8,.d (iD (v:Int)))]) (n) ?_ ⟨0, -1,⟨Nat.zero_le _,jsy⟩,rfl,rfl,rfl⟩ ?_
  ·refine jby ?_
   exact jh0
  rintro τ' H' mm ⟨v,p,⟨hv,hp0⟩,rfl,rfl,rfl⟩
  refine zab fun K10 hK10=>?_
  refine zaj hp zam hc rfl fun K11 hK11=>?_
  have hJ11:∀τ' H',(∃τ1 H1,∃(b:Bool),(b=true↔(v<n∧p<0))∧H1=[.cells [.d (.val (.slice none 0 0)),.d (iD 0)],.cells (avs (B.map oD)),.cells (avs (nsD O))]∧τ1=frL [(0,.d (iD (n:Int))),(1,.d (zag es)),(4,.op 0 0),(5,.os 1 1 0 n),(6,.os 1 2 0 k),(7,.d (iD p)),(8,.d (iD (v:Int))),(22,.d (oD b))]∧Rt [] τ' H' τ1 H1)→K11 τ' H':=by
   rintro τ' H' ⟨_,_,b,hbb,rfl,rfl,hrt⟩
   refine hK11 _ _ (zba hp hrt ?_)
   clear hrt
   refine zai rfl (fun ht=>?_) (fun ht=>?_)
   ·obtain⟨hvn,hpn⟩:=hbb.1 ht
    have hfr:=jsx h hD hvn
    have hg4:(B.map oD)[v]? =some (oD (nth B v)):=zbk (by omega)
    have hfc:=jm3 es B v (by omega) (fun e he=>by have:=(h.e e he).1;omega)
    unfold boolsD at hfc
    rw[hDl]at hfc
    refine zah (hK10 _ _ ?_)
    refine zab fun K12 hK12=>?_
    refine zae ?_
    refine zaj hp zam hc rfl fun K13 hK13=>?_
    have hJ13:∀τ' H',(∃τ1 H1,∃(b2:Bool),(b2=frB (zay n es) O v)∧H1=[.cells [.d (.val (.slice none 0 0)),.d (iD 0)],.cells (avs (B.map oD)),.cells (avs (nsD O))]∧τ1=frL [(0,.d (iD (n:Int))),(1,.d (zag es)),(4,.op 0 0),(5,.os 1 1 0 n),(6,.os 1 2 0 k),(7,.d (iD p)),(8,.d (iD (v:Int))),(35,.d (oD b2))]∧Rt [] τ' H' τ1 H1)→K13 τ' H':=by
     rintro τ' H' ⟨_,_,b2,hb2,rfl,rfl,hrt⟩
     refine hK13 _ _ (zba hp hrt ?_)
     clear hrt
     refine zai rfl (fun ht=>?_) (fun ht=>?_)
     ·refine szs hp (fun _ hZ=>jhz hZ) (hK12 _ _ ?_)
      refine za6 hp zam hc rfl fun K15 hK15=>?_
      refine zkf ?_
      refine hK15 _ _ ⟨_,_,_,?_,⟨v+1,(v:Int),⟨hvn,js0 hp0 hpn hvn (by rw[←hb2];exact ht)⟩,rfl,rfl,rfl⟩,?_⟩
      ·first|omega|(simp only[List.length_cons];omega)|(dsimp only;omega)
      ·refine jby ?_
       exact jh0
     ·refine zah (hK12 _ _ ?_)
      refine za6 hp zam hc rfl fun K16 hK16=>?_
      refine zkf ?_
      refine hK16 _ _ ⟨_,_,_,?_,⟨v+1,p,⟨hvn,jsz hp0 hpn (by rw[←hb2];exact ht)⟩,rfl,rfl,rfl⟩,?_⟩
      ·first|omega|(simp only[List.length_cons];omega)|(dsimp only;omega)
      ·refine jby ?_
       exact jh0
    rcases tf (nth B v)with q2|q2
    ·refine zy0 (sza hg4 q2) ?_
     refine(hJ13 _ _ ⟨_,_,false,by rw[hfr,q2];rfl,rfl,rfl,?_⟩)
     refine jby ?_
     exact jh0
    ·refine zy0 (sza hg4 q2) ?_
     refine zfe (hfc) ?_ ?_
     ·simp (disch:=first|assumption|omega|(simp only[r_z,zad,zac,zbg]<;>omega)|decide) only[r_c,Nat.reduceAdd,D.fix,↓reduceIte,Nat.reduceEqDiff,zag,lsD,jm1]
     refine zy0 (sza hg4 q2) ?_
     refine(hJ13 _ _ ⟨_,_,frE es B v,by rw[hfr,q2];rfl,rfl,rfl,?_⟩)
     refine jby ?_
     exact jh0
   ·have hbn:¬(v<n∧p<0):=fun h=>by rw[hbb.2 h]at ht;cases ht
    refine zat (hK8 _ _ ?_)
    refine zab fun K17 hK17=>?_
    refine szq hp (fun _ hZ=>zkf hZ) ?_
    refine zai rfl (fun ht=>?_) (fun ht=>?_)
    ·have hpn:p<0:=by simpa using ht
     have hve:v=n:=by omega
     have hno:zdv n es=([],50):=by
      rcases hp0 with⟨_,h2⟩|⟨q,h1,_⟩
      ·rw[hO]at h2 hOl
       exact jhy hOl hkn fun u hu=>h2 u (by omega)
      ·omega
     refine szq hp (fun _ hZ=>zkf hZ) ?_
     refine zaq ?_
     try dsimp only[zcq,za7]
     refine zbm rfl ?_
     refine jm4 ?_
     show closeA _ _=_
     refine jr8 ?_
     rw[hno];rfl
    ·have hpn:¬p<0:=by simpa using ht
     obtain⟨q,hpq,hqn,hfq,hfu⟩:∃q:Nat,p=(q:Int)∧q<n∧frB (zay n es) O q=true∧∀u,u<q→frB (zay n es) O u=false:=by
      rcases hp0 with⟨h1,_⟩|h2
      ·omega
      ·exact h2
     subst hpq
     obtain⟨l,hl⟩:=zoh hqn hfq hfu
     have hO2:O++[q]=zcg n (zay n es) (k+1):=by
      rw[hO]at hl
      rw[zmb hl,←hO]
     have hD2:∀x,x<n→(nth (B.set q true) x=true↔x∈O++[q]):=fun x hx=>by
      rw[zgo (by omega),hD x hx,List.mem_append,List.mem_singleton]
      exact or_comm
     refine zah (hK17 _ _ ?_)
     refine zaj hp zam hc rfl fun K20 hK20=>?_
     simp -dsimp -implicitDefEqProofs (disch:=first|assumption|omega|(simp only[r_z,zad,zac,zbg]<;>omega)|decide) only[r_r,↓reduceIte,Nat.reduceEqDiff,Nat.reduceAdd,D.fix,Int.reduceToNat,Nat.reduceMul,Nat.reduceBNe,Nat.reduceBEq,zag,lsD,zhw,zyz]
     refine hK20 _ _ ?_
     refine za6 hp zam hc rfl fun K21 hK21=>?_
     refine zkf ?_
     refine hK21 _ _ ⟨_,_,_,?_,⟨k+1,B.set q true,O++[q],⟨hkn,hO2,by simp;omega,by simp[hDl],hD2⟩,rfl,rfl,rfl⟩,?_⟩
     ·first|omega|(simp only[List.length_cons];omega)|(dsimp only;omega)
     ·refine Rt.trans (Rt.gc (keep:=[0,1,4]) (by decide) (by decide) (by simp[fzH,gcH])) ?_
      refine jby ?_
      simp only[r_g,Nat.reduceAdd,↓reduceIte,Nat.reduceEqDiff,zag,lsD];rw[←zf8];rfl
  by_cases q1:v<n
  ·have e1:decide ((v:Int)<(n:Int))=true:=decide_eq_true (by omega)
   refine zy0 e1 ?_
   refine(hJ11 _ _ ⟨_,_,decide (p<0),by simp[q1],rfl,rfl,?_⟩)
   refine jby ?_
   exact jh0
  ·have e1:decide ((v:Int)<(n:Int))=false:=decide_eq_false (by omega)
   refine zy0 e1 ?_
   refine(hJ11 _ _ ⟨_,_,false,by simp[q1],rfl,rfl,?_⟩)
   refine jby ?_
   exact jh0
 ·have hke:k=n:=by simp at ht;omega
  subst hke
  have hyes:zdv k es=(O,0):=by
   rw[hO]at hOl
   rw[jbx hOl,←hO]
  refine zat (hK4 _ _ ?_)
  refine szq hp (fun _ hZ=>zkf hZ) ?_
  refine zaq ?_
  try dsimp only[zcq,za7]
  refine zbm rfl ?_
  refine jm4 ?_
  show closeA _ _=_
  refine jr8 ?_
  rw[hyes];simp only[hOl,ze2]
end Go.Proofs.Ytfolbdkbpmgjgaa
