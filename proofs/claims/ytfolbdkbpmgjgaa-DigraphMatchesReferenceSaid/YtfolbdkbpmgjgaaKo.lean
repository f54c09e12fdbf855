/- Check and Valid: walked. -/
import Derived.Test.YtfolbdkbpmgjgaaQr
import Derived.Test.YtfolbdkbpmgjgaaKn
set_option linter.unusedVariables false
set_option linter.unusedSimpArgs false
set_option maxRecDepth 100000
set_option maxHeartbeats 4000000
namespace Go.Proofs.Ytfolbdkbpmgjgaa
open Go Go.RowKit
theorem zj0:((((type_of% @zeg)∧((type_of% @zea)∧(type_of% @zeb)))∧((type_of% @jab)∧((type_of% @jac)∧(type_of% @zcy))))∧(((type_of% @zcz)∧((type_of% @zb8)∧(type_of% @zb9)))∧(((type_of% @zca)∧(type_of% @zcl))∧((type_of% @znm)∧(type_of% @jad))))):=⟨⟨⟨@zeg,⟨@zea,@zeb⟩⟩,⟨@jab,⟨@jac,@zcy⟩⟩⟩,⟨⟨@zcz,⟨@zb8,@zb9⟩⟩,⟨⟨@zca,@zcl⟩,⟨@znm,@jad⟩⟩⟩⟩
theorem jbk{p q:Prop}(hq:q)(h:p=q:=by
 conv=>lhs;simp -dsimp -implicitDefEqProofs (disch:=first|assumption|omega|(simp only[r_z]<;>omega)|decide) only[r_r,↓reduceIte,Nat.reduceEqDiff,Nat.reduceAdd,D.fix,Int.reduceToNat,Nat.reduceMul,Nat.reduceBNe,Nat.reduceBEq,zag,zpc,zd1,edC]):p:=h.mpr hq
theorem zx7{p q:Prop}(hq:q)(h:p=q:=by
 conv=>lhs;simp -dsimp -implicitDefEqProofs (disch:=first|assumption|omega|(simp only[r_z]<;>omega)|decide) only[r_r,↓reduceIte,Nat.reduceEqDiff,Nat.reduceAdd,D.fix,Int.reduceToNat,Nat.reduceMul,Nat.reduceBNe,Nat.reduceBEq,zag,zpc,zd1,edC,zj0]):p:=h.mpr hq
theorem jbl{m:List Nat}{τ τ':Fr}{H H':zaa}(h2:H=H')(h:zez τ τ':=by
 repeat (first|exact zal _|refine zaf ?_ (by first|rfl|(simp[r_f];done)|simp[r_f, *]))):Rt m τ H τ' H':=Rt.end h h2
theorem jrz{p:Prop}(h:p:=by
 first|rfl|(simp only[r_g,Nat.reduceAdd,↓reduceIte,Nat.reduceEqDiff,zag,zpc,zd1,edC];first|done|rfl)):p:=h
theorem jr0{p:Prop}(h:p:=by
 simp (disch:=first|assumption|omega|(simp only[r_z]<;>omega)|decide) only[r_c,Nat.reduceAdd,D.fix,↓reduceIte,Nat.reduceEqDiff,zag,zpc,zd1,edC,hx]):p:=h
theorem jmc(l:List Ed)(g:Nat)(ca:List D)(p:Ed→Bool)(hl:l.length≤1000000)(hca:∀a b:Int,AV.toD.toDs (.d (.agg [iD a,iD b])::ca.map .d)=some (.agg [iD a,iD b]::ca))(hp':∀e∈l,zas Try.prog g (.agg [iD (e.1:Int),iD (e.2:Int)]::ca) (.d (oD (p e)))):zas Try.prog 56 [zag l,.clo (.func g) [] ca] (.d (iD (zgm p l))):=by
 refine zau (fn:=Try.f56) (by kernel_rfl) Try.func56 rfl (Nat.le_of_ble_eq_true rfl) fun c hc hp=>?_
 refine zaw (τ':=frL [(0,.d (zag l)),(1,.d (.clo (.func g) [] ca))]) (by repeat (first|exact zal _|refine zaf ?_ (by first|rfl|(simp[r_f];done)|simp[r_f, *]))) ?_
 refine szq hp (fun _ hZ=>jbk hZ) ?_
 refine zab fun K2 hK2=>?_
 refine szq hp (fun _ hZ=>zx7 hZ) ?_
 refine zae ?_
 refine zao hp (fun τ' H' mm=>∃k,(k≤l.length∧∀j,j<k→p (nth l j)=false)∧mm=l.length - k∧H'=[]∧τ'=frL [(0,.d (zag l)),(1,.d (.clo (.func g) [] ca)),(6,.d (zag l)),(7,.d (iD l.length)),(8,.d (iD k))]) (l.length) ?_ ⟨0,⟨Nat.zero_le _,fun j hj=>absurd hj (by omega)⟩,rfl,rfl,rfl⟩ ?_
 ·refine jbl ?_
  exact jrz
 rintro τ' H' mm ⟨k,⟨hk,hf⟩,rfl,rfl,rfl⟩
 refine szq hp (fun _ hZ=>zx7 hZ) ?_
 refine zab fun K5 hK5=>?_
 refine zai rfl (fun ht=>?_) (fun ht=>?_)
 ·have hlt:k<l.length:=by simp at ht;omega
  refine zah (hK5 _ _ ?_)
  refine zab fun K6 hK6=>?_
  refine zae ?_
  refine szq hp (fun _ hZ=>jbk hZ) ?_
  refine zaj hp zam hc rfl fun K8 hK8=>?_
  refine zx7 ?_
  refine zvy (fi:=[]) (ca:=ca) (ds:=[.agg [iD ((nth l k).1:Int),iD ((nth l k).2:Int)]]) (hp' _ (za3 hlt)) (hca (nth l k).1 (nth l k).2) ?_
  refine zx7 ?_
  refine hK8 _ _ ?_
  refine zai rfl (fun ht=>?_) (fun ht=>?_)
  ·have hx:=zg8 (p:=p) hlt hf ht
   refine szq hp (fun _ hZ=>jbk hZ) ?_
   refine zaq ?_
   show closeA _ _=_
   exact jr0
  ·have hf':∀j,j<k+1→p (nth l j)=false:=fun j hj=>by
    rcases Nat.lt_or_ge j k with h|h
    ·exact hf j h
    ·obtain rfl:j=k:=by omega
     exact ht
   refine zah (hK6 _ _ ?_)
   refine za6 hp zam hc rfl fun K10 hK10=>?_
   refine zx7 ?_
   refine hK10 _ _ ⟨_,_,_,?_,⟨k+1,⟨by omega,hf'⟩,rfl,rfl,rfl⟩,?_⟩
   ·first|omega|(simp only[List.length_cons];omega)|(dsimp only;omega)
   ·refine jbl ?_
    exact jrz
 ·have hx:zgm p l= -1:=zhv fun j hj=>hf j (by simp at ht;omega)
  refine zat (hK2 _ _ ?_)
  refine szq hp (fun _ hZ=>jbk hZ) ?_
  refine zaq ?_
  show closeA _ _=_
  exact jr0
theorem jmd{p q:Prop}(hq:q)(h:p=q:=by
 conv=>lhs;simp -dsimp -implicitDefEqProofs (disch:=first|assumption|omega|(simp only[r_z]<;>omega)|decide) only[r_r,↓reduceIte,Nat.reduceEqDiff,Nat.reduceAdd,D.fix,Int.reduceToNat,Nat.reduceMul,Nat.reduceBNe,Nat.reduceBEq,zj0]):p:=h.mpr hq
theorem jpy(l:List Ed)(g:Nat)(ca:List D)(p:Ed→Bool)(hl:l.length≤1000000)(hca:∀a b:Int,AV.toD.toDs (.d (.agg [iD a,iD b])::ca.map .d)=some (.agg [iD a,iD b]::ca))(hp':∀e∈l,zas Try.prog g (.agg [iD (e.1:Int),iD (e.2:Int)]::ca) (.d (oD (p e)))):zas Try.prog 41 [zag l,.clo (.func g) [] ca] (.d (oD (l.any p))):=by
 refine zau (fn:=Try.f41) (by kernel_rfl) Try.func41 rfl (Nat.le_of_ble_eq_true rfl) fun c hc hp=>?_
 refine zaw (τ':=frL [(0,.d (zag l)),(1,.d (.clo (.func g) [] ca))]) (by repeat (first|exact zal _|refine zaf ?_ (by first|rfl|(simp[r_f];done)|simp[r_f, *]))) ?_
 refine zaj hp zam hc rfl fun K1 hK1=>?_
 simp -dsimp -implicitDefEqProofs (disch:=first|assumption|omega|(simp only[r_z]<;>omega)|decide) only[r_r,↓reduceIte,Nat.reduceEqDiff,Nat.reduceAdd,D.fix,Int.reduceToNat,Nat.reduceMul,Nat.reduceBNe,Nat.reduceBEq]
 refine hK1 _ _ ?_
 refine zaj hp zam hc rfl fun K2 hK2=>?_
 refine jmd ?_
 refine zbd (jmc l g ca p hl hca hp') rfl ?_
 refine jmd ?_
 refine hK2 _ _ ?_
 refine zaq ?_
 show closeA _ _=_
 simp (disch:=first|assumption|omega|(simp only[r_z]<;>omega)|decide) only[r_c,Nat.reduceAdd,D.fix,↓reduceIte,Nat.reduceEqDiff,zoa]
theorem jme(a b:Nat)(t:List Nat)(ha:a<t.length)(hb:b<t.length):zas Try.prog 42 [.agg [iD (a:Int),iD (b:Int)],.fp [.fs (nsD t) t.length] 0] (.d (oD (decide (nth t b≤nth t a)))):=by
 have hg:=zbf ha
 have hg2:=zbf hb
 refine zau (fn:=Try.f42) (by kernel_rfl) Try.func42 rfl (Nat.le_of_ble_eq_true rfl) fun c hc hp=>?_
 refine zaw (τ':=frL [(0,.d (.agg [iD (a:Int),iD (b:Int)])),(1,.d (.fp [.fs (nsD t) t.length] 0))]) (by repeat (first|exact zal _|refine zaf ?_ (by first|rfl|(simp[r_f,zad];done)|simp[r_f,zad, *]))) ?_
 refine zaj hp zam hc rfl fun K1 hK1=>?_
 simp -dsimp -implicitDefEqProofs (disch:=first|assumption|omega|(simp only[r_z,zad]<;>omega)|decide) only[r_r,↓reduceIte,Nat.reduceEqDiff,Nat.reduceAdd,D.fix,Int.reduceToNat,Nat.reduceMul,Nat.reduceBNe,Nat.reduceBEq,zj0]
 refine hK1 _ _ ?_
 refine zbj zam hc mixed rfl (q:=0) (by kernel_rfl) (by kernel_rfl) fun K2 hK2=>?_
 simp -dsimp -implicitDefEqProofs (disch:=first|assumption|omega|(simp only[r_z,zad]<;>omega)|decide) only[r_r,↓reduceIte,Nat.reduceEqDiff,Nat.reduceAdd,D.fix,Int.reduceToNat,Nat.reduceMul,Nat.reduceBNe,Nat.reduceBEq,hg,hg2,zj0]
 refine hK2 _ _ ?_
 refine zaq ?_
 show closeA _ _=_
 simp (disch:=first|assumption|omega|(simp only[r_z,zad]<;>omega)|decide) only[r_c,Nat.reduceAdd,D.fix,↓reduceIte,Nat.reduceEqDiff,decide_eq_decide.2 Int.ofNat_le]
def ckS(n:Nat)(l:List Int):Nat→List Nat
 |0=>List.replicate n 0
 |k+1=>(ckS n l k).set (nth l k).toNat (k+1)
def ckP(n:Nat)(t:List Nat)(v:Int):Bool:=decide (v<0)||decide ((n:Int)≤v)||decide (0<nth t v.toNat)
theorem zbx(n:Nat)(l:List Int):∀k,(ckS n l k).length=n
 |0=>by simp[ckS]
 |k+1=>by rw[ckS,List.length_set,zbx n l k]
def ckE(n:Nat)(es:List Ed)(l:List Int):Bool:=es.any fun e=>decide (nth (ckS n l l.length) e.2≤nth (ckS n l l.length) e.1)
def ckR(n:Nat)(es:List Ed)(l:List Int):Int:=if(List.range l.length).any (fun k=>ckP n (ckS n l k) (nth l k))||(l.length !=n||ckE n es l)then 6 else 0
theorem zx8{n:Nat}{es:List Ed}{l:List Int}{k:Nat}(hk:k<l.length)(h:ckP n (ckS n l k) (nth l k)=true):ckR n es l=6:=by
 have:(List.range l.length).any (fun k=>ckP n (ckS n l k) (nth l k))=true:=List.any_eq_true.2 ⟨k,List.mem_range.2 hk,h⟩
 rw[ckR,this];rfl
theorem zx9{n:Nat}{es:List Ed}{l:List Int}(h:∀k,k<l.length→ckP n (ckS n l k) (nth l k)=false):ckR n es l=if(l.length !=n||ckE n es l)then 6 else 0:=by
 have:(List.range l.length).any (fun k=>ckP n (ckS n l k) (nth l k))=false:=List.any_eq_false.2 fun k hk=>by rw[h k (List.mem_range.1 hk)];decide
 rw[ckR,this];rfl
theorem ztp{p q:Prop}(hq:q)(h:p=q:=by
 conv=>lhs;simp -dsimp -implicitDefEqProofs (disch:=first|assumption|omega|(simp only[r_z,zad,zbx]<;>omega)|decide) only[r_r,↓reduceIte,Nat.reduceEqDiff,Nat.reduceAdd,D.fix,Int.reduceToNat,Nat.reduceMul,Nat.reduceBNe,Nat.reduceBEq]):p:=h.mpr hq
theorem zya{p q:Prop}(hq:q)(h:p=q:=by
 conv=>lhs;simp -dsimp -implicitDefEqProofs (disch:=first|assumption|omega|(simp only[r_z,zad,zbx]<;>omega)|decide) only[r_r,↓reduceIte,Nat.reduceEqDiff,Nat.reduceAdd,D.fix,Int.reduceToNat,Nat.reduceMul,Nat.reduceBNe,Nat.reduceBEq,zj0]):p:=h.mpr hq
theorem joe(k:List Nat){m:List Nat}{τ τ1:Fr}{H H1:zaa}(h:Rt m (fun t=>gcV k (τ t)) (gcH k H) τ1 H1)(a:∀i∈m,k[i]? =some i:=by decide)(b:k.Nodup:=by decide)(c:∀i∈k,i<H.length:=by
 simp[fzH,gcH]):Rt m τ H τ1 H1:=Rt.trans (Rt.gc a b c) h
theorem jip{m:List Nat}{τ τ':Fr}{H H':zaa}(h2:H=H')(h:zez τ τ':=by
 repeat (first|exact zal _|refine zaf ?_ (by first|rfl|(simp[r_f,zad,zbx];done)|simp[r_f,zad,zbx, *]))):Rt m τ H τ' H':=Rt.end h h2
theorem jhf{p q r:Prop}(e:r)(hq:q)(h:r→p=q:=by
 intro hY
 conv=>lhs;simp -dsimp -implicitDefEqProofs (disch:=first|assumption|omega|(simp only[r_z,zad,zbx]<;>omega)|decide) only[r_r,↓reduceIte,Nat.reduceEqDiff,Nat.reduceAdd,D.fix,Int.reduceToNat,Nat.reduceMul,Nat.reduceBNe,Nat.reduceBEq,decide_true,decide_false,Bool.not_true,Bool.not_false,zj0,hY]):p:=(h e).mpr hq
theorem jhg{p q r:Prop}(e:r)(hq:q)(h:r→p=q:=by
 intro hY
 conv=>lhs;simp -dsimp -implicitDefEqProofs (disch:=first|assumption|omega|(simp only[r_z,zad,zbx]<;>omega)|decide) only[r_r,↓reduceIte,Nat.reduceEqDiff,Nat.reduceAdd,D.fix,Int.reduceToNat,Nat.reduceMul,Nat.reduceBNe,Nat.reduceBEq,zj0,hY]):p:=(h e).mpr hq
theorem jmf{p q:Prop}(hq:q)(h:p=q:=by
 conv=>lhs;simp (disch:=first|assumption|omega|(simp only[r_z,zad,zbx]<;>omega)|decide) only[r_c,Nat.reduceAdd,D.fix,↓reduceIte,Nat.reduceEqDiff]):p:=h.mpr hq
theorem jmg{p:Prop}(h:p:=by
 first|rfl|(simp only[r_g,Nat.reduceAdd,↓reduceIte,Nat.reduceEqDiff];first|done|rfl)):p:=h
theorem zpt(n:Nat)(es:List Ed)(l:List Int)(h:Gr n es)(hl:l.length≤100000):zas Try.prog 21 [iD (n:Int),zag es,intsD l] (.d (iD (ckR n es l))):=by
 have hb:=h.b
 have hel:=h.l
 refine zau (fn:=Try.f21) (by kernel_rfl) Try.func21 rfl (Nat.le_of_ble_eq_true rfl) fun c hc hp=>?_
 refine zaw (τ':=frL [(0,.d (iD (n:Int))),(1,.d (zag es)),(2,.d (intsD l))]) (by repeat (first|exact zal _|refine zaf ?_ (by first|rfl|(simp[r_f,zad,zbx];done)|simp[r_f,zad,zbx, *]))) ?_
 refine szq hp (fun _ hZ=>ztp hZ) ?_
 refine szq hp (fun _ hZ=>zya hZ) ?_
 refine zab fun K3 hK3=>?_
 refine szq hp (fun _ hZ=>zya hZ) ?_
 refine zae ?_
 refine zao hp (fun τ' H' mm=>∃(k:Nat) (t:List Nat),(k≤l.length∧t=ckS n l k∧t.length=n∧∀j,j<k→ckP n (ckS n l j) (nth l j)=false)∧mm=l.length - k∧H'=[.cells [.os 1 1 0 n],.cells (avs (nsD t))]∧τ'=frL [(6,.d (iD 0)),(7,.op 0 0),(0,.d (iD (n:Int))),(1,.d (zag es)),(2,.d (intsD l)),(12,.d (intsD l)),(13,.d (iD (l.length:Int))),(14,.d (iD (k:Int)))]) (l.length) ?_ ⟨0,List.replicate n 0,⟨Nat.zero_le _,rfl,by simp,fun j hj=>absurd hj (by omega)⟩,rfl,rfl,rfl⟩ ?_
 ·refine joe [1,0] ?_
  refine jip ?_
  simp only[r_g,Nat.reduceAdd,↓reduceIte,Nat.reduceEqDiff];rw[zh8];rfl
 rintro τ' H' mm ⟨k,t,⟨hk,ht0,htl,hf⟩,rfl,rfl,rfl⟩
 refine szq hp (fun _ hZ=>zya hZ) ?_
 refine zab fun K6 hK6=>?_
 refine zai rfl (fun ht=>?_) (fun ht=>?_)
 ·have hkl:k<l.length:=by simp at ht;omega
  have h3:(nth l k<0)∨(¬nth l k<0∧(n:Int)≤nth l k)∨(¬nth l k<0∧¬(n:Int)≤nth l k):=by omega
  refine zah (hK6 _ _ ?_)
  refine zab fun K7 hK7=>?_
  refine zae ?_
  refine szq hp (fun _ hZ=>zya hZ) ?_
  refine zab fun K9 hK9=>?_
  refine zaj hp zam hc rfl fun K10 hK10=>?_
  have hJ10:∀τ' H',(∃τ1 H1,∃(b:Bool),(b=ckP n t (nth l k))∧H1=[.cells [.os 1 1 0 n],.cells (avs (nsD t))]∧τ1=frL [(6,.d (iD 0)),(7,.op 0 0),(0,.d (iD (n:Int))),(1,.d (zag es)),(2,.d (intsD l)),(12,.d (intsD l)),(13,.d (iD (l.length:Int))),(14,.d (iD (k:Int))),(8,.d (iD (k:Int))),(9,.d (iD (nth l k))),(32,.d (oD b))]∧Rt [] τ' H' τ1 H1)→K10 τ' H':=by
   rintro τ' H' ⟨_,_,b,hbb,rfl,rfl,hrt⟩
   refine hK10 _ _ (zba hp hrt ?_)
   clear hrt
   refine zai rfl (fun ht=>?_) (fun ht=>?_)
   ·have hbad:=zx8 (es:=es) hkl (by rw[←ht0,←hbb];exact ht)
    refine szq hp (fun _ hZ=>ztp hZ) ?_
    refine zaq ?_
    show closeA _ _=_
    refine jmf ?_
    rw[hbad]
   ·rw[hbb]at ht
    have q1:¬nth l k<0:=fun q=>by simp[ckP,q]at ht
    have q2:¬(n:Int)≤nth l k:=fun q=>by simp[ckP,q]at ht
    have hk1:((k:Int)+1)=((k+1:Nat):Int):=by omega
    have hf2:∀j,j<k+1→ckP n (ckS n l j) (nth l j)=false:=fun j hj=>by
     rcases Nat.lt_or_ge j k with h|h
     ·exact hf j h
     ·obtain rfl:j=k:=by omega
      rw[←ht0];exact ht
    refine zah (hK9 _ _ ?_)
    refine za6 hp zam hc rfl fun K12 hK12=>?_
    simp -dsimp -implicitDefEqProofs (disch:=first|assumption|omega|(simp only[r_z,zad,zbx]<;>omega)|decide) only[r_r,↓reduceIte,Nat.reduceEqDiff,Nat.reduceAdd,D.fix,Int.reduceToNat,Nat.reduceMul,Nat.reduceBNe,Nat.reduceBEq,hk1,zex,zj0]
    refine hK12 _ _ (hK7 _ _ ?_)
    refine za6 hp zam hc rfl fun K13 hK13=>?_
    refine zya ?_
    refine hK13 _ _ ⟨_,_,_,?_,⟨k+1,t.set (nth l k).toNat (k+1),⟨by omega,by rw[ckS,ht0],by simp[htl],hf2⟩,rfl,rfl,rfl⟩,?_⟩
    ·first|omega|(simp only[List.length_cons];omega)|(dsimp only;omega)
    ·refine jip ?_
     exact jmg
  rcases h3 with q1|⟨q1,q2⟩|⟨q1,q2⟩
  ·have q2:=q1
   have hg:=q1
   refine jhf (sza q1 (sza q2 hg)) ?_
   refine(hJ10 _ _ ⟨_,_,true,by simp[ckP,q1],rfl,rfl,?_⟩)
   refine jip ?_
   exact jmg
  ·have hg:=q1
   refine jhf (sza q1 (sza q2 hg)) ?_
   refine(hJ10 _ _ ⟨_,_,true,by simp[ckP,q2],rfl,rfl,?_⟩)
   refine jip ?_
   exact jmg
  ·have hg:(nsD t)[(nth l k).toNat]? =some (iD ((nth t (nth l k).toNat:Nat):Int)):=zbf (by omega)
   refine jhf (sza q1 (sza q2 hg)) ?_
   refine(hJ10 _ _ ⟨_,_,decide (0<((nth t (nth l k).toNat:Nat):Int)),by rw[ckP,decide_eq_false q1,decide_eq_false q2,Bool.false_or,Bool.false_or];exact decide_eq_decide.2 Int.natCast_pos,rfl,rfl,?_⟩)
   refine jip ?_
   exact jmg
 ·have hke:k=l.length:=by simp at ht;omega
  subst hke
  have hend:=zx9 (es:=es) hf
  have hcf:=fun g=>jpy es g [.fp [.fs (nsD t) t.length] 0] (fun e=>decide (nth t e.2≤nth t e.1)) (by omega) (fun _ _=>rfl)
  have hcf2:=hcf 42 (fun e he=>jme e.1 e.2 t (by have:=(h.e e he).1;omega) (by have:=(h.e e he).2;omega))
  rw[htl]at hcf2
  have hq:(l.length !=n)=(((l.length:Nat):Int) !=(n:Int)):=by rw[Bool.eq_iff_iff];simp;omega
  have hE:ckE n es l=es.any fun e=>decide (nth t e.2≤nth t e.1):=by rw[ckE,←ht0]
  have htk:zck (nsD t) 0 n=some (nsD t):=zbt (by rw[zad,htl])
  have hfz:fzV 1 (nsD t) (.os 1 1 0 n)= .d (.fs (nsD t) n):=zji (zbt (by rw[zad,htl];omega))
  refine zat (hK3 _ _ ?_)
  refine zab fun K14 hK14=>?_
  refine zba hp (τ':=frL [(6,.d (iD 0)),(7,.d (.fp [.fs (nsD t) n] 0)),(0,.d (iD (n:Int))),(1,.d (zag es)),(2,.d (intsD l))]) (H':=[]) ?_ ?_
  ·refine Rt.trans (Rt.fz (id:=1) (l:=(nsD t)) rfl) ?_
   refine Rt.trans (Rt.heap (H':=[.cells [.d (.fs (nsD t) n)],.dead]) (by simp only[r_g,Nat.reduceAdd,↓reduceIte,Nat.reduceEqDiff,htk];first|done|rfl)) ?_
   refine Rt.trans (Rt.fz (id:=0) (l:=[.fs (nsD t) n]) rfl) ?_
   refine joe [] ?_
   refine jip ?_
   exact jmg
  refine zaj hp zam hc rfl fun K15 hK15=>?_
  rcases tf (((l.length:Nat):Int) !=(n:Int))with q1|q1
  ·refine jhg q1 ?_
   refine hK15 _ _ ?_
   refine zai rfl (fun ht=>?_) (fun ht=>?_)
   ·refine szq hp (fun _ hZ=>ztp hZ) ?_
    refine zaq ?_
    show closeA _ _=_
    refine jmf ?_
    rw[hend,hq,q1];rfl
   ·refine zah (hK14 _ _ ?_)
    refine szq hp (fun _ hZ=>ztp hZ) ?_
    refine zaq ?_
    show closeA _ _=_
    refine jmf ?_
    cases ht
  ·refine jhg q1 ?_
   refine zbd (hcf2) rfl ?_
   refine jhg q1 ?_
   refine hK15 _ _ ?_
   refine zai rfl (fun ht=>?_) (fun ht=>?_)
   ·refine szq hp (fun _ hZ=>ztp hZ) ?_
    refine zaq ?_
    show closeA _ _=_
    refine jmf ?_
    rw[hend,hq,q1,hE,ht];rfl
   ·refine zah (hK14 _ _ ?_)
    refine szq hp (fun _ hZ=>ztp hZ) ?_
    refine zaq ?_
    show closeA _ _=_
    refine jmf ?_
    rw[hend,hq,q1,hE,ht];rfl
def ezC(e:Int × Int):List D:=[iD e.1,iD e.2]
def zbo(l:List (Int × Int)):D:=.fs (l.flatMap ezC) l.length
theorem jbm(e:Int × Int):(ezC e).length=2:=rfl
theorem zha{l:List (Int × Int)}{k:Nat}(h:k<l.length):zck (l.flatMap ezC) (k*2) 2=some (ezC (nth l k)):=zrj jbm h
def zoi(n:Int)(e:Int × Int):Bool:=decide (0≤e.1)&&decide (0≤e.2)&&decide (e.1<n)&&decide (e.2<n)
def ztq(n:Int)(es:List (Int × Int)):Bool:=decide (0≤n)&&decide (n≤200)&&decide (es.length≤2000)&&es.all (zoi n)
theorem zyb{n:Int}{es:List (Int × Int)}(h:n<0∨200<n∨2000<(es.length:Int)):ztq n es=false:=by
 rw[Bool.eq_false_iff]
 intro hh
 simp only[ztq,Bool.and_eq_true,decide_eq_true_eq]at hh
 omega
theorem zyc{n:Int}{es:List (Int × Int)}{k:Nat}(hk:k<es.length)(h:zoi n (nth es k)=false):ztq n es=false:=by
 have:es.all (zoi n)=false:=List.all_eq_false.2 ⟨_,za3 hk,by rw[h];decide⟩
 rw[ztq,this,Bool.and_false]
theorem zpu{n:Int}{es:List (Int × Int)}(h:¬(n<0∨200<n∨2000<(es.length:Int)))(hk:∀k,k<es.length→zoi n (nth es k)=true):ztq n es=true:=by
 have:es.all (zoi n)=true:=List.all_eq_true.2 fun x hx=>by
  obtain⟨i,hi,rfl⟩:=List.getElem_of_mem hx
  rw[←za5 hi];exact hk i hi
 simp only[ztq,Bool.and_eq_true,decide_eq_true_eq,this,and_true]
 omega
theorem jbn{p q:Prop}(hq:q)(h:p=q:=by
 conv=>lhs;simp -dsimp -implicitDefEqProofs (disch:=first|assumption|omega|(simp only[r_z]<;>omega)|decide) only[r_r,↓reduceIte,Nat.reduceEqDiff,Nat.reduceAdd,D.fix,Int.reduceToNat,Nat.reduceMul,Nat.reduceBNe,Nat.reduceBEq,zbo,jbm,zha,ezC]):p:=h.mpr hq
theorem jhh{p q:Prop}(hq:q)(h:p=q:=by
 conv=>lhs;simp -dsimp -implicitDefEqProofs (disch:=first|assumption|omega|(simp only[r_z]<;>omega)|decide) only[r_r,↓reduceIte,Nat.reduceEqDiff,Nat.reduceAdd,D.fix,Int.reduceToNat,Nat.reduceMul,Nat.reduceBNe,Nat.reduceBEq,zbo,jbm,zha,ezC,zj0]):p:=h.mpr hq
theorem zof{p q r:Prop}(e:r)(hq:q)(h:r→p=q:=by
 intro hY
 conv=>lhs;simp -dsimp -implicitDefEqProofs (disch:=first|assumption|omega|(simp only[r_z]<;>omega)|decide) only[r_r,↓reduceIte,Nat.reduceEqDiff,Nat.reduceAdd,D.fix,Int.reduceToNat,Nat.reduceMul,Nat.reduceBNe,Nat.reduceBEq,zbo,jbm,zha,ezC,decide_true,decide_false,Bool.not_true,Bool.not_false,zj0,hY]):p:=(h e).mpr hq
theorem jpz{p q:Prop}(hq:q)(h:p=q:=by
 conv=>lhs;simp (disch:=first|assumption|omega|(simp only[r_z]<;>omega)|decide) only[r_c,Nat.reduceAdd,D.fix,↓reduceIte,Nat.reduceEqDiff,zbo,jbm,zha,ezC]):p:=h.mpr hq
theorem jhi{p:Prop}(h:p:=by
 first|rfl|(simp only[r_g,Nat.reduceAdd,↓reduceIte,Nat.reduceEqDiff,zbo,jbm,zha,ezC];first|done|rfl)):p:=h
theorem zyd(n:Int)(es:List (Int × Int))(hl:es.length≤1000000):zas Try.prog 12 [iD n,zbo es] (.d (oD (ztq n es))):=by
 refine zau (fn:=Try.f12) (by kernel_rfl) Try.func12 rfl (Nat.le_of_ble_eq_true rfl) fun c hc hp=>?_
 refine zaw (τ':=frL [(0,.d (iD n)),(1,.d (zbo es))]) (by repeat (first|exact zal _|refine zaf ?_ (by first|rfl|(simp[r_f];done)|simp[r_f, *]))) ?_
 refine szq hp (fun _ hZ=>jbn hZ) ?_
 refine zab fun K2 hK2=>?_
 have h3:n<0∨(¬n<0∧200<n)∨(¬n<0∧¬200<n):=by omega
 refine zaj hp zam hc rfl fun K3 hK3=>?_
 have hJ3:∀τ' H',(∃τ1 H1,∃(b:Bool),(b=true↔(n<0∨200<n∨2000<(es.length:Int)))∧H1=[]∧τ1=frL [(0,.d (iD n)),(1,.d (zbo es)),(4,.d (oD false)),(17,.d (oD b))]∧Rt [] τ' H' τ1 H1)→K3 τ' H':=by
  rintro τ' H' ⟨_,_,b,hbb,rfl,rfl,hrt⟩
  refine hK3 _ _ (zba hp hrt ?_)
  clear hrt
  refine zai rfl (fun ht=>?_) (fun ht=>?_)
  ·have hno:=zyb (hbb.1 ht)
   refine szq hp (fun _ hZ=>jbn hZ) ?_
   refine zaq ?_
   show closeA _ _=_
   refine jpz ?_
   rw[hno]
  ·have hbn:¬(n<0∨200<n∨2000<(es.length:Int)):=fun h=>by rw[hbb.2 h]at ht;cases ht
   refine zah (hK2 _ _ ?_)
   refine zab fun K5 hK5=>?_
   refine szq hp (fun _ hZ=>jhh hZ) ?_
   refine zae ?_
   refine zao hp (fun τ' H' mm=>∃(k:Nat),(k≤es.length∧∀j,j<k→zoi n (nth es j)=true)∧mm=es.length - k∧H'=[]∧τ'=frL [(0,.d (iD n)),(4,.d (oD false)),(18,.d (zbo es)),(19,.d (iD (es.length:Int))),(20,.d (iD (k:Int)))]) (es.length) ?_ ⟨0,⟨Nat.zero_le _,fun j hj=>absurd hj (by omega)⟩,rfl,rfl,rfl⟩ ?_
   ·refine jbl ?_
    exact jhi
   rintro τ' H' mm ⟨k,⟨hk,hf⟩,rfl,rfl,rfl⟩
   refine szq hp (fun _ hZ=>jhh hZ) ?_
   refine zab fun K8 hK8=>?_
   refine zai rfl (fun ht=>?_) (fun ht=>?_)
   ·have hkl:k<es.length:=by simp at ht;omega
    obtain⟨a,ha⟩:∃a,a=(nth es k).1:=⟨_,rfl⟩
    obtain⟨b,hb⟩:∃b,b=(nth es k).2:=⟨_,rfl⟩
    have hab:zoi n (nth es k)=(decide (0≤a)&&decide (0≤b)&&decide (a<n)&&decide (b<n)):=by rw[zoi,ha,hb]
    have her:=zha hkl
    rw[ezC,←ha,←hb]at her
    clear ha hb
    refine zah (hK8 _ _ ?_)
    refine zab fun K9 hK9=>?_
    refine zae ?_
    refine zaj hp zam hc rfl fun K10 hK10=>?_
    simp -dsimp -implicitDefEqProofs (disch:=first|assumption|omega|(simp only[r_z]<;>omega)|decide) only[r_r,↓reduceIte,Nat.reduceEqDiff,Nat.reduceAdd,D.fix,Int.reduceToNat,Nat.reduceMul,Nat.reduceBNe,Nat.reduceBEq,zbo,jbm,zha,ezC,her,zj0]
    refine hK10 _ _ ?_
    refine zaj hp zam hc rfl fun K11 hK11=>?_
    have hJ11:∀τ' H',(∃τ1 H1,∃(b1:Bool),(b1= !zoi n (nth es k))∧H1=[]∧τ1=frL [(0,.d (iD n)),(4,.d (oD false)),(18,.d (zbo es)),(19,.d (iD (es.length:Int))),(20,.d (iD (k:Int))),(38,.d (oD b1))]∧Rt [] τ' H' τ1 H1)→K11 τ' H':=by
     rintro τ' H' ⟨_,_,b1,hb1,rfl,rfl,hrt⟩
     refine hK11 _ _ (zba hp hrt ?_)
     clear hrt
     refine zai rfl (fun ht=>?_) (fun ht=>?_)
     ·have hno:=zyc hkl (by rw[hb1]at ht;simpa using ht)
      refine szq hp (fun _ hZ=>jbn hZ) ?_
      refine zaq ?_
      show closeA _ _=_
      refine jpz ?_
      rw[hno]
     ·have hok:zoi n (nth es k)=true:=by rw[hb1]at ht;simpa using ht
      refine zah (hK9 _ _ ?_)
      refine za6 hp zam hc rfl fun K13 hK13=>?_
      refine jhh ?_
      refine hK13 _ _ ⟨_,_,_,?_,⟨k+1,⟨by omega,fun j hj=>(by rcases Nat.lt_or_ge j k with h|h;exact hf j h;rw[show j=k by omega];exact hok)⟩,rfl,rfl,rfl⟩,?_⟩
      ·first|omega|(simp only[List.length_cons];omega)|(dsimp only;omega)
      ·refine jbl ?_
       exact jhi
    by_cases q1:min a b<0
    ·refine zof q1 ?_
     refine(hJ11 _ _ ⟨_,_,true,by rw[hab];simp;omega,rfl,rfl,?_⟩)
     refine joe [] ?_
     refine jbl ?_
     exact jhi
    ·refine zof q1 ?_
     refine(hJ11 _ _ ⟨_,_,decide (n≤max a b),by rw[hab,Bool.eq_iff_iff];simp;omega,rfl,rfl,?_⟩)
     refine joe [] ?_
     refine jbl ?_
     exact jhi
   ·have hke:k=es.length:=by simp at ht;omega
    subst hke
    have hall:=zpu hbn hf
    refine zat (hK5 _ _ ?_)
    refine szq hp (fun _ hZ=>jbn hZ) ?_
    refine zaq ?_
    show closeA _ _=_
    refine jpz ?_
    rw[hall]
 rcases h3 with q1|⟨q1,q2⟩|⟨q1,q2⟩
 ·have q2:=q1
  refine zof (sza q1 q2) ?_
  refine(hJ3 _ _ ⟨_,_,true,by simp[q1],rfl,rfl,?_⟩)
  refine jbl ?_
  exact jhi
 ·refine zof (sza q1 q2) ?_
  refine(hJ3 _ _ ⟨_,_,true,by simp[q2],rfl,rfl,?_⟩)
  refine jbl ?_
  exact jhi
 ·refine zof (sza q1 q2) ?_
  refine(hJ3 _ _ ⟨_,_,decide (2000<(es.length:Int)),by simp[q1,q2],rfl,rfl,?_⟩)
  refine jbl ?_
  exact jhi
end Go.Proofs.Ytfolbdkbpmgjgaa
