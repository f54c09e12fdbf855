/- Check and Valid: walked. -/
import Derived.Test.YtfolbdkbpmgjgaaQr
import Derived.Test.YtfolbdkbpmgjgaaKn
set_option linter.unusedVariables false
set_option linter.unusedSimpArgs false
set_option maxRecDepth 100000
set_option maxHeartbeats 4000000
namespace Go.Proofs.Ytfolbdkbpmgjgaa
open Go Go.RowKit
theorem zjc:((((type_of% @zrk)∧((type_of% @zg1)∧(type_of% @zg2)))∧((type_of% @zx5)∧((type_of% @zx6)∧(type_of% @zc5))))∧(((type_of% @zc6)∧((type_of% @zdg)∧(type_of% @zg3)))∧(((type_of% @zg4)∧(type_of% @zdv))∧((type_of% @zmp)∧(type_of% @zx7))))):=⟨⟨⟨@zrk,⟨@zg1,@zg2⟩⟩,⟨@zx5,⟨@zx6,@zc5⟩⟩⟩,⟨⟨@zc6,⟨@zdg,@zg3⟩⟩,⟨⟨@zg4,@zdv⟩,⟨@zmp,@zx7⟩⟩⟩⟩
theorem zzg{p q:Prop}(hq:q)(h:p=q:=by
 conv=>lhs;simp -dsimp -implicitDefEqProofs (disch:=first|assumption|omega|(simp only[r_z]<;>omega)|decide) only[r_r,↓reduceIte,Nat.reduceEqDiff,Nat.reduceAdd,D.fix,Int.reduceToNat,Nat.reduceMul,Nat.reduceBNe,Nat.reduceBEq,zan,zoa,zdq,edC]):p:=h.mpr hq
theorem zwf{p q:Prop}(hq:q)(h:p=q:=by
 conv=>lhs;simp -dsimp -implicitDefEqProofs (disch:=first|assumption|omega|(simp only[r_z]<;>omega)|decide) only[r_r,↓reduceIte,Nat.reduceEqDiff,Nat.reduceAdd,D.fix,Int.reduceToNat,Nat.reduceMul,Nat.reduceBNe,Nat.reduceBEq,zan,zoa,zdq,edC,zjc]):p:=h.mpr hq
theorem zzh{m:List Nat}{τ τ':Fr}{H H':zaa}(h2:H=H')(h:zgq τ τ':=by
 repeat (first|exact zaj _|refine zac ?_ (by first|rfl|(simp[r_f];done)|simp[r_f, *]))):Rt m τ H τ' H':=Rt.end h h2
theorem jn6{p:Prop}(h:p:=by
 first|rfl|(simp only[r_g,Nat.reduceAdd,↓reduceIte,Nat.reduceEqDiff,zan,zoa,zdq,edC];first|done|rfl)):p:=h
theorem jn7{p:Prop}(h:p:=by
 simp (disch:=first|assumption|omega|(simp only[r_z]<;>omega)|decide) only[r_c,Nat.reduceAdd,D.fix,↓reduceIte,Nat.reduceEqDiff,zan,zoa,zdq,edC,hx]):p:=h
theorem jjj(l:List Ed)(g:Nat)(ca:List D)(p:Ed→Bool)(hl:l.length≤1000000)(hca:∀a b:Int,AV.toD.toDs (.d (.agg [iD a,iD b])::ca.map .d)=some (.agg [iD a,iD b]::ca))(hp':∀e∈l,zar Try.prog g (.agg [iD (e.1:Int),iD (e.2:Int)]::ca) (.d (oD (p e)))):zar Try.prog 56 [zan l,.clo (.func g) [] ca] (.d (iD (zf7 p l))):=by
 refine zay (fn:=Try.f56) (by kernel_rfl) Try.func56 rfl (Nat.le_of_ble_eq_true rfl) fun c hc hp=>?_
 refine zav (τ':=frL [(0,.d (zan l)),(1,.d (.clo (.func g) [] ca))]) (by repeat (first|exact zaj _|refine zac ?_ (by first|rfl|(simp[r_f];done)|simp[r_f, *]))) ?_
 refine szq hp (fun _ hZ=>zzg hZ) ?_
 refine zab fun K2 hK2=>?_
 refine szq hp (fun _ hZ=>zwf hZ) ?_
 refine zae ?_
 refine zaq hp (fun τ' H' mm=>∃k,(k≤l.length∧∀j,j<k→p (nth l j)=false)∧mm=l.length - k∧H'=[]∧τ'=frL [(0,.d (zan l)),(1,.d (.clo (.func g) [] ca)),(6,.d (zan l)),(7,.d (iD l.length)),(8,.d (iD k))]) (l.length) ?_ ⟨0,⟨Nat.zero_le _,fun j hj=>absurd hj (by omega)⟩,rfl,rfl,rfl⟩ ?_
 ·refine zzh ?_
  exact jn6
 rintro τ' H' mm ⟨k,⟨hk,hf⟩,rfl,rfl,rfl⟩
 refine szq hp (fun _ hZ=>zwf hZ) ?_
 refine zab fun K5 hK5=>?_
 refine zal rfl (fun ht=>?_) (fun ht=>?_)
 ·have hlt:k<l.length:=by simp at ht;omega
  refine zah (hK5 _ _ ?_)
  refine zab fun K6 hK6=>?_
  refine zae ?_
  refine szq hp (fun _ hZ=>zzg hZ) ?_
  refine zag hp zam hc rfl fun K8 hK8=>?_
  refine zwf ?_
  refine zt7 (fi:=[]) (ca:=ca) (ds:=[.agg [iD ((nth l k).1:Int),iD ((nth l k).2:Int)]]) (hp' _ (za9 hlt)) (hca (nth l k).1 (nth l k).2) ?_
  refine zwf ?_
  refine hK8 _ _ ?_
  refine zal rfl (fun ht=>?_) (fun ht=>?_)
  ·have hx:=zgp (p:=p) hlt hf ht
   refine szq hp (fun _ hZ=>zzg hZ) ?_
   refine zas ?_
   show closeA _ _=_
   exact jn7
  ·have hf':∀j,j<k+1→p (nth l j)=false:=fun j hj=>by
    rcases Nat.lt_or_ge j k with h|h
    ·exact hf j h
    ·obtain rfl:j=k:=by omega
     exact ht
   refine zah (hK6 _ _ ?_)
   refine zbc hp zam hc rfl fun K10 hK10=>?_
   refine zwf ?_
   refine hK10 _ _ ⟨_,_,_,?_,⟨k+1,⟨by omega,hf'⟩,rfl,rfl,rfl⟩,?_⟩
   ·first|omega|(simp only[List.length_cons];omega)|(dsimp only;omega)
   ·refine zzh ?_
    exact jn6
 ·have hx:zf7 p l= -1:=zha fun j hj=>hf j (by simp at ht;omega)
  refine zaz (hK2 _ _ ?_)
  refine szq hp (fun _ hZ=>zzg hZ) ?_
  refine zas ?_
  show closeA _ _=_
  exact jn7
theorem jjk{p q:Prop}(hq:q)(h:p=q:=by
 conv=>lhs;simp -dsimp -implicitDefEqProofs (disch:=first|assumption|omega|(simp only[r_z]<;>omega)|decide) only[r_r,↓reduceIte,Nat.reduceEqDiff,Nat.reduceAdd,D.fix,Int.reduceToNat,Nat.reduceMul,Nat.reduceBNe,Nat.reduceBEq,zjc]):p:=h.mpr hq
theorem jl7(l:List Ed)(g:Nat)(ca:List D)(p:Ed→Bool)(hl:l.length≤1000000)(hca:∀a b:Int,AV.toD.toDs (.d (.agg [iD a,iD b])::ca.map .d)=some (.agg [iD a,iD b]::ca))(hp':∀e∈l,zar Try.prog g (.agg [iD (e.1:Int),iD (e.2:Int)]::ca) (.d (oD (p e)))):zar Try.prog 41 [zan l,.clo (.func g) [] ca] (.d (oD (l.any p))):=by
 refine zay (fn:=Try.f41) (by kernel_rfl) Try.func41 rfl (Nat.le_of_ble_eq_true rfl) fun c hc hp=>?_
 refine zav (τ':=frL [(0,.d (zan l)),(1,.d (.clo (.func g) [] ca))]) (by repeat (first|exact zaj _|refine zac ?_ (by first|rfl|(simp[r_f];done)|simp[r_f, *]))) ?_
 refine zag hp zam hc rfl fun K1 hK1=>?_
 simp -dsimp -implicitDefEqProofs (disch:=first|assumption|omega|(simp only[r_z]<;>omega)|decide) only[r_r,↓reduceIte,Nat.reduceEqDiff,Nat.reduceAdd,D.fix,Int.reduceToNat,Nat.reduceMul,Nat.reduceBNe,Nat.reduceBEq]
 refine hK1 _ _ ?_
 refine zag hp zam hc rfl fun K2 hK2=>?_
 refine jjk ?_
 refine zbj (jjj l g ca p hl hca hp') rfl ?_
 refine jjk ?_
 refine hK2 _ _ ?_
 refine zas ?_
 show closeA _ _=_
 simp (disch:=first|assumption|omega|(simp only[r_z]<;>omega)|decide) only[r_c,Nat.reduceAdd,D.fix,↓reduceIte,Nat.reduceEqDiff,zm9]
theorem jjl(a b:Nat)(t:List Nat)(ha:a<t.length)(hb:b<t.length):zar Try.prog 42 [.agg [iD (a:Int),iD (b:Int)],.fp [.fs (nsD t) t.length] 0] (.d (oD (decide (nth t b≤nth t a)))):=by
 have hg:=za7 ha
 have hg2:=za7 hb
 refine zay (fn:=Try.f42) (by kernel_rfl) Try.func42 rfl (Nat.le_of_ble_eq_true rfl) fun c hc hp=>?_
 refine zav (τ':=frL [(0,.d (.agg [iD (a:Int),iD (b:Int)])),(1,.d (.fp [.fs (nsD t) t.length] 0))]) (by repeat (first|exact zaj _|refine zac ?_ (by first|rfl|(simp[r_f,zaf];done)|simp[r_f,zaf, *]))) ?_
 refine zag hp zam hc rfl fun K1 hK1=>?_
 simp -dsimp -implicitDefEqProofs (disch:=first|assumption|omega|(simp only[r_z,zaf]<;>omega)|decide) only[r_r,↓reduceIte,Nat.reduceEqDiff,Nat.reduceAdd,D.fix,Int.reduceToNat,Nat.reduceMul,Nat.reduceBNe,Nat.reduceBEq,zjc]
 refine hK1 _ _ ?_
 refine zba zam hc mixed rfl (q:=0) (by kernel_rfl) (by kernel_rfl) fun K2 hK2=>?_
 simp -dsimp -implicitDefEqProofs (disch:=first|assumption|omega|(simp only[r_z,zaf]<;>omega)|decide) only[r_r,↓reduceIte,Nat.reduceEqDiff,Nat.reduceAdd,D.fix,Int.reduceToNat,Nat.reduceMul,Nat.reduceBNe,Nat.reduceBEq,hg,hg2,zjc]
 refine hK2 _ _ ?_
 refine zas ?_
 show closeA _ _=_
 simp (disch:=first|assumption|omega|(simp only[r_z,zaf]<;>omega)|decide) only[r_c,Nat.reduceAdd,D.fix,↓reduceIte,Nat.reduceEqDiff,decide_eq_decide.2 Int.ofNat_le]
def ckS(n:Nat)(l:List Int):Nat→List Nat
 |0=>List.replicate n 0
 |k+1=>(ckS n l k).set (nth l k).toNat (k+1)
def ckP(n:Nat)(t:List Nat)(v:Int):Bool:=decide (v<0)||decide ((n:Int)≤v)||decide (0<nth t v.toNat)
theorem zdu(n:Nat)(l:List Int):∀k,(ckS n l k).length=n
 |0=>by simp[ckS]
 |k+1=>by rw[ckS,List.length_set,zdu n l k]
def ckE(n:Nat)(es:List Ed)(l:List Int):Bool:=es.any fun e=>decide (nth (ckS n l l.length) e.2≤nth (ckS n l l.length) e.1)
def ckR(n:Nat)(es:List Ed)(l:List Int):Int:=if(List.range l.length).any (fun k=>ckP n (ckS n l k) (nth l k))||(l.length !=n||ckE n es l)then 6 else 0
theorem jew{n:Nat}{es:List Ed}{l:List Int}{k:Nat}(hk:k<l.length)(h:ckP n (ckS n l k) (nth l k)=true):ckR n es l=6:=by
 have:(List.range l.length).any (fun k=>ckP n (ckS n l k) (nth l k))=true:=List.any_eq_true.2 ⟨k,List.mem_range.2 hk,h⟩
 rw[ckR,this];rfl
theorem jex{n:Nat}{es:List Ed}{l:List Int}(h:∀k,k<l.length→ckP n (ckS n l k) (nth l k)=false):ckR n es l=if(l.length !=n||ckE n es l)then 6 else 0:=by
 have:(List.range l.length).any (fun k=>ckP n (ckS n l k) (nth l k))=false:=List.any_eq_false.2 fun k hk=>by rw[h k (List.mem_range.1 hk)];decide
 rw[ckR,this];rfl
theorem zr5{p q:Prop}(hq:q)(h:p=q:=by
 conv=>lhs;simp -dsimp -implicitDefEqProofs (disch:=first|assumption|omega|(simp only[r_z,zaf,zdu]<;>omega)|decide) only[r_r,↓reduceIte,Nat.reduceEqDiff,Nat.reduceAdd,D.fix,Int.reduceToNat,Nat.reduceMul,Nat.reduceBNe,Nat.reduceBEq]):p:=h.mpr hq
theorem zwg{p q:Prop}(hq:q)(h:p=q:=by
 conv=>lhs;simp -dsimp -implicitDefEqProofs (disch:=first|assumption|omega|(simp only[r_z,zaf,zdu]<;>omega)|decide) only[r_r,↓reduceIte,Nat.reduceEqDiff,Nat.reduceAdd,D.fix,Int.reduceToNat,Nat.reduceMul,Nat.reduceBNe,Nat.reduceBEq,zjc]):p:=h.mpr hq
theorem jkp(k:List Nat){m:List Nat}{τ τ1:Fr}{H H1:zaa}(h:Rt m (fun t=>gcV k (τ t)) (gcH k H) τ1 H1)(a:∀i∈m,k[i]? =some i:=by decide)(b:k.Nodup:=by decide)(c:∀i∈k,i<H.length:=by
 simp[fzH,gcH]):Rt m τ H τ1 H1:=Rt.trans (Rt.gc a b c) h
theorem jfs{m:List Nat}{τ τ':Fr}{H H':zaa}(h2:H=H')(h:zgq τ τ':=by
 repeat (first|exact zaj _|refine zac ?_ (by first|rfl|(simp[r_f,zaf,zdu];done)|simp[r_f,zaf,zdu, *]))):Rt m τ H τ' H':=Rt.end h h2
theorem jey{p q r:Prop}(e:r)(hq:q)(h:r→p=q:=by
 intro hY
 conv=>lhs;simp -dsimp -implicitDefEqProofs (disch:=first|assumption|omega|(simp only[r_z,zaf,zdu]<;>omega)|decide) only[r_r,↓reduceIte,Nat.reduceEqDiff,Nat.reduceAdd,D.fix,Int.reduceToNat,Nat.reduceMul,Nat.reduceBNe,Nat.reduceBEq,decide_true,decide_false,Bool.not_true,Bool.not_false,zjc,hY]):p:=(h e).mpr hq
theorem jez{p q r:Prop}(e:r)(hq:q)(h:r→p=q:=by
 intro hY
 conv=>lhs;simp -dsimp -implicitDefEqProofs (disch:=first|assumption|omega|(simp only[r_z,zaf,zdu]<;>omega)|decide) only[r_r,↓reduceIte,Nat.reduceEqDiff,Nat.reduceAdd,D.fix,Int.reduceToNat,Nat.reduceMul,Nat.reduceBNe,Nat.reduceBEq,zjc,hY]):p:=(h e).mpr hq
theorem jjm{p q:Prop}(hq:q)(h:p=q:=by
 conv=>lhs;simp (disch:=first|assumption|omega|(simp only[r_z,zaf,zdu]<;>omega)|decide) only[r_c,Nat.reduceAdd,D.fix,↓reduceIte,Nat.reduceEqDiff]):p:=h.mpr hq
theorem jjn{p:Prop}(h:p:=by
 first|rfl|(simp only[r_g,Nat.reduceAdd,↓reduceIte,Nat.reduceEqDiff];first|done|rfl)):p:=h
theorem zwh(n:Nat)(es:List Ed)(l:List Int)(h:Gr n es)(hl:l.length≤100000):zar Try.prog 21 [iD (n:Int),zan es,intsD l] (.d (iD (ckR n es l))):=by
 have hb:=h.b
 have hel:=h.l
 refine zay (fn:=Try.f21) (by kernel_rfl) Try.func21 rfl (Nat.le_of_ble_eq_true rfl) fun c hc hp=>?_
 refine zav (τ':=frL [(0,.d (iD (n:Int))),(1,.d (zan es)),(2,.d (intsD l))]) (by repeat (first|exact zaj _|refine zac ?_ (by first|rfl|(simp[r_f,zaf,zdu];done)|simp[r_f,zaf,zdu, *]))) ?_
 refine szq hp (fun _ hZ=>zr5 hZ) ?_
 refine szq hp (fun _ hZ=>zwg hZ) ?_
 refine zab fun K3 hK3=>?_
 refine szq hp (fun _ hZ=>zwg hZ) ?_
 refine zae ?_
 refine zaq hp (fun τ' H' mm=>∃(k:Nat) (t:List Nat),(k≤l.length∧t=ckS n l k∧t.length=n∧∀j,j<k→ckP n (ckS n l j) (nth l j)=false)∧mm=l.length - k∧H'=[.cells [.os 1 1 0 n],.cells (avs (nsD t))]∧τ'=frL [(6,.d (iD 0)),(7,.op 0 0),(0,.d (iD (n:Int))),(1,.d (zan es)),(2,.d (intsD l)),(12,.d (intsD l)),(13,.d (iD (l.length:Int))),(14,.d (iD (k:Int)))]) (l.length) ?_ ⟨0,List.replicate n 0,⟨Nat.zero_le _,rfl,by simp,fun j hj=>absurd hj (by omega)⟩,rfl,rfl,rfl⟩ ?_
 ·refine jkp [1,0] ?_
  refine jfs ?_
  simp only[r_g,Nat.reduceAdd,↓reduceIte,Nat.reduceEqDiff];rw[zi6];rfl
 rintro τ' H' mm ⟨k,t,⟨hk,ht0,htl,hf⟩,rfl,rfl,rfl⟩
 refine szq hp (fun _ hZ=>zwg hZ) ?_
 refine zab fun K6 hK6=>?_
 refine zal rfl (fun ht=>?_) (fun ht=>?_)
 ·have hkl:k<l.length:=by simp at ht;omega
  have h3:(nth l k<0)∨(¬nth l k<0∧(n:Int)≤nth l k)∨(¬nth l k<0∧¬(n:Int)≤nth l k):=by omega
  refine zah (hK6 _ _ ?_)
  refine zab fun K7 hK7=>?_
  refine zae ?_
  refine szq hp (fun _ hZ=>zwg hZ) ?_
  refine zab fun K9 hK9=>?_
  refine zag hp zam hc rfl fun K10 hK10=>?_
  have hJ10:∀τ' H',(∃τ1 H1,∃(b:Bool),(b=ckP n t (nth l k))∧H1=[.cells [.os 1 1 0 n],.cells (avs (nsD t))]∧τ1=frL [(6,.d (iD 0)),(7,.op 0 0),(0,.d (iD (n:Int))),(1,.d (zan es)),(2,.d (intsD l)),(12,.d (intsD l)),(13,.d (iD (l.length:Int))),(14,.d (iD (k:Int))),(8,.d (iD (k:Int))),(9,.d (iD (nth l k))),(32,.d (oD b))]∧Rt [] τ' H' τ1 H1)→K10 τ' H':=by
   rintro τ' H' ⟨_,_,b,hbb,rfl,rfl,hrt⟩
   refine hK10 _ _ (zbg hp hrt ?_)
   clear hrt
   refine zal rfl (fun ht=>?_) (fun ht=>?_)
   ·have hbad:=jew (es:=es) hkl (by rw[←ht0,←hbb];exact ht)
    refine szq hp (fun _ hZ=>zr5 hZ) ?_
    refine zas ?_
    show closeA _ _=_
    refine jjm ?_
    rw[hbad]
   ·rw[hbb]at ht
    have q1:¬nth l k<0:=fun q=>by simp[ckP,q]at ht
    have q2:¬(n:Int)≤nth l k:=fun q=>by simp[ckP,q]at ht
    have hk1:((k:Int)+1)=((k+1:Nat):Int):=by omega
    have hf2:∀j,j<k+1→ckP n (ckS n l j) (nth l j)=false:=fun j hj=>by
     rcases Nat.lt_or_ge j k with h|h
     ·exact hf j h
     ·obtain rfl:j=k:=by omega
      rw[←ht0];exact ht
    refine zah (hK9 _ _ ?_)
    refine zbc hp zam hc rfl fun K12 hK12=>?_
    simp -dsimp -implicitDefEqProofs (disch:=first|assumption|omega|(simp only[r_z,zaf,zdu]<;>omega)|decide) only[r_r,↓reduceIte,Nat.reduceEqDiff,Nat.reduceAdd,D.fix,Int.reduceToNat,Nat.reduceMul,Nat.reduceBNe,Nat.reduceBEq,hk1,ze9,zjc]
    refine hK12 _ _ (hK7 _ _ ?_)
    refine zbc hp zam hc rfl fun K13 hK13=>?_
    refine zwg ?_
    refine hK13 _ _ ⟨_,_,_,?_,⟨k+1,t.set (nth l k).toNat (k+1),⟨by omega,by rw[ckS,ht0],by simp[htl],hf2⟩,rfl,rfl,rfl⟩,?_⟩
    ·first|omega|(simp only[List.length_cons];omega)|(dsimp only;omega)
    ·refine jfs ?_
     exact jjn
  rcases h3 with q1|⟨q1,q2⟩|⟨q1,q2⟩
  ·have q2:=q1
   have hg:=q1
   refine jey (sza q1 (sza q2 hg)) ?_
   refine(hJ10 _ _ ⟨_,_,true,by simp[ckP,q1],rfl,rfl,?_⟩)
   refine jfs ?_
   exact jjn
  ·have hg:=q1
   refine jey (sza q1 (sza q2 hg)) ?_
   refine(hJ10 _ _ ⟨_,_,true,by simp[ckP,q2],rfl,rfl,?_⟩)
   refine jfs ?_
   exact jjn
  ·have hg:(nsD t)[(nth l k).toNat]? =some (iD ((nth t (nth l k).toNat:Nat):Int)):=za7 (by omega)
   refine jey (sza q1 (sza q2 hg)) ?_
   refine(hJ10 _ _ ⟨_,_,decide (0<((nth t (nth l k).toNat:Nat):Int)),by rw[ckP,decide_eq_false q1,decide_eq_false q2,Bool.false_or,Bool.false_or];exact decide_eq_decide.2 Int.natCast_pos,rfl,rfl,?_⟩)
   refine jfs ?_
   exact jjn
 ·have hke:k=l.length:=by simp at ht;omega
  subst hke
  have hend:=jex (es:=es) hf
  have hcf:=fun g=>jl7 es g [.fp [.fs (nsD t) t.length] 0] (fun e=>decide (nth t e.2≤nth t e.1)) (by omega) (fun _ _=>rfl)
  have hcf2:=hcf 42 (fun e he=>jjl e.1 e.2 t (by have:=(h.e e he).1;omega) (by have:=(h.e e he).2;omega))
  rw[htl]at hcf2
  have hq:(l.length !=n)=(((l.length:Nat):Int) !=(n:Int)):=by rw[Bool.eq_iff_iff];simp;omega
  have hE:ckE n es l=es.any fun e=>decide (nth t e.2≤nth t e.1):=by rw[ckE,←ht0]
  have htk:zb9 (nsD t) 0 n=some (nsD t):=zbn (by rw[zaf,htl])
  have hfz:fzV 1 (nsD t) (.os 1 1 0 n)= .d (.fs (nsD t) n):=zir (zbn (by rw[zaf,htl];omega))
  refine zaz (hK3 _ _ ?_)
  refine zab fun K14 hK14=>?_
  refine zbg hp (τ':=frL [(6,.d (iD 0)),(7,.d (.fp [.fs (nsD t) n] 0)),(0,.d (iD (n:Int))),(1,.d (zan es)),(2,.d (intsD l))]) (H':=[]) ?_ ?_
  ·refine Rt.trans (Rt.fz (id:=1) (l:=(nsD t)) rfl) ?_
   refine Rt.trans (Rt.heap (H':=[.cells [.d (.fs (nsD t) n)],.dead]) (by simp only[r_g,Nat.reduceAdd,↓reduceIte,Nat.reduceEqDiff,htk];first|done|rfl)) ?_
   refine Rt.trans (Rt.fz (id:=0) (l:=[.fs (nsD t) n]) rfl) ?_
   refine jkp [] ?_
   refine jfs ?_
   exact jjn
  refine zag hp zam hc rfl fun K15 hK15=>?_
  rcases tf (((l.length:Nat):Int) !=(n:Int))with q1|q1
  ·refine jez q1 ?_
   refine hK15 _ _ ?_
   refine zal rfl (fun ht=>?_) (fun ht=>?_)
   ·refine szq hp (fun _ hZ=>zr5 hZ) ?_
    refine zas ?_
    show closeA _ _=_
    refine jjm ?_
    rw[hend,hq,q1];rfl
   ·refine zah (hK14 _ _ ?_)
    refine szq hp (fun _ hZ=>zr5 hZ) ?_
    refine zas ?_
    show closeA _ _=_
    refine jjm ?_
    cases ht
  ·refine jez q1 ?_
   refine zbj (hcf2) rfl ?_
   refine jez q1 ?_
   refine hK15 _ _ ?_
   refine zal rfl (fun ht=>?_) (fun ht=>?_)
   ·refine szq hp (fun _ hZ=>zr5 hZ) ?_
    refine zas ?_
    show closeA _ _=_
    refine jjm ?_
    rw[hend,hq,q1,hE,ht];rfl
   ·refine zah (hK14 _ _ ?_)
    refine szq hp (fun _ hZ=>zr5 hZ) ?_
    refine zas ?_
    show closeA _ _=_
    refine jjm ?_
    rw[hend,hq,q1,hE,ht];rfl
def ezC(e:Int × Int):List D:=[iD e.1,iD e.2]
def zd9(l:List (Int × Int)):D:=.fs (l.flatMap ezC) l.length
theorem je0(e:Int × Int):(ezC e).length=2:=rfl
theorem zjd{l:List (Int × Int)}{k:Nat}(h:k<l.length):zb9 (l.flatMap ezC) (k*2) 2=some (ezC (nth l k)):=zqc je0 h
def zw9(n:Int)(e:Int × Int):Bool:=decide (0≤e.1)&&decide (0≤e.2)&&decide (e.1<n)&&decide (e.2<n)
def zxa(n:Int)(es:List (Int × Int)):Bool:=decide (0≤n)&&decide (n≤200)&&decide (es.length≤2000)&&es.all (zw9 n)
theorem je1{n:Int}{es:List (Int × Int)}(h:n<0∨200<n∨2000<(es.length:Int)):zxa n es=false:=by
 rw[Bool.eq_false_iff]
 intro hh
 simp only[zxa,Bool.and_eq_true,decide_eq_true_eq]at hh
 omega
theorem je2{n:Int}{es:List (Int × Int)}{k:Nat}(hk:k<es.length)(h:zw9 n (nth es k)=false):zxa n es=false:=by
 have:es.all (zw9 n)=false:=List.all_eq_false.2 ⟨_,za9 hk,by rw[h];decide⟩
 rw[zxa,this,Bool.and_false]
theorem je3{n:Int}{es:List (Int × Int)}(h:¬(n<0∨200<n∨2000<(es.length:Int)))(hk:∀k,k<es.length→zw9 n (nth es k)=true):zxa n es=true:=by
 have:es.all (zw9 n)=true:=List.all_eq_true.2 fun x hx=>by
  obtain⟨i,hi,rfl⟩:=List.getElem_of_mem hx
  rw[←za0 hi];exact hk i hi
 simp only[zxa,Bool.and_eq_true,decide_eq_true_eq,this,and_true]
 omega
theorem zzi{p q:Prop}(hq:q)(h:p=q:=by
 conv=>lhs;simp -dsimp -implicitDefEqProofs (disch:=first|assumption|omega|(simp only[r_z]<;>omega)|decide) only[r_r,↓reduceIte,Nat.reduceEqDiff,Nat.reduceAdd,D.fix,Int.reduceToNat,Nat.reduceMul,Nat.reduceBNe,Nat.reduceBEq,zd9,je0,zjd,ezC]):p:=h.mpr hq
theorem je4{p q:Prop}(hq:q)(h:p=q:=by
 conv=>lhs;simp -dsimp -implicitDefEqProofs (disch:=first|assumption|omega|(simp only[r_z]<;>omega)|decide) only[r_r,↓reduceIte,Nat.reduceEqDiff,Nat.reduceAdd,D.fix,Int.reduceToNat,Nat.reduceMul,Nat.reduceBNe,Nat.reduceBEq,zd9,je0,zjd,ezC,zjc]):p:=h.mpr hq
theorem znd{p q r:Prop}(e:r)(hq:q)(h:r→p=q:=by
 intro hY
 conv=>lhs;simp -dsimp -implicitDefEqProofs (disch:=first|assumption|omega|(simp only[r_z]<;>omega)|decide) only[r_r,↓reduceIte,Nat.reduceEqDiff,Nat.reduceAdd,D.fix,Int.reduceToNat,Nat.reduceMul,Nat.reduceBNe,Nat.reduceBEq,zd9,je0,zjd,ezC,decide_true,decide_false,Bool.not_true,Bool.not_false,zjc,hY]):p:=(h e).mpr hq
theorem jl8{p q:Prop}(hq:q)(h:p=q:=by
 conv=>lhs;simp (disch:=first|assumption|omega|(simp only[r_z]<;>omega)|decide) only[r_c,Nat.reduceAdd,D.fix,↓reduceIte,Nat.reduceEqDiff,zd9,je0,zjd,ezC]):p:=h.mpr hq
theorem je5{p:Prop}(h:p:=by
 first|rfl|(simp only[r_g,Nat.reduceAdd,↓reduceIte,Nat.reduceEqDiff,zd9,je0,zjd,ezC];first|done|rfl)):p:=h
theorem je6(n:Int)(es:List (Int × Int))(hl:es.length≤1000000):zar Try.prog 12 [iD n,zd9 es] (.d (oD (zxa n es))):=by
 refine zay (fn:=Try.f12) (by kernel_rfl) Try.func12 rfl (Nat.le_of_ble_eq_true rfl) fun c hc hp=>?_
 refine zav (τ':=frL [(0,.d (iD n)),(1,.d (zd9 es))]) (by repeat (first|exact zaj _|refine zac ?_ (by first|rfl|(simp[r_f];done)|simp[r_f, *]))) ?_
 refine szq hp (fun _ hZ=>zzi hZ) ?_
 refine zab fun K2 hK2=>?_
 have h3:n<0∨(¬n<0∧200<n)∨(¬n<0∧¬200<n):=by omega
 refine zag hp zam hc rfl fun K3 hK3=>?_
 have hJ3:∀τ' H',(∃τ1 H1,∃(b:Bool),(b=true↔(n<0∨200<n∨2000<(es.length:Int)))∧H1=[]∧τ1=frL [(0,.d (iD n)),(1,.d (zd9 es)),(4,.d (oD false)),(17,.d (oD b))]∧Rt [] τ' H' τ1 H1)→K3 τ' H':=by
  rintro τ' H' ⟨_,_,b,hbb,rfl,rfl,hrt⟩
  refine hK3 _ _ (zbg hp hrt ?_)
  clear hrt
  refine zal rfl (fun ht=>?_) (fun ht=>?_)
  ·have hno:=je1 (hbb.1 ht)
   refine szq hp (fun _ hZ=>zzi hZ) ?_
   refine zas ?_
   show closeA _ _=_
   refine jl8 ?_
   rw[hno]
  ·have hbn:¬(n<0∨200<n∨2000<(es.length:Int)):=fun h=>by rw[hbb.2 h]at ht;cases ht
   refine zah (hK2 _ _ ?_)
   refine zab fun K5 hK5=>?_
   refine szq hp (fun _ hZ=>je4 hZ) ?_
   refine zae ?_
   refine zaq hp (fun τ' H' mm=>∃(k:Nat),(k≤es.length∧∀j,j<k→zw9 n (nth es j)=true)∧mm=es.length - k∧H'=[]∧τ'=frL [(0,.d (iD n)),(4,.d (oD false)),(18,.d (zd9 es)),(19,.d (iD (es.length:Int))),(20,.d (iD (k:Int)))]) (es.length) ?_ ⟨0,⟨Nat.zero_le _,fun j hj=>absurd hj (by omega)⟩,rfl,rfl,rfl⟩ ?_
   ·refine zzh ?_
    exact je5
   rintro τ' H' mm ⟨k,⟨hk,hf⟩,rfl,rfl,rfl⟩
   refine szq hp (fun _ hZ=>je4 hZ) ?_
   refine zab fun K8 hK8=>?_
   refine zal rfl (fun ht=>?_) (fun ht=>?_)
   ·have hkl:k<es.length:=by simp at ht;omega
    obtain⟨a,ha⟩:∃a,a=(nth es k).1:=⟨_,rfl⟩
    obtain⟨b,hb⟩:∃b,b=(nth es k).2:=⟨_,rfl⟩
    have hab:zw9 n (nth es k)=(decide (0≤a)&&decide (0≤b)&&decide (a<n)&&decide (b<n)):=by rw[zw9,ha,hb]
    have her:=zjd hkl
    rw[ezC,←ha,←hb]at her
    clear ha hb
    refine zah (hK8 _ _ ?_)
    refine zab fun K9 hK9=>?_
    refine zae ?_
    refine zag hp zam hc rfl fun K10 hK10=>?_
    simp -dsimp -implicitDefEqProofs (disch:=first|assumption|omega|(simp only[r_z]<;>omega)|decide) only[r_r,↓reduceIte,Nat.reduceEqDiff,Nat.reduceAdd,D.fix,Int.reduceToNat,Nat.reduceMul,Nat.reduceBNe,Nat.reduceBEq,zd9,je0,zjd,ezC,her,zjc]
    refine hK10 _ _ ?_
    refine zag hp zam hc rfl fun K11 hK11=>?_
    have hJ11:∀τ' H',(∃τ1 H1,∃(b1:Bool),(b1= !zw9 n (nth es k))∧H1=[]∧τ1=frL [(0,.d (iD n)),(4,.d (oD false)),(18,.d (zd9 es)),(19,.d (iD (es.length:Int))),(20,.d (iD (k:Int))),(38,.d (oD b1))]∧Rt [] τ' H' τ1 H1)→K11 τ' H':=by
     rintro τ' H' ⟨_,_,b1,hb1,rfl,rfl,hrt⟩
     refine hK11 _ _ (zbg hp hrt ?_)
     clear hrt
     refine zal rfl (fun ht=>?_) (fun ht=>?_)
     ·have hno:=je2 hkl (by rw[hb1]at ht;simpa using ht)
      refine szq hp (fun _ hZ=>zzi hZ) ?_
      refine zas ?_
      show closeA _ _=_
      refine jl8 ?_
      rw[hno]
     ·have hok:zw9 n (nth es k)=true:=by rw[hb1]at ht;simpa using ht
      refine zah (hK9 _ _ ?_)
      refine zbc hp zam hc rfl fun K13 hK13=>?_
      refine je4 ?_
      refine hK13 _ _ ⟨_,_,_,?_,⟨k+1,⟨by omega,fun j hj=>(by rcases Nat.lt_or_ge j k with h|h;exact hf j h;rw[show j=k by omega];exact hok)⟩,rfl,rfl,rfl⟩,?_⟩
      ·first|omega|(simp only[List.length_cons];omega)|(dsimp only;omega)
      ·refine zzh ?_
       exact je5
    by_cases q1:min a b<0
    ·refine znd q1 ?_
     refine(hJ11 _ _ ⟨_,_,true,by rw[hab];simp;omega,rfl,rfl,?_⟩)
     refine jkp [] ?_
     refine zzh ?_
     exact je5
    ·refine znd q1 ?_
     refine(hJ11 _ _ ⟨_,_,decide (n≤max a b),by rw[hab,Bool.eq_iff_iff];simp;omega,rfl,rfl,?_⟩)
     refine jkp [] ?_
     refine zzh ?_
     exact je5
   ·have hke:k=es.length:=by simp at ht;omega
    subst hke
    have hall:=je3 hbn hf
    refine zaz (hK5 _ _ ?_)
    refine szq hp (fun _ hZ=>zzi hZ) ?_
    refine zas ?_
    show closeA _ _=_
    refine jl8 ?_
    rw[hall]
 rcases h3 with q1|⟨q1,q2⟩|⟨q1,q2⟩
 ·have q2:=q1
  refine znd (sza q1 q2) ?_
  refine(hJ3 _ _ ⟨_,_,true,by simp[q1],rfl,rfl,?_⟩)
  refine zzh ?_
  exact je5
 ·refine znd (sza q1 q2) ?_
  refine(hJ3 _ _ ⟨_,_,true,by simp[q2],rfl,rfl,?_⟩)
  refine zzh ?_
  exact je5
 ·refine znd (sza q1 q2) ?_
  refine(hJ3 _ _ ⟨_,_,decide (2000<(es.length:Int)),by simp[q1,q2],rfl,rfl,?_⟩)
  refine zzh ?_
  exact je5
end Go.Proofs.Ytfolbdkbpmgjgaa
