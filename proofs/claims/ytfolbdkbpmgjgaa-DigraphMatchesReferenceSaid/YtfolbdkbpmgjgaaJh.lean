/- The laws' helpers: Same, Alike, SameLists, In, the wrapped calls. -/
import Derived.Test.YtfolbdkbpmgjgaaQr
import Derived.Test.YtfolbdkbpmgjgaaJf
import Derived.Test.YtfolbdkbpmgjgaaKo
set_option linter.unusedVariables false
set_option linter.unusedSimpArgs false
set_option maxRecDepth 100000
set_option maxHeartbeats 4000000
namespace Go.Proofs.Ytfolbdkbpmgjgaa
open Go Go.RowKit
theorem zye:((((type_of% @zcy)∧(type_of% @zcz))∧((type_of% @zb8)∧((type_of% @zea)∧(type_of% @zeb))))∧(((type_of% @zeh)∧(type_of% @zlw))∧((type_of% @zz7)∧((type_of% @zz8)∧(type_of% @zlv))))):=⟨⟨⟨@zcy,@zcz⟩,⟨@zb8,⟨@zea,@zeb⟩⟩⟩,⟨⟨@zeh,@zlw⟩,⟨@zz7,⟨@zz8,@zlv⟩⟩⟩⟩
theorem zk4(l:List Nat):intsD (zl l)= .fs (nsD l) l.length:=by unfold intsD;rw[zbe];rfl
theorem jea{a b:List Int}(h:a≠b):(a==b)=false:=beq_eq_false_iff_ne.2 h
theorem jmh{a b:List Int}(h:a=b):(a==b)=true:=beq_iff_eq.2 h
theorem zmg{p q:Prop}(hq:q)(h:p=q:=by
 conv=>lhs;simp -dsimp -implicitDefEqProofs (disch:=first|assumption|omega|(simp only[r_z]<;>omega)|decide) only[r_r,↓reduceIte,Nat.reduceEqDiff,Nat.reduceAdd,D.fix,Int.reduceToNat,Nat.reduceMul,Nat.reduceBNe,Nat.reduceBEq]):p:=h.mpr hq
theorem zpv{p q:Prop}(hq:q)(h:p=q:=by
 conv=>lhs;simp -dsimp -implicitDefEqProofs (disch:=first|assumption|omega|(simp only[r_z]<;>omega)|decide) only[r_r,↓reduceIte,Nat.reduceEqDiff,Nat.reduceAdd,D.fix,Int.reduceToNat,Nat.reduceMul,Nat.reduceBNe,Nat.reduceBEq,zye]):p:=h.mpr hq
theorem jof{m:List Nat}{τ τ':Fr}{H H':zaa}(h2:H=H')(h:zez τ τ':=by
 repeat (first|exact zal _|refine zaf ?_ (by first|rfl|(simp[r_f];done)|simp[r_f, *]))):Rt m τ H τ' H':=Rt.end h h2
theorem jmi{p q:Prop}(hq:q)(h:p=q:=by
 conv=>lhs;simp (disch:=first|assumption|omega|(simp only[r_z]<;>omega)|decide) only[r_c,Nat.reduceAdd,D.fix,↓reduceIte,Nat.reduceEqDiff]):p:=h.mpr hq
theorem jog{p:Prop}(h:p:=by
 first|rfl|(simp only[r_g,Nat.reduceAdd,↓reduceIte,Nat.reduceEqDiff];first|done|rfl)):p:=h
theorem zr7(a b:List Int)(ha:a.length≤1000000)(hb:b.length≤1000000):zas Try.prog 23 [intsD a,intsD b] (.d (oD (a==b))):=by
 refine zau (fn:=Try.f23) (by kernel_rfl) Try.func23 rfl (Nat.le_of_ble_eq_true rfl) fun c hc hp=>?_
 refine zaw (τ':=frL [(0,.d (intsD a)),(1,.d (intsD b))]) (by repeat (first|exact zal _|refine zaf ?_ (by first|rfl|(simp[r_f];done)|simp[r_f, *]))) ?_
 refine szq hp (fun _ hZ=>zmg hZ) ?_
 refine zab fun K2 hK2=>?_
 refine szq hp (fun _ hZ=>zpv hZ) ?_
 refine zai rfl (fun ht=>?_) (fun ht=>?_)
 ·have hne:a≠b:=fun e=>by rw[e]at ht;simp at ht
  refine szq hp (fun _ hZ=>zmg hZ) ?_
  refine zaq ?_
  show closeA _ _=_
  refine jmi ?_
  rw[jea hne]
 ·have hll:a.length=b.length:=by simp at ht;omega
  refine zah (hK2 _ _ ?_)
  refine zab fun K5 hK5=>?_
  refine szq hp (fun _ hZ=>zmg hZ) ?_
  refine zae ?_
  refine zao hp (fun τ' H' mm=>∃(k:Nat),(k≤a.length∧∀j,j<k→nth a j=nth b j)∧mm=a.length - k∧H'=[]∧τ'=frL [(0,.d (intsD a)),(1,.d (intsD b)),(5,.d (iD (k:Int)))]) (a.length) ?_ ⟨0,⟨Nat.zero_le _,fun j hj=>absurd hj (by omega)⟩,rfl,rfl,rfl⟩ ?_
  ·refine jof ?_
   exact jog
  rintro τ' H' mm ⟨k,⟨hk,hf⟩,rfl,rfl,rfl⟩
  refine zab fun K7 hK7=>?_
  refine szq hp (fun _ hZ=>zpv hZ) ?_
  refine zai rfl (fun ht=>?_) (fun ht=>?_)
  ·have hlt:k<a.length:=by simp at ht;omega
   refine zah (hK7 _ _ ?_)
   refine zab fun K9 hK9=>?_
   refine zae ?_
   refine zbj zam hc mixed rfl (q:=0) (by kernel_rfl) (by kernel_rfl) fun K10 hK10=>?_
   refine zpv ?_
   refine hK10 _ _ ?_
   refine zai rfl (fun ht=>?_) (fun ht=>?_)
   ·have hne:a≠b:=fun e=>by rw[e]at ht;simp at ht
    refine szq hp (fun _ hZ=>zmg hZ) ?_
    refine zaq ?_
    show closeA _ _=_
    refine jmi ?_
    rw[jea hne]
   ·have he:nth a k=nth b k:=by simpa using ht
    refine zah (hK9 _ _ ?_)
    refine za6 hp zam hc rfl fun K12 hK12=>?_
    refine zpv ?_
    refine hK12 _ _ ⟨_,_,_,?_,⟨k+1,⟨by omega,fun j hj=>(by rcases Nat.lt_or_ge j k with h|h;exact hf j h;rw[show j=k by omega];exact he)⟩,rfl,rfl,rfl⟩,?_⟩
    ·first|omega|(simp only[List.length_cons];omega)|(dsimp only;omega)
    ·refine jof ?_
     exact jog
  ·have hke:k=a.length:=by simp at ht;omega
   subst hke
   refine zat (hK5 _ _ ?_)
   refine szq hp (fun _ hZ=>zmg hZ) ?_
   refine zaq ?_
   show closeA _ _=_
   refine jmi ?_
   rw[jmh (zff hll hf)]
theorem jsn(l:List Int)(v:Int)(hl:l.length≤1000000):zas Try.prog 31 [intsD l,iD v] (.d (oD (decide (v∈l)))):=by
 refine zau (fn:=Try.f31) (by kernel_rfl) Try.func31 rfl (Nat.le_of_ble_eq_true rfl) fun c hc hp=>?_
 refine zaw (τ':=frL [(0,.d (intsD l)),(1,.d (iD v))]) (by repeat (first|exact zal _|refine zaf ?_ (by first|rfl|(simp[r_f];done)|simp[r_f, *]))) ?_
 refine szq hp (fun _ hZ=>zmg hZ) ?_
 refine zab fun K2 hK2=>?_
 refine szq hp (fun _ hZ=>zmg hZ) ?_
 refine zae ?_
 refine zao hp (fun τ' H' mm=>∃(k:Nat),(k≤l.length∧∀j,j<k→nth l j≠v)∧mm=l.length - k∧H'=[]∧τ'=frL [(0,.d (intsD l)),(1,.d (iD v)),(5,.d (iD (k:Int)))]) (l.length) ?_ ⟨0,⟨Nat.zero_le _,fun j hj=>absurd hj (by omega)⟩,rfl,rfl,rfl⟩ ?_
 ·refine jof ?_
  exact jog
 rintro τ' H' mm ⟨k,⟨hk,hf⟩,rfl,rfl,rfl⟩
 refine zab fun K4 hK4=>?_
 refine szq hp (fun _ hZ=>zpv hZ) ?_
 refine zai rfl (fun ht=>?_) (fun ht=>?_)
 ·have hlt:k<l.length:=by simp at ht;omega
  refine zah (hK4 _ _ ?_)
  refine zab fun K6 hK6=>?_
  refine zae ?_
  refine szq hp (fun _ hZ=>zpv hZ) ?_
  refine zai rfl (fun ht=>?_) (fun ht=>?_)
  ·have he:nth l k=v:=by simpa using ht
   have hin:v∈l:=he▸za3 hlt
   refine szq hp (fun _ hZ=>zmg hZ) ?_
   refine zaq ?_
   show closeA _ _=_
   refine jmi ?_
   rw[decide_eq_true hin]
  ·have he:nth l k≠v:=by simpa using ht
   refine zah (hK6 _ _ ?_)
   refine za6 hp zam hc rfl fun K9 hK9=>?_
   refine zpv ?_
   refine hK9 _ _ ⟨_,_,_,?_,⟨k+1,⟨by omega,fun j hj=>(by rcases Nat.lt_or_ge j k with h|h;exact hf j h;rw[show j=k by omega];exact he)⟩,rfl,rfl,rfl⟩,?_⟩
   ·first|omega|(simp only[List.length_cons];omega)|(dsimp only;omega)
   ·refine jof ?_
    exact jog
 ·have hke:k=l.length:=by simp at ht;omega
  subst hke
  have hno:v∉l:=fun hm=>by
   obtain⟨j,hj,e⟩:=List.getElem_of_mem hm
   exact hf j hj (by rw[za5 hj];exact e)
  refine zat (hK2 _ _ ?_)
  refine szq hp (fun _ hZ=>zmg hZ) ?_
  refine zaq ?_
  show closeA _ _=_
  refine jmi ?_
  rw[decide_eq_false hno]
theorem zyf{p q:Prop}(hq:q)(h:p=q:=by
 conv=>lhs;simp -dsimp -implicitDefEqProofs (disch:=first|assumption|omega|(simp only[r_z,zak]<;>omega)|decide) only[r_r,↓reduceIte,Nat.reduceEqDiff,Nat.reduceAdd,D.fix,Int.reduceToNat,Nat.reduceMul,Nat.reduceBNe,Nat.reduceBEq,zan]):p:=h.mpr hq
theorem jhj{p q:Prop}(hq:q)(h:p=q:=by
 conv=>lhs;simp -dsimp -implicitDefEqProofs (disch:=first|assumption|omega|(simp only[r_z,zak]<;>omega)|decide) only[r_r,↓reduceIte,Nat.reduceEqDiff,Nat.reduceAdd,D.fix,Int.reduceToNat,Nat.reduceMul,Nat.reduceBNe,Nat.reduceBEq,zan,zye]):p:=h.mpr hq
theorem jr1{m:List Nat}{τ τ':Fr}{H H':zaa}(h2:H=H')(h:zez τ τ':=by
 repeat (first|exact zal _|refine zaf ?_ (by first|rfl|(simp[r_f,zak];done)|simp[r_f,zak, *]))):Rt m τ H τ' H':=Rt.end h h2
theorem jmj{p q r:Prop}(e:r)(hq:q)(h:r→p=q:=by
 intro hY
 conv=>lhs;simp -dsimp -implicitDefEqProofs (disch:=first|assumption|omega|(simp only[r_z,zak]<;>omega)|decide) only[r_r,↓reduceIte,Nat.reduceEqDiff,Nat.reduceAdd,D.fix,Int.reduceToNat,Nat.reduceMul,Nat.reduceBNe,Nat.reduceBEq,zan,zye,hY]):p:=(h e).mpr hq
theorem jp0{p q:Prop}(hq:q)(h:p=q:=by
 conv=>lhs;simp (disch:=first|assumption|omega|(simp only[r_z,zak]<;>omega)|decide) only[r_c,Nat.reduceAdd,D.fix,↓reduceIte,Nat.reduceEqDiff,zan]):p:=h.mpr hq
theorem jr2{p:Prop}(h:p:=by
 first|rfl|(simp only[r_g,Nat.reduceAdd,↓reduceIte,Nat.reduceEqDiff,zan];first|done|rfl)):p:=h
theorem zyg(a b:List (List Nat))(ha:a.length≤1000000)(hb:b.length≤1000000)(ha1:∀r∈a,r.length≤1000000)(hb1:∀r∈b,r.length≤1000000):zas Try.prog 26 [zan a,zan b] (.d (oD (decide (a=b)))):=by
 refine zau (fn:=Try.f26) (by kernel_rfl) Try.func26 rfl (Nat.le_of_ble_eq_true rfl) fun c hc hp=>?_
 refine zaw (τ':=frL [(0,.d (zan a)),(1,.d (zan b))]) (by repeat (first|exact zal _|refine zaf ?_ (by first|rfl|(simp[r_f,zak];done)|simp[r_f,zak, *]))) ?_
 refine szq hp (fun _ hZ=>zyf hZ) ?_
 refine zab fun K2 hK2=>?_
 refine szq hp (fun _ hZ=>jhj hZ) ?_
 refine zai rfl (fun ht=>?_) (fun ht=>?_)
 ·have hne:a≠b:=fun e=>by rw[e]at ht;simp at ht
  refine szq hp (fun _ hZ=>zyf hZ) ?_
  refine zaq ?_
  show closeA _ _=_
  refine jp0 ?_
  rw[decide_eq_false hne]
 ·have hll:a.length=b.length:=by simp at ht;omega
  refine zah (hK2 _ _ ?_)
  refine zab fun K5 hK5=>?_
  refine szq hp (fun _ hZ=>zyf hZ) ?_
  refine zae ?_
  refine zao hp (fun τ' H' mm=>∃(k:Nat),(k≤a.length∧∀j,j<k→nth a j=nth b j)∧mm=a.length - k∧H'=[]∧τ'=frL [(0,.d (zan a)),(1,.d (zan b)),(5,.d (iD (k:Int)))]) (a.length) ?_ ⟨0,⟨Nat.zero_le _,fun j hj=>absurd hj (by omega)⟩,rfl,rfl,rfl⟩ ?_
  ·refine jr1 ?_
   exact jr2
  rintro τ' H' mm ⟨k,⟨hk,hf⟩,rfl,rfl,rfl⟩
  refine zab fun K7 hK7=>?_
  refine szq hp (fun _ hZ=>jhj hZ) ?_
  refine zai rfl (fun ht=>?_) (fun ht=>?_)
  ·have hlt:k<a.length:=by simp at ht;omega
   have hg1:=zcm (nx:=a) (v:=k) hlt
   have hg2:=zcm (nx:=b) (v:=k) (by omega)
   have hsm:=zr7 (zl (nth a k)) (zl (nth b k)) (by rw[zbe];exact ha1 _ (za3 hlt)) (by rw[zbe];exact hb1 _ (za3 (by omega)))
   rw[zk4,zk4]at hsm
   refine zah (hK7 _ _ ?_)
   refine zab fun K9 hK9=>?_
   refine zae ?_
   refine zbj zam hc mixed rfl (q:=0) (by kernel_rfl) (by kernel_rfl) fun K10 hK10=>?_
   refine jmj (sza hg1 hg2) ?_
   refine zbd (hsm) rfl ?_
   refine jmj (sza hg1 hg2) ?_
   refine hK10 _ _ ?_
   refine zai rfl (fun ht=>?_) (fun ht=>?_)
   ·have hne:a≠b:=fun e=>by rw[e]at ht;simp at ht
    refine szq hp (fun _ hZ=>zyf hZ) ?_
    refine zaq ?_
    show closeA _ _=_
    refine jp0 ?_
    rw[decide_eq_false hne]
   ·have he:nth a k=nth b k:=by
     have:zl (nth a k)=zl (nth b k):=by simpa using ht
     have:=congrArg zl4 this
     rwa[zjv,zjv]at this
    refine zah (hK9 _ _ ?_)
    refine za6 hp zam hc rfl fun K12 hK12=>?_
    refine jhj ?_
    refine hK12 _ _ ⟨_,_,_,?_,⟨k+1,⟨by omega,fun j hj=>(by rcases Nat.lt_or_ge j k with h|h;exact hf j h;rw[show j=k by omega];exact he)⟩,rfl,rfl,rfl⟩,?_⟩
    ·first|omega|(simp only[List.length_cons];omega)|(dsimp only;omega)
    ·refine jr1 ?_
     exact jr2
  ·have hke:k=a.length:=by simp at ht;omega
   subst hke
   refine zat (hK5 _ _ ?_)
   refine szq hp (fun _ hZ=>zyf hZ) ?_
   refine zaq ?_
   show closeA _ _=_
   refine jp0 ?_
   rw[decide_eq_true (zff hll hf)]
def lsD(r:List Nat × Int):D:=.agg [.fs (nsD r.1) r.1.length,iD r.2]
def grD(n:Nat)(es:List Ed):D:=.agg [iD (n:Int),zag es]
theorem jhk{p q r:Prop}(e:r)(hq:q)(h:r→p=q:=by
 intro hY
 conv=>lhs;simp -dsimp -implicitDefEqProofs (disch:=first|assumption|omega|(simp only[r_z]<;>omega)|decide) only[r_r,↓reduceIte,Nat.reduceEqDiff,Nat.reduceAdd,D.fix,Int.reduceToNat,Nat.reduceMul,Nat.reduceBNe,Nat.reduceBEq,lsD,zye,hY]):p:=(h e).mpr hq
theorem jr3{p q:Prop}(hq:q)(h:p=q:=by
 conv=>lhs;simp (disch:=first|assumption|omega|(simp only[r_z]<;>omega)|decide) only[r_c,Nat.reduceAdd,D.fix,↓reduceIte,Nat.reduceEqDiff,lsD]):p:=h.mpr hq
theorem jhl(la lb:List Nat)(ea eb:Int)(ha:la.length≤1000000)(hb:lb.length≤1000000):zas Try.prog 14 [lsD (la,ea),lsD (lb,eb)] (.d (oD (decide ((la,ea)=(lb,eb))))):=by
 have hsm:=zr7 (zl la) (zl lb) (by rw[zbe];exact ha) (by rw[zbe];exact hb)
 rw[zk4,zk4]at hsm
 refine zau (fn:=Try.f14) (by kernel_rfl) Try.func14 rfl (Nat.le_of_ble_eq_true rfl) fun c hc hp=>?_
 refine zaw (τ':=frL [(0,.d (lsD (la,ea))),(1,.d (lsD (lb,eb)))]) (by repeat (first|exact zal _|refine zaf ?_ (by first|rfl|(simp[r_f];done)|simp[r_f, *]))) ?_
 refine zaj hp zam hc rfl fun K1 hK1=>?_
 simp -dsimp -implicitDefEqProofs (disch:=first|assumption|omega|(simp only[r_z]<;>omega)|decide) only[r_r,↓reduceIte,Nat.reduceEqDiff,Nat.reduceAdd,D.fix,Int.reduceToNat,Nat.reduceMul,Nat.reduceBNe,Nat.reduceBEq,lsD,zye]
 refine hK1 _ _ ?_
 refine zaj hp zam hc rfl fun K2 hK2=>?_
 rcases tf (ea==eb)with q1|q1
 ·refine jhk q1 ?_
  refine zbd (hsm) rfl ?_
  refine jhk q1 ?_
  refine hK2 _ _ ?_
  refine zaq ?_
  show closeA _ _=_
  refine jr3 ?_
  have q2:ea=eb:=by simpa using q1
  have:(zl la==zl lb)=decide ((la,ea)=(lb,eb)):=by
   rw[Bool.eq_iff_iff,beq_iff_eq,decide_eq_true_eq,q2,Prod.mk.injEq,and_iff_left rfl]
   exact⟨fun h=>by have:=congrArg zl4 h;rwa[zjv,zjv]at this,fun h=>by rw[h]⟩
  rw[this]
 ·refine jhk q1 ?_
  refine hK2 _ _ ?_
  refine zaq ?_
  show closeA _ _=_
  refine jr3 ?_
  have q2:ea≠eb:=by simpa using q1
  rw[decide_eq_false (fun h=>q2 (Prod.mk.inj h).2)]
end Go.Proofs.Ytfolbdkbpmgjgaa
