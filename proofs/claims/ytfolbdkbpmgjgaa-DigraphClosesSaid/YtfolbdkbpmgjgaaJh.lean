/- The laws' helpers: Same, Alike, SameLists, In, the wrapped calls. -/
import Derived.Test.YtfolbdkbpmgjgaaQr
import Derived.Test.YtfolbdkbpmgjgaaJf
import Derived.Test.YtfolbdkbpmgjgaaKo
set_option linter.unusedVariables false
set_option linter.unusedSimpArgs false
set_option maxRecDepth 100000
set_option maxHeartbeats 4000000
namespace Go.Proofs.Ytfolbdkbpmgjgaa
open Go Go.RowKit
theorem zw6:((((type_of% @zc7)∧(type_of% @zc8))∧((type_of% @zdj)∧((type_of% @zgp)∧(type_of% @zgq))))∧(((type_of% @zes)∧(type_of% @zlc))∧((type_of% @zyq)∧((type_of% @zyr)∧(type_of% @zla))))):=⟨⟨⟨@zc7,@zc8⟩,⟨@zdj,⟨@zgp,@zgq⟩⟩⟩,⟨⟨@zes,@zlc⟩,⟨@zyq,⟨@zyr,@zla⟩⟩⟩⟩
theorem zjl(l:List Nat):intsD (zl l)= .fs (nsD l) l.length:=by unfold intsD;rw[za5];rfl
theorem jch{a b:List Int}(h:a≠b):(a==b)=false:=beq_eq_false_iff_ne.2 h
theorem jkb{a b:List Int}(h:a=b):(a==b)=true:=beq_iff_eq.2 h
theorem zlt{p q:Prop}(hq:q)(h:p=q:=by
 conv=>lhs;simp -dsimp -implicitDefEqProofs (disch:=first|assumption|omega|(simp only[r_z]<;>omega)|decide) only[r_r,↓reduceIte,Nat.reduceEqDiff,Nat.reduceAdd,D.fix,Int.reduceToNat,Nat.reduceMul,Nat.reduceBNe,Nat.reduceBEq]):p:=h.mpr hq
theorem zo3{p q:Prop}(hq:q)(h:p=q:=by
 conv=>lhs;simp -dsimp -implicitDefEqProofs (disch:=first|assumption|omega|(simp only[r_z]<;>omega)|decide) only[r_r,↓reduceIte,Nat.reduceEqDiff,Nat.reduceAdd,D.fix,Int.reduceToNat,Nat.reduceMul,Nat.reduceBNe,Nat.reduceBEq,zw6]):p:=h.mpr hq
theorem jlh{m:List Nat}{τ τ':Fr}{H H':zaa}(h2:H=H')(h:zgm τ τ':=by
 repeat (first|exact zah _|refine zac ?_ (by first|rfl|(simp[r_f];done)|simp[r_f, *]))):Rt m τ H τ' H':=Rt.end h h2
theorem jkc{p q:Prop}(hq:q)(h:p=q:=by
 conv=>lhs;simp (disch:=first|assumption|omega|(simp only[r_z]<;>omega)|decide) only[r_c,Nat.reduceAdd,D.fix,↓reduceIte,Nat.reduceEqDiff]):p:=h.mpr hq
theorem jli{p:Prop}(h:p:=by
 first|rfl|(simp only[r_g,Nat.reduceAdd,↓reduceIte,Nat.reduceEqDiff];first|done|rfl)):p:=h
theorem zw7(a b:List Int)(ha:a.length≤1000000)(hb:b.length≤1000000):zaq Try.prog 23 [intsD a,intsD b] (.d (oD (a==b))):=by
 refine zay (fn:=Try.f23) (by kernel_rfl) Try.func23 rfl (Nat.le_of_ble_eq_true rfl) fun c hc hp=>?_
 refine zau (τ':=frL [(0,.d (intsD a)),(1,.d (intsD b))]) (by repeat (first|exact zah _|refine zac ?_ (by first|rfl|(simp[r_f];done)|simp[r_f, *]))) ?_
 refine szq hp (fun _ hZ=>zlt hZ) ?_
 refine zab fun K2 hK2=>?_
 refine szq hp (fun _ hZ=>zo3 hZ) ?_
 refine zam rfl (fun ht=>?_) (fun ht=>?_)
 ·have hne:a≠b:=fun e=>by rw[e]at ht;simp at ht
  refine szq hp (fun _ hZ=>zlt hZ) ?_
  refine zar ?_
  show closeA _ _=_
  refine jkc ?_
  rw[jch hne]
 ·have hll:a.length=b.length:=by simp at ht;omega
  refine zak (hK2 _ _ ?_)
  refine zab fun K5 hK5=>?_
  refine szq hp (fun _ hZ=>zlt hZ) ?_
  refine zaf ?_
  refine zas hp (fun τ' H' mm=>∃(k:Nat),(k≤a.length∧∀j,j<k→nth a j=nth b j)∧mm=a.length - k∧H'=[]∧τ'=frL [(0,.d (intsD a)),(1,.d (intsD b)),(5,.d (iD (k:Int)))]) (a.length) ?_ ⟨0,⟨Nat.zero_le _,fun j hj=>absurd hj (by omega)⟩,rfl,rfl,rfl⟩ ?_
  ·refine jlh ?_
   exact jli
  rintro τ' H' mm ⟨k,⟨hk,hf⟩,rfl,rfl,rfl⟩
  refine zab fun K7 hK7=>?_
  refine szq hp (fun _ hZ=>zo3 hZ) ?_
  refine zam rfl (fun ht=>?_) (fun ht=>?_)
  ·have hlt:k<a.length:=by simp at ht;omega
   refine zak (hK7 _ _ ?_)
   refine zab fun K9 hK9=>?_
   refine zaf ?_
   refine zbk zao hc mixed rfl (q:=0) (by kernel_rfl) (by kernel_rfl) fun K10 hK10=>?_
   refine zo3 ?_
   refine hK10 _ _ ?_
   refine zam rfl (fun ht=>?_) (fun ht=>?_)
   ·have hne:a≠b:=fun e=>by rw[e]at ht;simp at ht
    refine szq hp (fun _ hZ=>zlt hZ) ?_
    refine zar ?_
    show closeA _ _=_
    refine jkc ?_
    rw[jch hne]
   ·have he:nth a k=nth b k:=by simpa using ht
    refine zak (hK9 _ _ ?_)
    refine zbj hp zao hc rfl fun K12 hK12=>?_
    refine zo3 ?_
    refine hK12 _ _ ⟨_,_,_,?_,⟨k+1,⟨by omega,fun j hj=>(by rcases Nat.lt_or_ge j k with h|h;exact hf j h;rw[show j=k by omega];exact he)⟩,rfl,rfl,rfl⟩,?_⟩
    ·first|omega|(simp only[List.length_cons];omega)|(dsimp only;omega)
    ·refine jlh ?_
     exact jli
  ·have hke:k=a.length:=by simp at ht;omega
   subst hke
   refine za0 (hK5 _ _ ?_)
   refine szq hp (fun _ hZ=>zlt hZ) ?_
   refine zar ?_
   show closeA _ _=_
   refine jkc ?_
   rw[jkb (zix hll hf)]
theorem jo8(l:List Int)(v:Int)(hl:l.length≤1000000):zaq Try.prog 31 [intsD l,iD v] (.d (oD (decide (v∈l)))):=by
 refine zay (fn:=Try.f31) (by kernel_rfl) Try.func31 rfl (Nat.le_of_ble_eq_true rfl) fun c hc hp=>?_
 refine zau (τ':=frL [(0,.d (intsD l)),(1,.d (iD v))]) (by repeat (first|exact zah _|refine zac ?_ (by first|rfl|(simp[r_f];done)|simp[r_f, *]))) ?_
 refine szq hp (fun _ hZ=>zlt hZ) ?_
 refine zab fun K2 hK2=>?_
 refine szq hp (fun _ hZ=>zlt hZ) ?_
 refine zaf ?_
 refine zas hp (fun τ' H' mm=>∃(k:Nat),(k≤l.length∧∀j,j<k→nth l j≠v)∧mm=l.length - k∧H'=[]∧τ'=frL [(0,.d (intsD l)),(1,.d (iD v)),(5,.d (iD (k:Int)))]) (l.length) ?_ ⟨0,⟨Nat.zero_le _,fun j hj=>absurd hj (by omega)⟩,rfl,rfl,rfl⟩ ?_
 ·refine jlh ?_
  exact jli
 rintro τ' H' mm ⟨k,⟨hk,hf⟩,rfl,rfl,rfl⟩
 refine zab fun K4 hK4=>?_
 refine szq hp (fun _ hZ=>zo3 hZ) ?_
 refine zam rfl (fun ht=>?_) (fun ht=>?_)
 ·have hlt:k<l.length:=by simp at ht;omega
  refine zak (hK4 _ _ ?_)
  refine zab fun K6 hK6=>?_
  refine zaf ?_
  refine szq hp (fun _ hZ=>zo3 hZ) ?_
  refine zam rfl (fun ht=>?_) (fun ht=>?_)
  ·have he:nth l k=v:=by simpa using ht
   have hin:v∈l:=he▸zbe hlt
   refine szq hp (fun _ hZ=>zlt hZ) ?_
   refine zar ?_
   show closeA _ _=_
   refine jkc ?_
   rw[decide_eq_true hin]
  ·have he:nth l k≠v:=by simpa using ht
   refine zak (hK6 _ _ ?_)
   refine zbj hp zao hc rfl fun K9 hK9=>?_
   refine zo3 ?_
   refine hK9 _ _ ⟨_,_,_,?_,⟨k+1,⟨by omega,fun j hj=>(by rcases Nat.lt_or_ge j k with h|h;exact hf j h;rw[show j=k by omega];exact he)⟩,rfl,rfl,rfl⟩,?_⟩
   ·first|omega|(simp only[List.length_cons];omega)|(dsimp only;omega)
   ·refine jlh ?_
    exact jli
 ·have hke:k=l.length:=by simp at ht;omega
  subst hke
  have hno:v∉l:=fun hm=>by
   obtain⟨j,hj,e⟩:=List.getElem_of_mem hm
   exact hf j hj (by rw[za1 hj];exact e)
  refine za0 (hK2 _ _ ?_)
  refine szq hp (fun _ hZ=>zlt hZ) ?_
  refine zar ?_
  show closeA _ _=_
  refine jkc ?_
  rw[decide_eq_false hno]
theorem zw8{p q:Prop}(hq:q)(h:p=q:=by
 conv=>lhs;simp -dsimp -implicitDefEqProofs (disch:=first|assumption|omega|(simp only[r_z,zag]<;>omega)|decide) only[r_r,↓reduceIte,Nat.reduceEqDiff,Nat.reduceAdd,D.fix,Int.reduceToNat,Nat.reduceMul,Nat.reduceBNe,Nat.reduceBEq,zai]):p:=h.mpr hq
theorem jfv{p q:Prop}(hq:q)(h:p=q:=by
 conv=>lhs;simp -dsimp -implicitDefEqProofs (disch:=first|assumption|omega|(simp only[r_z,zag]<;>omega)|decide) only[r_r,↓reduceIte,Nat.reduceEqDiff,Nat.reduceAdd,D.fix,Int.reduceToNat,Nat.reduceMul,Nat.reduceBNe,Nat.reduceBEq,zai,zw6]):p:=h.mpr hq
theorem joq{m:List Nat}{τ τ':Fr}{H H':zaa}(h2:H=H')(h:zgm τ τ':=by
 repeat (first|exact zah _|refine zac ?_ (by first|rfl|(simp[r_f,zag];done)|simp[r_f,zag, *]))):Rt m τ H τ' H':=Rt.end h h2
theorem jkd{p q r:Prop}(e:r)(hq:q)(h:r→p=q:=by
 intro hY
 conv=>lhs;simp -dsimp -implicitDefEqProofs (disch:=first|assumption|omega|(simp only[r_z,zag]<;>omega)|decide) only[r_r,↓reduceIte,Nat.reduceEqDiff,Nat.reduceAdd,D.fix,Int.reduceToNat,Nat.reduceMul,Nat.reduceBNe,Nat.reduceBEq,zai,zw6,hY]):p:=(h e).mpr hq
theorem jmz{p q:Prop}(hq:q)(h:p=q:=by
 conv=>lhs;simp (disch:=first|assumption|omega|(simp only[r_z,zag]<;>omega)|decide) only[r_c,Nat.reduceAdd,D.fix,↓reduceIte,Nat.reduceEqDiff,zai]):p:=h.mpr hq
theorem jor{p:Prop}(h:p:=by
 first|rfl|(simp only[r_g,Nat.reduceAdd,↓reduceIte,Nat.reduceEqDiff,zai];first|done|rfl)):p:=h
theorem zw9(a b:List (List Nat))(ha:a.length≤1000000)(hb:b.length≤1000000)(ha1:∀r∈a,r.length≤1000000)(hb1:∀r∈b,r.length≤1000000):zaq Try.prog 26 [zai a,zai b] (.d (oD (decide (a=b)))):=by
 refine zay (fn:=Try.f26) (by kernel_rfl) Try.func26 rfl (Nat.le_of_ble_eq_true rfl) fun c hc hp=>?_
 refine zau (τ':=frL [(0,.d (zai a)),(1,.d (zai b))]) (by repeat (first|exact zah _|refine zac ?_ (by first|rfl|(simp[r_f,zag];done)|simp[r_f,zag, *]))) ?_
 refine szq hp (fun _ hZ=>zw8 hZ) ?_
 refine zab fun K2 hK2=>?_
 refine szq hp (fun _ hZ=>jfv hZ) ?_
 refine zam rfl (fun ht=>?_) (fun ht=>?_)
 ·have hne:a≠b:=fun e=>by rw[e]at ht;simp at ht
  refine szq hp (fun _ hZ=>zw8 hZ) ?_
  refine zar ?_
  show closeA _ _=_
  refine jmz ?_
  rw[decide_eq_false hne]
 ·have hll:a.length=b.length:=by simp at ht;omega
  refine zak (hK2 _ _ ?_)
  refine zab fun K5 hK5=>?_
  refine szq hp (fun _ hZ=>zw8 hZ) ?_
  refine zaf ?_
  refine zas hp (fun τ' H' mm=>∃(k:Nat),(k≤a.length∧∀j,j<k→nth a j=nth b j)∧mm=a.length - k∧H'=[]∧τ'=frL [(0,.d (zai a)),(1,.d (zai b)),(5,.d (iD (k:Int)))]) (a.length) ?_ ⟨0,⟨Nat.zero_le _,fun j hj=>absurd hj (by omega)⟩,rfl,rfl,rfl⟩ ?_
  ·refine joq ?_
   exact jor
  rintro τ' H' mm ⟨k,⟨hk,hf⟩,rfl,rfl,rfl⟩
  refine zab fun K7 hK7=>?_
  refine szq hp (fun _ hZ=>jfv hZ) ?_
  refine zam rfl (fun ht=>?_) (fun ht=>?_)
  ·have hlt:k<a.length:=by simp at ht;omega
   have hg1:=zcu (nx:=a) (v:=k) hlt
   have hg2:=zcu (nx:=b) (v:=k) (by omega)
   have hsm:=zw7 (zl (nth a k)) (zl (nth b k)) (by rw[za5];exact ha1 _ (zbe hlt)) (by rw[za5];exact hb1 _ (zbe (by omega)))
   rw[zjl,zjl]at hsm
   refine zak (hK7 _ _ ?_)
   refine zab fun K9 hK9=>?_
   refine zaf ?_
   refine zbk zao hc mixed rfl (q:=0) (by kernel_rfl) (by kernel_rfl) fun K10 hK10=>?_
   refine jkd (sza hg1 hg2) ?_
   refine zbb (hsm) rfl ?_
   refine jkd (sza hg1 hg2) ?_
   refine hK10 _ _ ?_
   refine zam rfl (fun ht=>?_) (fun ht=>?_)
   ·have hne:a≠b:=fun e=>by rw[e]at ht;simp at ht
    refine szq hp (fun _ hZ=>zw8 hZ) ?_
    refine zar ?_
    show closeA _ _=_
    refine jmz ?_
    rw[decide_eq_false hne]
   ·have he:nth a k=nth b k:=by
     have:zl (nth a k)=zl (nth b k):=by simpa using ht
     have:=congrArg zll this
     rwa[zjc,zjc]at this
    refine zak (hK9 _ _ ?_)
    refine zbj hp zao hc rfl fun K12 hK12=>?_
    refine jfv ?_
    refine hK12 _ _ ⟨_,_,_,?_,⟨k+1,⟨by omega,fun j hj=>(by rcases Nat.lt_or_ge j k with h|h;exact hf j h;rw[show j=k by omega];exact he)⟩,rfl,rfl,rfl⟩,?_⟩
    ·first|omega|(simp only[List.length_cons];omega)|(dsimp only;omega)
    ·refine joq ?_
     exact jor
  ·have hke:k=a.length:=by simp at ht;omega
   subst hke
   refine za0 (hK5 _ _ ?_)
   refine szq hp (fun _ hZ=>zw8 hZ) ?_
   refine zar ?_
   show closeA _ _=_
   refine jmz ?_
   rw[decide_eq_true (zix hll hf)]
def lsD(r:List Nat × Int):D:=.agg [.fs (nsD r.1) r.1.length,iD r.2]
def grD(n:Nat)(es:List Ed):D:=.agg [iD (n:Int),zal es]
theorem jfw{p q r:Prop}(e:r)(hq:q)(h:r→p=q:=by
 intro hY
 conv=>lhs;simp -dsimp -implicitDefEqProofs (disch:=first|assumption|omega|(simp only[r_z]<;>omega)|decide) only[r_r,↓reduceIte,Nat.reduceEqDiff,Nat.reduceAdd,D.fix,Int.reduceToNat,Nat.reduceMul,Nat.reduceBNe,Nat.reduceBEq,lsD,zw6,hY]):p:=(h e).mpr hq
theorem jos{p q:Prop}(hq:q)(h:p=q:=by
 conv=>lhs;simp (disch:=first|assumption|omega|(simp only[r_z]<;>omega)|decide) only[r_c,Nat.reduceAdd,D.fix,↓reduceIte,Nat.reduceEqDiff,lsD]):p:=h.mpr hq
theorem jfx(la lb:List Nat)(ea eb:Int)(ha:la.length≤1000000)(hb:lb.length≤1000000):zaq Try.prog 14 [lsD (la,ea),lsD (lb,eb)] (.d (oD (decide ((la,ea)=(lb,eb))))):=by
 have hsm:=zw7 (zl la) (zl lb) (by rw[za5];exact ha) (by rw[za5];exact hb)
 rw[zjl,zjl]at hsm
 refine zay (fn:=Try.f14) (by kernel_rfl) Try.func14 rfl (Nat.le_of_ble_eq_true rfl) fun c hc hp=>?_
 refine zau (τ':=frL [(0,.d (lsD (la,ea))),(1,.d (lsD (lb,eb)))]) (by repeat (first|exact zah _|refine zac ?_ (by first|rfl|(simp[r_f];done)|simp[r_f, *]))) ?_
 refine zad hp zao hc rfl fun K1 hK1=>?_
 simp -dsimp -implicitDefEqProofs (disch:=first|assumption|omega|(simp only[r_z]<;>omega)|decide) only[r_r,↓reduceIte,Nat.reduceEqDiff,Nat.reduceAdd,D.fix,Int.reduceToNat,Nat.reduceMul,Nat.reduceBNe,Nat.reduceBEq,lsD,zw6]
 refine hK1 _ _ ?_
 refine zad hp zao hc rfl fun K2 hK2=>?_
 rcases tf (ea==eb)with q1|q1
 ·refine jfw q1 ?_
  refine zbb (hsm) rfl ?_
  refine jfw q1 ?_
  refine hK2 _ _ ?_
  refine zar ?_
  show closeA _ _=_
  refine jos ?_
  have q2:ea=eb:=by simpa using q1
  have:(zl la==zl lb)=decide ((la,ea)=(lb,eb)):=by
   rw[Bool.eq_iff_iff,beq_iff_eq,decide_eq_true_eq,q2,Prod.mk.injEq,and_iff_left rfl]
   exact⟨fun h=>by have:=congrArg zll h;rwa[zjc,zjc]at this,fun h=>by rw[h]⟩
  rw[this]
 ·refine jfw q1 ?_
  refine hK2 _ _ ?_
  refine zar ?_
  show closeA _ _=_
  refine jos ?_
  have q2:ea≠eb:=by simpa using q1
  rw[decide_eq_false (fun h=>q2 (Prod.mk.inj h).2)]
end Go.Proofs.Ytfolbdkbpmgjgaa
