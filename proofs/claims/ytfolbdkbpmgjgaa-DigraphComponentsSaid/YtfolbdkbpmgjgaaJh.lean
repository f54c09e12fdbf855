/- The laws' helpers: Same, Alike, SameLists, In, the wrapped calls. -/
import Derived.Test.YtfolbdkbpmgjgaaQr
import Derived.Test.YtfolbdkbpmgjgaaJf
import Derived.Test.YtfolbdkbpmgjgaaKo
set_option linter.unusedVariables false
set_option linter.unusedSimpArgs false
set_option maxRecDepth 100000
set_option maxHeartbeats 4000000
namespace Go.Proofs.Ytfolbdkbpmgjgaa
open Go Go.RowKit
theorem zwi:((((type_of% @zc5)∧(type_of% @zc6))∧((type_of% @zdg)∧((type_of% @zg1)∧(type_of% @zg2))))∧(((type_of% @zd4)∧(type_of% @zur))∧((type_of% @jhh)∧((type_of% @jhi)∧(type_of% @zuq))))):=⟨⟨⟨@zc5,@zc6⟩,⟨@zdg,⟨@zg1,@zg2⟩⟩⟩,⟨⟨@zd4,@zur⟩,⟨@jhh,⟨@jhi,@zuq⟩⟩⟩⟩
theorem zka(l:List Nat):intsD (zl l)= .fs (nsD l) l.length:=by unfold intsD;rw[za6];rfl
theorem jbq{a b:List Int}(h:a≠b):(a==b)=false:=beq_eq_false_iff_ne.2 h
theorem jjo{a b:List Int}(h:a=b):(a==b)=true:=beq_iff_eq.2 h
theorem zlh{p q:Prop}(hq:q)(h:p=q:=by
 conv=>lhs;simp -dsimp -implicitDefEqProofs (disch:=first|assumption|omega|(simp only[r_z]<;>omega)|decide) only[r_r,↓reduceIte,Nat.reduceEqDiff,Nat.reduceAdd,D.fix,Int.reduceToNat,Nat.reduceMul,Nat.reduceBNe,Nat.reduceBEq]):p:=h.mpr hq
theorem zoq{p q:Prop}(hq:q)(h:p=q:=by
 conv=>lhs;simp -dsimp -implicitDefEqProofs (disch:=first|assumption|omega|(simp only[r_z]<;>omega)|decide) only[r_r,↓reduceIte,Nat.reduceEqDiff,Nat.reduceAdd,D.fix,Int.reduceToNat,Nat.reduceMul,Nat.reduceBNe,Nat.reduceBEq,zwi]):p:=h.mpr hq
theorem jkq{m:List Nat}{τ τ':Fr}{H H':zaa}(h2:H=H')(h:zgq τ τ':=by
 repeat (first|exact zaj _|refine zac ?_ (by first|rfl|(simp[r_f];done)|simp[r_f, *]))):Rt m τ H τ' H':=Rt.end h h2
theorem jjp{p q:Prop}(hq:q)(h:p=q:=by
 conv=>lhs;simp (disch:=first|assumption|omega|(simp only[r_z]<;>omega)|decide) only[r_c,Nat.reduceAdd,D.fix,↓reduceIte,Nat.reduceEqDiff]):p:=h.mpr hq
theorem jkr{p:Prop}(h:p:=by
 first|rfl|(simp only[r_g,Nat.reduceAdd,↓reduceIte,Nat.reduceEqDiff];first|done|rfl)):p:=h
theorem zwj(a b:List Int)(ha:a.length≤1000000)(hb:b.length≤1000000):zar Try.prog 23 [intsD a,intsD b] (.d (oD (a==b))):=by
 refine zay (fn:=Try.f23) (by kernel_rfl) Try.func23 rfl (Nat.le_of_ble_eq_true rfl) fun c hc hp=>?_
 refine zav (τ':=frL [(0,.d (intsD a)),(1,.d (intsD b))]) (by repeat (first|exact zaj _|refine zac ?_ (by first|rfl|(simp[r_f];done)|simp[r_f, *]))) ?_
 refine szq hp (fun _ hZ=>zlh hZ) ?_
 refine zab fun K2 hK2=>?_
 refine szq hp (fun _ hZ=>zoq hZ) ?_
 refine zal rfl (fun ht=>?_) (fun ht=>?_)
 ·have hne:a≠b:=fun e=>by rw[e]at ht;simp at ht
  refine szq hp (fun _ hZ=>zlh hZ) ?_
  refine zas ?_
  show closeA _ _=_
  refine jjp ?_
  rw[jbq hne]
 ·have hll:a.length=b.length:=by simp at ht;omega
  refine zah (hK2 _ _ ?_)
  refine zab fun K5 hK5=>?_
  refine szq hp (fun _ hZ=>zlh hZ) ?_
  refine zae ?_
  refine zaq hp (fun τ' H' mm=>∃(k:Nat),(k≤a.length∧∀j,j<k→nth a j=nth b j)∧mm=a.length - k∧H'=[]∧τ'=frL [(0,.d (intsD a)),(1,.d (intsD b)),(5,.d (iD (k:Int)))]) (a.length) ?_ ⟨0,⟨Nat.zero_le _,fun j hj=>absurd hj (by omega)⟩,rfl,rfl,rfl⟩ ?_
  ·refine jkq ?_
   exact jkr
  rintro τ' H' mm ⟨k,⟨hk,hf⟩,rfl,rfl,rfl⟩
  refine zab fun K7 hK7=>?_
  refine szq hp (fun _ hZ=>zoq hZ) ?_
  refine zal rfl (fun ht=>?_) (fun ht=>?_)
  ·have hlt:k<a.length:=by simp at ht;omega
   refine zah (hK7 _ _ ?_)
   refine zab fun K9 hK9=>?_
   refine zae ?_
   refine zba zam hc mixed rfl (q:=0) (by kernel_rfl) (by kernel_rfl) fun K10 hK10=>?_
   refine zoq ?_
   refine hK10 _ _ ?_
   refine zal rfl (fun ht=>?_) (fun ht=>?_)
   ·have hne:a≠b:=fun e=>by rw[e]at ht;simp at ht
    refine szq hp (fun _ hZ=>zlh hZ) ?_
    refine zas ?_
    show closeA _ _=_
    refine jjp ?_
    rw[jbq hne]
   ·have he:nth a k=nth b k:=by simpa using ht
    refine zah (hK9 _ _ ?_)
    refine zbc hp zam hc rfl fun K12 hK12=>?_
    refine zoq ?_
    refine hK12 _ _ ⟨_,_,_,?_,⟨k+1,⟨by omega,fun j hj=>(by rcases Nat.lt_or_ge j k with h|h;exact hf j h;rw[show j=k by omega];exact he)⟩,rfl,rfl,rfl⟩,?_⟩
    ·first|omega|(simp only[List.length_cons];omega)|(dsimp only;omega)
    ·refine jkq ?_
     exact jkr
  ·have hke:k=a.length:=by simp at ht;omega
   subst hke
   refine zaz (hK5 _ _ ?_)
   refine szq hp (fun _ hZ=>zlh hZ) ?_
   refine zas ?_
   show closeA _ _=_
   refine jjp ?_
   rw[jjo (zin hll hf)]
theorem joq(l:List Int)(v:Int)(hl:l.length≤1000000):zar Try.prog 31 [intsD l,iD v] (.d (oD (decide (v∈l)))):=by
 refine zay (fn:=Try.f31) (by kernel_rfl) Try.func31 rfl (Nat.le_of_ble_eq_true rfl) fun c hc hp=>?_
 refine zav (τ':=frL [(0,.d (intsD l)),(1,.d (iD v))]) (by repeat (first|exact zaj _|refine zac ?_ (by first|rfl|(simp[r_f];done)|simp[r_f, *]))) ?_
 refine szq hp (fun _ hZ=>zlh hZ) ?_
 refine zab fun K2 hK2=>?_
 refine szq hp (fun _ hZ=>zlh hZ) ?_
 refine zae ?_
 refine zaq hp (fun τ' H' mm=>∃(k:Nat),(k≤l.length∧∀j,j<k→nth l j≠v)∧mm=l.length - k∧H'=[]∧τ'=frL [(0,.d (intsD l)),(1,.d (iD v)),(5,.d (iD (k:Int)))]) (l.length) ?_ ⟨0,⟨Nat.zero_le _,fun j hj=>absurd hj (by omega)⟩,rfl,rfl,rfl⟩ ?_
 ·refine jkq ?_
  exact jkr
 rintro τ' H' mm ⟨k,⟨hk,hf⟩,rfl,rfl,rfl⟩
 refine zab fun K4 hK4=>?_
 refine szq hp (fun _ hZ=>zoq hZ) ?_
 refine zal rfl (fun ht=>?_) (fun ht=>?_)
 ·have hlt:k<l.length:=by simp at ht;omega
  refine zah (hK4 _ _ ?_)
  refine zab fun K6 hK6=>?_
  refine zae ?_
  refine szq hp (fun _ hZ=>zoq hZ) ?_
  refine zal rfl (fun ht=>?_) (fun ht=>?_)
  ·have he:nth l k=v:=by simpa using ht
   have hin:v∈l:=he▸za9 hlt
   refine szq hp (fun _ hZ=>zlh hZ) ?_
   refine zas ?_
   show closeA _ _=_
   refine jjp ?_
   rw[decide_eq_true hin]
  ·have he:nth l k≠v:=by simpa using ht
   refine zah (hK6 _ _ ?_)
   refine zbc hp zam hc rfl fun K9 hK9=>?_
   refine zoq ?_
   refine hK9 _ _ ⟨_,_,_,?_,⟨k+1,⟨by omega,fun j hj=>(by rcases Nat.lt_or_ge j k with h|h;exact hf j h;rw[show j=k by omega];exact he)⟩,rfl,rfl,rfl⟩,?_⟩
   ·first|omega|(simp only[List.length_cons];omega)|(dsimp only;omega)
   ·refine jkq ?_
    exact jkr
 ·have hke:k=l.length:=by simp at ht;omega
  subst hke
  have hno:v∉l:=fun hm=>by
   obtain⟨j,hj,e⟩:=List.getElem_of_mem hm
   exact hf j hj (by rw[za0 hj];exact e)
  refine zaz (hK2 _ _ ?_)
  refine szq hp (fun _ hZ=>zlh hZ) ?_
  refine zas ?_
  show closeA _ _=_
  refine jjp ?_
  rw[decide_eq_false hno]
theorem zwk{p q:Prop}(hq:q)(h:p=q:=by
 conv=>lhs;simp -dsimp -implicitDefEqProofs (disch:=first|assumption|omega|(simp only[r_z,zad]<;>omega)|decide) only[r_r,↓reduceIte,Nat.reduceEqDiff,Nat.reduceAdd,D.fix,Int.reduceToNat,Nat.reduceMul,Nat.reduceBNe,Nat.reduceBEq,zai]):p:=h.mpr hq
theorem je7{p q:Prop}(hq:q)(h:p=q:=by
 conv=>lhs;simp -dsimp -implicitDefEqProofs (disch:=first|assumption|omega|(simp only[r_z,zad]<;>omega)|decide) only[r_r,↓reduceIte,Nat.reduceEqDiff,Nat.reduceAdd,D.fix,Int.reduceToNat,Nat.reduceMul,Nat.reduceBNe,Nat.reduceBEq,zai,zwi]):p:=h.mpr hq
theorem jn8{m:List Nat}{τ τ':Fr}{H H':zaa}(h2:H=H')(h:zgq τ τ':=by
 repeat (first|exact zaj _|refine zac ?_ (by first|rfl|(simp[r_f,zad];done)|simp[r_f,zad, *]))):Rt m τ H τ' H':=Rt.end h h2
theorem jjq{p q r:Prop}(e:r)(hq:q)(h:r→p=q:=by
 intro hY
 conv=>lhs;simp -dsimp -implicitDefEqProofs (disch:=first|assumption|omega|(simp only[r_z,zad]<;>omega)|decide) only[r_r,↓reduceIte,Nat.reduceEqDiff,Nat.reduceAdd,D.fix,Int.reduceToNat,Nat.reduceMul,Nat.reduceBNe,Nat.reduceBEq,zai,zwi,hY]):p:=(h e).mpr hq
theorem jl9{p q:Prop}(hq:q)(h:p=q:=by
 conv=>lhs;simp (disch:=first|assumption|omega|(simp only[r_z,zad]<;>omega)|decide) only[r_c,Nat.reduceAdd,D.fix,↓reduceIte,Nat.reduceEqDiff,zai]):p:=h.mpr hq
theorem jn9{p:Prop}(h:p:=by
 first|rfl|(simp only[r_g,Nat.reduceAdd,↓reduceIte,Nat.reduceEqDiff,zai];first|done|rfl)):p:=h
theorem je8(a b:List (List Nat))(ha:a.length≤1000000)(hb:b.length≤1000000)(ha1:∀r∈a,r.length≤1000000)(hb1:∀r∈b,r.length≤1000000):zar Try.prog 26 [zai a,zai b] (.d (oD (decide (a=b)))):=by
 refine zay (fn:=Try.f26) (by kernel_rfl) Try.func26 rfl (Nat.le_of_ble_eq_true rfl) fun c hc hp=>?_
 refine zav (τ':=frL [(0,.d (zai a)),(1,.d (zai b))]) (by repeat (first|exact zaj _|refine zac ?_ (by first|rfl|(simp[r_f,zad];done)|simp[r_f,zad, *]))) ?_
 refine szq hp (fun _ hZ=>zwk hZ) ?_
 refine zab fun K2 hK2=>?_
 refine szq hp (fun _ hZ=>je7 hZ) ?_
 refine zal rfl (fun ht=>?_) (fun ht=>?_)
 ·have hne:a≠b:=fun e=>by rw[e]at ht;simp at ht
  refine szq hp (fun _ hZ=>zwk hZ) ?_
  refine zas ?_
  show closeA _ _=_
  refine jl9 ?_
  rw[decide_eq_false hne]
 ·have hll:a.length=b.length:=by simp at ht;omega
  refine zah (hK2 _ _ ?_)
  refine zab fun K5 hK5=>?_
  refine szq hp (fun _ hZ=>zwk hZ) ?_
  refine zae ?_
  refine zaq hp (fun τ' H' mm=>∃(k:Nat),(k≤a.length∧∀j,j<k→nth a j=nth b j)∧mm=a.length - k∧H'=[]∧τ'=frL [(0,.d (zai a)),(1,.d (zai b)),(5,.d (iD (k:Int)))]) (a.length) ?_ ⟨0,⟨Nat.zero_le _,fun j hj=>absurd hj (by omega)⟩,rfl,rfl,rfl⟩ ?_
  ·refine jn8 ?_
   exact jn9
  rintro τ' H' mm ⟨k,⟨hk,hf⟩,rfl,rfl,rfl⟩
  refine zab fun K7 hK7=>?_
  refine szq hp (fun _ hZ=>je7 hZ) ?_
  refine zal rfl (fun ht=>?_) (fun ht=>?_)
  ·have hlt:k<a.length:=by simp at ht;omega
   have hg1:=zca (nx:=a) (v:=k) hlt
   have hg2:=zca (nx:=b) (v:=k) (by omega)
   have hsm:=zwj (zl (nth a k)) (zl (nth b k)) (by rw[za6];exact ha1 _ (za9 hlt)) (by rw[za6];exact hb1 _ (za9 (by omega)))
   rw[zka,zka]at hsm
   refine zah (hK7 _ _ ?_)
   refine zab fun K9 hK9=>?_
   refine zae ?_
   refine zba zam hc mixed rfl (q:=0) (by kernel_rfl) (by kernel_rfl) fun K10 hK10=>?_
   refine jjq (sza hg1 hg2) ?_
   refine zbj (hsm) rfl ?_
   refine jjq (sza hg1 hg2) ?_
   refine hK10 _ _ ?_
   refine zal rfl (fun ht=>?_) (fun ht=>?_)
   ·have hne:a≠b:=fun e=>by rw[e]at ht;simp at ht
    refine szq hp (fun _ hZ=>zwk hZ) ?_
    refine zas ?_
    show closeA _ _=_
    refine jl9 ?_
    rw[decide_eq_false hne]
   ·have he:nth a k=nth b k:=by
     have:zl (nth a k)=zl (nth b k):=by simpa using ht
     have:=congrArg zk8 this
     rwa[zi5,zi5]at this
    refine zah (hK9 _ _ ?_)
    refine zbc hp zam hc rfl fun K12 hK12=>?_
    refine je7 ?_
    refine hK12 _ _ ⟨_,_,_,?_,⟨k+1,⟨by omega,fun j hj=>(by rcases Nat.lt_or_ge j k with h|h;exact hf j h;rw[show j=k by omega];exact he)⟩,rfl,rfl,rfl⟩,?_⟩
    ·first|omega|(simp only[List.length_cons];omega)|(dsimp only;omega)
    ·refine jn8 ?_
     exact jn9
  ·have hke:k=a.length:=by simp at ht;omega
   subst hke
   refine zaz (hK5 _ _ ?_)
   refine szq hp (fun _ hZ=>zwk hZ) ?_
   refine zas ?_
   show closeA _ _=_
   refine jl9 ?_
   rw[decide_eq_true (zin hll hf)]
def lsD(r:List Nat × Int):D:=.agg [.fs (nsD r.1) r.1.length,iD r.2]
def grD(n:Nat)(es:List Ed):D:=.agg [iD (n:Int),zan es]
theorem je9{p q r:Prop}(e:r)(hq:q)(h:r→p=q:=by
 intro hY
 conv=>lhs;simp -dsimp -implicitDefEqProofs (disch:=first|assumption|omega|(simp only[r_z]<;>omega)|decide) only[r_r,↓reduceIte,Nat.reduceEqDiff,Nat.reduceAdd,D.fix,Int.reduceToNat,Nat.reduceMul,Nat.reduceBNe,Nat.reduceBEq,lsD,zwi,hY]):p:=(h e).mpr hq
theorem joa{p q:Prop}(hq:q)(h:p=q:=by
 conv=>lhs;simp (disch:=first|assumption|omega|(simp only[r_z]<;>omega)|decide) only[r_c,Nat.reduceAdd,D.fix,↓reduceIte,Nat.reduceEqDiff,lsD]):p:=h.mpr hq
theorem jfa(la lb:List Nat)(ea eb:Int)(ha:la.length≤1000000)(hb:lb.length≤1000000):zar Try.prog 14 [lsD (la,ea),lsD (lb,eb)] (.d (oD (decide ((la,ea)=(lb,eb))))):=by
 have hsm:=zwj (zl la) (zl lb) (by rw[za6];exact ha) (by rw[za6];exact hb)
 rw[zka,zka]at hsm
 refine zay (fn:=Try.f14) (by kernel_rfl) Try.func14 rfl (Nat.le_of_ble_eq_true rfl) fun c hc hp=>?_
 refine zav (τ':=frL [(0,.d (lsD (la,ea))),(1,.d (lsD (lb,eb)))]) (by repeat (first|exact zaj _|refine zac ?_ (by first|rfl|(simp[r_f];done)|simp[r_f, *]))) ?_
 refine zag hp zam hc rfl fun K1 hK1=>?_
 simp -dsimp -implicitDefEqProofs (disch:=first|assumption|omega|(simp only[r_z]<;>omega)|decide) only[r_r,↓reduceIte,Nat.reduceEqDiff,Nat.reduceAdd,D.fix,Int.reduceToNat,Nat.reduceMul,Nat.reduceBNe,Nat.reduceBEq,lsD,zwi]
 refine hK1 _ _ ?_
 refine zag hp zam hc rfl fun K2 hK2=>?_
 rcases tf (ea==eb)with q1|q1
 ·refine je9 q1 ?_
  refine zbj (hsm) rfl ?_
  refine je9 q1 ?_
  refine hK2 _ _ ?_
  refine zas ?_
  show closeA _ _=_
  refine joa ?_
  have q2:ea=eb:=by simpa using q1
  have:(zl la==zl lb)=decide ((la,ea)=(lb,eb)):=by
   rw[Bool.eq_iff_iff,beq_iff_eq,decide_eq_true_eq,q2,Prod.mk.injEq,and_iff_left rfl]
   exact⟨fun h=>by have:=congrArg zk8 h;rwa[zi5,zi5]at this,fun h=>by rw[h]⟩
  rw[this]
 ·refine je9 q1 ?_
  refine hK2 _ _ ?_
  refine zas ?_
  show closeA _ _=_
  refine joa ?_
  have q2:ea≠eb:=by simpa using q1
  rw[decide_eq_false (fun h=>q2 (Prod.mk.inj h).2)]
end Go.Proofs.Ytfolbdkbpmgjgaa
