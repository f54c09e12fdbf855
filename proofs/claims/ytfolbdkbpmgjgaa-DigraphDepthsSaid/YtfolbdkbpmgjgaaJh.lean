/- The laws' helpers: Same, Alike, SameLists, In, the wrapped calls. -/
import Derived.Test.YtfolbdkbpmgjgaaQr
import Derived.Test.YtfolbdkbpmgjgaaJf
import Derived.Test.YtfolbdkbpmgjgaaKo
set_option linter.unusedVariables false
set_option linter.unusedSimpArgs false
set_option maxRecDepth 100000
set_option maxHeartbeats 4000000
namespace Go.Proofs.Ytfolbdkbpmgjgaa
open Go Go.RowKit
theorem zwy:((((type_of% @zcw)∧(type_of% @zcx))∧((type_of% @zc9)∧((type_of% @zgo)∧(type_of% @zgp))))∧(((type_of% @zeq)∧(type_of% @zhc))∧((type_of% @zry)∧((type_of% @zrz)∧(type_of% @zhb))))):=⟨⟨⟨@zcw,@zcx⟩,⟨@zc9,⟨@zgo,@zgp⟩⟩⟩,⟨⟨@zeq,@zhc⟩,⟨@zry,⟨@zrz,@zhb⟩⟩⟩⟩
theorem znj(l:List Nat):intsD (zl l)= .fs (nsD l) l.length:=by unfold intsD;rw[za5];rfl
theorem jca{a b:List Int}(h:a≠b):(a==b)=false:=beq_eq_false_iff_ne.2 h
theorem jj4{a b:List Int}(h:a=b):(a==b)=true:=beq_iff_eq.2 h
theorem zwz{p q:Prop}(hq:q)(h:p=q:=by
 conv=>lhs;simp -dsimp -implicitDefEqProofs (disch:=first|assumption|omega|(simp only[r_z]<;>omega)|decide) only[r_r,↓reduceIte,Nat.reduceEqDiff,Nat.reduceAdd,D.fix,Int.reduceToNat,Nat.reduceMul,Nat.reduceBNe,Nat.reduceBEq]):p:=h.mpr hq
theorem zz5{p q:Prop}(hq:q)(h:p=q:=by
 conv=>lhs;simp -dsimp -implicitDefEqProofs (disch:=first|assumption|omega|(simp only[r_z]<;>omega)|decide) only[r_r,↓reduceIte,Nat.reduceEqDiff,Nat.reduceAdd,D.fix,Int.reduceToNat,Nat.reduceMul,Nat.reduceBNe,Nat.reduceBEq,zwy]):p:=h.mpr hq
theorem jon{m:List Nat}{τ τ':Fr}{H H':zaa}(h2:H=H')(h:zgb τ τ':=by
 repeat (first|exact zaj _|refine zac ?_ (by first|rfl|(simp[r_f];done)|simp[r_f, *]))):Rt m τ H τ' H':=Rt.end h h2
theorem jmw{p q:Prop}(hq:q)(h:p=q:=by
 conv=>lhs;simp (disch:=first|assumption|omega|(simp only[r_z]<;>omega)|decide) only[r_c,Nat.reduceAdd,D.fix,↓reduceIte,Nat.reduceEqDiff]):p:=h.mpr hq
theorem joo{p:Prop}(h:p:=by
 first|rfl|(simp only[r_g,Nat.reduceAdd,↓reduceIte,Nat.reduceEqDiff];first|done|rfl)):p:=h
theorem zw0(a b:List Int)(ha:a.length≤1000000)(hb:b.length≤1000000):zas Try.prog 23 [intsD a,intsD b] (.d (oD (a==b))):=by
 refine zay (fn:=Try.f23) (by kernel_rfl) Try.func23 rfl (Nat.le_of_ble_eq_true rfl) fun c hc hp=>?_
 refine zat (τ':=frL [(0,.d (intsD a)),(1,.d (intsD b))]) (by repeat (first|exact zaj _|refine zac ?_ (by first|rfl|(simp[r_f];done)|simp[r_f, *]))) ?_
 refine szq hp (fun _ hZ=>zwz hZ) ?_
 refine zab fun K2 hK2=>?_
 refine szq hp (fun _ hZ=>zz5 hZ) ?_
 refine zai rfl (fun ht=>?_) (fun ht=>?_)
 ·have hne:a≠b:=fun e=>by rw[e]at ht;simp at ht
  refine szq hp (fun _ hZ=>zwz hZ) ?_
  refine zar ?_
  show closeA _ _=_
  refine jmw ?_
  rw[jca hne]
 ·have hll:a.length=b.length:=by simp at ht;omega
  refine zag (hK2 _ _ ?_)
  refine zab fun K5 hK5=>?_
  refine szq hp (fun _ hZ=>zwz hZ) ?_
  refine zae ?_
  refine zaq hp (fun τ' H' mm=>∃(k:Nat),(k≤a.length∧∀j,j<k→nth a j=nth b j)∧mm=a.length - k∧H'=[]∧τ'=frL [(0,.d (intsD a)),(1,.d (intsD b)),(5,.d (iD (k:Int)))]) (a.length) ?_ ⟨0,⟨Nat.zero_le _,fun j hj=>absurd hj (by omega)⟩,rfl,rfl,rfl⟩ ?_
  ·refine jon ?_
   exact joo
  rintro τ' H' mm ⟨k,⟨hk,hf⟩,rfl,rfl,rfl⟩
  refine zab fun K7 hK7=>?_
  refine szq hp (fun _ hZ=>zz5 hZ) ?_
  refine zai rfl (fun ht=>?_) (fun ht=>?_)
  ·have hlt:k<a.length:=by simp at ht;omega
   refine zag (hK7 _ _ ?_)
   refine zab fun K9 hK9=>?_
   refine zae ?_
   refine zbh zao hc mixed rfl (q:=0) (by kernel_rfl) (by kernel_rfl) fun K10 hK10=>?_
   refine zz5 ?_
   refine hK10 _ _ ?_
   refine zai rfl (fun ht=>?_) (fun ht=>?_)
   ·have hne:a≠b:=fun e=>by rw[e]at ht;simp at ht
    refine szq hp (fun _ hZ=>zwz hZ) ?_
    refine zar ?_
    show closeA _ _=_
    refine jmw ?_
    rw[jca hne]
   ·have he:nth a k=nth b k:=by simpa using ht
    refine zag (hK9 _ _ ?_)
    refine zbd hp zao hc rfl fun K12 hK12=>?_
    refine zz5 ?_
    refine hK12 _ _ ⟨_,_,_,?_,⟨k+1,⟨by omega,fun j hj=>(by rcases Nat.lt_or_ge j k with h|h;exact hf j h;rw[show j=k by omega];exact he)⟩,rfl,rfl,rfl⟩,?_⟩
    ·first|omega|(simp only[List.length_cons];omega)|(dsimp only;omega)
    ·refine jon ?_
     exact joo
  ·have hke:k=a.length:=by simp at ht;omega
   subst hke
   refine zaw (hK5 _ _ ?_)
   refine szq hp (fun _ hZ=>zwz hZ) ?_
   refine zar ?_
   show closeA _ _=_
   refine jmw ?_
   rw[jj4 (ziz hll hf)]
theorem zw1{p q:Prop}(hq:q)(h:p=q:=by
 conv=>lhs;simp -dsimp -implicitDefEqProofs (disch:=first|assumption|omega|(simp only[r_z,zah]<;>omega)|decide) only[r_r,↓reduceIte,Nat.reduceEqDiff,Nat.reduceAdd,D.fix,Int.reduceToNat,Nat.reduceMul,Nat.reduceBNe,Nat.reduceBEq,zam]):p:=h.mpr hq
theorem jfs{p q:Prop}(hq:q)(h:p=q:=by
 conv=>lhs;simp -dsimp -implicitDefEqProofs (disch:=first|assumption|omega|(simp only[r_z,zah]<;>omega)|decide) only[r_r,↓reduceIte,Nat.reduceEqDiff,Nat.reduceAdd,D.fix,Int.reduceToNat,Nat.reduceMul,Nat.reduceBNe,Nat.reduceBEq,zam,zwy]):p:=h.mpr hq
theorem jop{m:List Nat}{τ τ':Fr}{H H':zaa}(h2:H=H')(h:zgb τ τ':=by
 repeat (first|exact zaj _|refine zac ?_ (by first|rfl|(simp[r_f,zah];done)|simp[r_f,zah, *]))):Rt m τ H τ' H':=Rt.end h h2
theorem jj5{p q r:Prop}(e:r)(hq:q)(h:r→p=q:=by
 intro hY
 conv=>lhs;simp -dsimp -implicitDefEqProofs (disch:=first|assumption|omega|(simp only[r_z,zah]<;>omega)|decide) only[r_r,↓reduceIte,Nat.reduceEqDiff,Nat.reduceAdd,D.fix,Int.reduceToNat,Nat.reduceMul,Nat.reduceBNe,Nat.reduceBEq,zam,zwy,hY]):p:=(h e).mpr hq
theorem jmx{p q:Prop}(hq:q)(h:p=q:=by
 conv=>lhs;simp (disch:=first|assumption|omega|(simp only[r_z,zah]<;>omega)|decide) only[r_c,Nat.reduceAdd,D.fix,↓reduceIte,Nat.reduceEqDiff,zam]):p:=h.mpr hq
theorem joq{p:Prop}(h:p:=by
 first|rfl|(simp only[r_g,Nat.reduceAdd,↓reduceIte,Nat.reduceEqDiff,zam];first|done|rfl)):p:=h
theorem jft(a b:List (List Nat))(ha:a.length≤1000000)(hb:b.length≤1000000)(ha1:∀r∈a,r.length≤1000000)(hb1:∀r∈b,r.length≤1000000):zas Try.prog 26 [zam a,zam b] (.d (oD (decide (a=b)))):=by
 refine zay (fn:=Try.f26) (by kernel_rfl) Try.func26 rfl (Nat.le_of_ble_eq_true rfl) fun c hc hp=>?_
 refine zat (τ':=frL [(0,.d (zam a)),(1,.d (zam b))]) (by repeat (first|exact zaj _|refine zac ?_ (by first|rfl|(simp[r_f,zah];done)|simp[r_f,zah, *]))) ?_
 refine szq hp (fun _ hZ=>zw1 hZ) ?_
 refine zab fun K2 hK2=>?_
 refine szq hp (fun _ hZ=>jfs hZ) ?_
 refine zai rfl (fun ht=>?_) (fun ht=>?_)
 ·have hne:a≠b:=fun e=>by rw[e]at ht;simp at ht
  refine szq hp (fun _ hZ=>zw1 hZ) ?_
  refine zar ?_
  show closeA _ _=_
  refine jmx ?_
  rw[decide_eq_false hne]
 ·have hll:a.length=b.length:=by simp at ht;omega
  refine zag (hK2 _ _ ?_)
  refine zab fun K5 hK5=>?_
  refine szq hp (fun _ hZ=>zw1 hZ) ?_
  refine zae ?_
  refine zaq hp (fun τ' H' mm=>∃(k:Nat),(k≤a.length∧∀j,j<k→nth a j=nth b j)∧mm=a.length - k∧H'=[]∧τ'=frL [(0,.d (zam a)),(1,.d (zam b)),(5,.d (iD (k:Int)))]) (a.length) ?_ ⟨0,⟨Nat.zero_le _,fun j hj=>absurd hj (by omega)⟩,rfl,rfl,rfl⟩ ?_
  ·refine jop ?_
   exact joq
  rintro τ' H' mm ⟨k,⟨hk,hf⟩,rfl,rfl,rfl⟩
  refine zab fun K7 hK7=>?_
  refine szq hp (fun _ hZ=>jfs hZ) ?_
  refine zai rfl (fun ht=>?_) (fun ht=>?_)
  ·have hlt:k<a.length:=by simp at ht;omega
   have hg1:=zcu (nx:=a) (v:=k) hlt
   have hg2:=zcu (nx:=b) (v:=k) (by omega)
   have hsm:=zw0 (zl (nth a k)) (zl (nth b k)) (by rw[za5];exact ha1 _ (za8 hlt)) (by rw[za5];exact hb1 _ (za8 (by omega)))
   rw[znj,znj]at hsm
   refine zag (hK7 _ _ ?_)
   refine zab fun K9 hK9=>?_
   refine zae ?_
   refine zbh zao hc mixed rfl (q:=0) (by kernel_rfl) (by kernel_rfl) fun K10 hK10=>?_
   refine jj5 (sza hg1 hg2) ?_
   refine zbj (hsm) rfl ?_
   refine jj5 (sza hg1 hg2) ?_
   refine hK10 _ _ ?_
   refine zai rfl (fun ht=>?_) (fun ht=>?_)
   ·have hne:a≠b:=fun e=>by rw[e]at ht;simp at ht
    refine szq hp (fun _ hZ=>zw1 hZ) ?_
    refine zar ?_
    show closeA _ _=_
    refine jmx ?_
    rw[decide_eq_false hne]
   ·have he:nth a k=nth b k:=by
     have:zl (nth a k)=zl (nth b k):=by simpa using ht
     have:=congrArg zll this
     rwa[zje,zje]at this
    refine zag (hK9 _ _ ?_)
    refine zbd hp zao hc rfl fun K12 hK12=>?_
    refine jfs ?_
    refine hK12 _ _ ⟨_,_,_,?_,⟨k+1,⟨by omega,fun j hj=>(by rcases Nat.lt_or_ge j k with h|h;exact hf j h;rw[show j=k by omega];exact he)⟩,rfl,rfl,rfl⟩,?_⟩
    ·first|omega|(simp only[List.length_cons];omega)|(dsimp only;omega)
    ·refine jop ?_
     exact joq
  ·have hke:k=a.length:=by simp at ht;omega
   subst hke
   refine zaw (hK5 _ _ ?_)
   refine szq hp (fun _ hZ=>zw1 hZ) ?_
   refine zar ?_
   show closeA _ _=_
   refine jmx ?_
   rw[decide_eq_true (ziz hll hf)]
def lsD(r:List Nat × Int):D:=.agg [.fs (nsD r.1) r.1.length,iD r.2]
def grD(n:Nat)(es:List Ed):D:=.agg [iD (n:Int),zan es]
theorem jfu{p q r:Prop}(e:r)(hq:q)(h:r→p=q:=by
 intro hY
 conv=>lhs;simp -dsimp -implicitDefEqProofs (disch:=first|assumption|omega|(simp only[r_z]<;>omega)|decide) only[r_r,↓reduceIte,Nat.reduceEqDiff,Nat.reduceAdd,D.fix,Int.reduceToNat,Nat.reduceMul,Nat.reduceBNe,Nat.reduceBEq,lsD,zwy,hY]):p:=(h e).mpr hq
theorem jor{p q:Prop}(hq:q)(h:p=q:=by
 conv=>lhs;simp (disch:=first|assumption|omega|(simp only[r_z]<;>omega)|decide) only[r_c,Nat.reduceAdd,D.fix,↓reduceIte,Nat.reduceEqDiff,lsD]):p:=h.mpr hq
theorem jfv(la lb:List Nat)(ea eb:Int)(ha:la.length≤1000000)(hb:lb.length≤1000000):zas Try.prog 14 [lsD (la,ea),lsD (lb,eb)] (.d (oD (decide ((la,ea)=(lb,eb))))):=by
 have hsm:=zw0 (zl la) (zl lb) (by rw[za5];exact ha) (by rw[za5];exact hb)
 rw[znj,znj]at hsm
 refine zay (fn:=Try.f14) (by kernel_rfl) Try.func14 rfl (Nat.le_of_ble_eq_true rfl) fun c hc hp=>?_
 refine zat (τ':=frL [(0,.d (lsD (la,ea))),(1,.d (lsD (lb,eb)))]) (by repeat (first|exact zaj _|refine zac ?_ (by first|rfl|(simp[r_f];done)|simp[r_f, *]))) ?_
 refine zaf hp zao hc rfl fun K1 hK1=>?_
 simp -dsimp -implicitDefEqProofs (disch:=first|assumption|omega|(simp only[r_z]<;>omega)|decide) only[r_r,↓reduceIte,Nat.reduceEqDiff,Nat.reduceAdd,D.fix,Int.reduceToNat,Nat.reduceMul,Nat.reduceBNe,Nat.reduceBEq,lsD,zwy]
 refine hK1 _ _ ?_
 refine zaf hp zao hc rfl fun K2 hK2=>?_
 rcases tf (ea==eb)with q1|q1
 ·refine jfu q1 ?_
  refine zbj (hsm) rfl ?_
  refine jfu q1 ?_
  refine hK2 _ _ ?_
  refine zar ?_
  show closeA _ _=_
  refine jor ?_
  have q2:ea=eb:=by simpa using q1
  have:(zl la==zl lb)=decide ((la,ea)=(lb,eb)):=by
   rw[Bool.eq_iff_iff,beq_iff_eq,decide_eq_true_eq,q2,Prod.mk.injEq,and_iff_left rfl]
   exact⟨fun h=>by have:=congrArg zll h;rwa[zje,zje]at this,fun h=>by rw[h]⟩
  rw[this]
 ·refine jfu q1 ?_
  refine hK2 _ _ ?_
  refine zar ?_
  show closeA _ _=_
  refine jor ?_
  have q2:ea≠eb:=by simpa using q1
  rw[decide_eq_false (fun h=>q2 (Prod.mk.inj h).2)]
end Go.Proofs.Ytfolbdkbpmgjgaa
