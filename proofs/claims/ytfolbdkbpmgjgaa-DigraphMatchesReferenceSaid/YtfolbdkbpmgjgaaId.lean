/- The reference's DepthIn: walked. -/
import Derived.Test.YtfolbdkbpmgjgaaQr
import Derived.Test.YtfolbdkbpmgjgaaIc
import Derived.Test.YtfolbdkbpmgjgaaJq
set_option linter.unusedVariables false
set_option linter.unusedSimpArgs false
set_option maxRecDepth 100000
set_option maxHeartbeats 4000000
namespace Go.Proofs.Ytfolbdkbpmgjgaa
open Go Go.RowKit
theorem jid:(((((type_of% @zie)∧(type_of% @znp))∧((type_of% @zkc)∧(type_of% @zea)))∧(((type_of% @zeb)∧(type_of% @zeg))∧((type_of% @zlw)∧((type_of% @zz7)∧(type_of% @zz8)))))∧((((type_of% @zkd)∧(type_of% @zec))∧((type_of% @zfh)∧((type_of% @zcy)∧(type_of% @zcz))))∧(((type_of% @zb8)∧(type_of% @zcl))∧((type_of% @zlv)∧((type_of% @zca)∧(type_of% @zb9)))))):=⟨⟨⟨⟨@zie,@znp⟩,⟨@zkc,@zea⟩⟩,⟨⟨@zeb,@zeg⟩,⟨@zlw,⟨@zz7,@zz8⟩⟩⟩⟩,⟨⟨⟨@zkd,@zec⟩,⟨@zfh,⟨@zcy,@zcz⟩⟩⟩,⟨⟨@zb8,@zcl⟩,⟨@zlv,⟨@zca,@zb9⟩⟩⟩⟩⟩
structure DpA (n:Nat) (L W A:List Nat) (i:Nat):Prop where
 l:A.length=n
 iw:∀j,j<i→nth A (nth L j)=nth W (nth L j)
 z:∀x,x<n→(∀j,j<i→nth L j≠x)→nth A x=0
section
variable {n:Nat} {es:List Ed} {L W A:List Nat} {i:Nat}
theorem jtd:DpA n L W (List.replicate n 0) 0:=⟨by simp,fun j hj=>absurd hj (by omega),fun x hx _=>zhy hx⟩
theorem jb6{A:List Nat}{v x:Nat}(hv:v<A.length)(h:nth A v=x):A.set v x=A:=by
 refine zff (by simp) fun y hy=>?_
 by_cases e:v=y
 ·subst e;rw[zaz hv,h]
 ·rw[zax e]
theorem jte(hT:TpO n es L)(h:DpA n L W A i)(hi:i<n):nth A (nth L i)=0:=by
 refine h.z _ (hT.lt _ (za3 (by rw[hT.sz];exact hi))) fun j hj e=>?_
 have:=zgk hT.d (by rw[hT.sz];omega) (by rw[hT.sz];exact hi) e
 omega
theorem jtf(hT:TpO n es L)(hG:Gr n es)(h:DpA n L W A i)(hi:i<n){u:Nat}(he:(u,nth L i)∈es):u≠nth L i∧nth A u=nth W u:=by
 have hge:=hG.e _ he
 obtain⟨j,hj,ej⟩:=zfn (zk3 hT.d hT.lt hT.sz hge.1)
 have hji:=hT.ed _ he j i (by rw[hT.sz]at hj;exact hj) hi ej rfl
 constructor
 ·intro e
  have:=zgk hT.d hj (by rw[hT.sz];exact hi) (ej.trans e)
  omega
 ·have:=h.iw j hji
  rw[ej]at this;exact this
theorem jtg(hT:TpO n es L)(h:DpA n L W A i)(hi:i<n):DpA n L W (A.set (nth L i) (nth W (nth L i))) (i+1):=by
 have hv:nth L i<A.length:=by rw[h.l];exact hT.lt _ (za3 (by rw[hT.sz];exact hi))
 refine⟨by rw[List.length_set];exact h.l,fun j hj=>?_,fun x hx hh=>?_⟩
 ·rcases Nat.lt_or_ge j i with hlt|hge
  ·rw[zax fun e=>?_]
   ·exact h.iw j hlt
   ·have:=zgk hT.d (by rw[hT.sz];exact hi) (by rw[hT.sz];omega) e
    omega
  ·rw[show j=i by omega];exact zaz hv
 ·rw[zax (hh i (by omega))]
  exact h.z x hx fun j hj=>hh j (by omega)
theorem jth(hT:TpO n es L)(hW:DpS n es W)(h:DpA n L W A n):A=W:=by
 refine zff (by rw[h.l,hW.l]) fun x hx=>?_
 rw[h.l]at hx
 obtain⟨j,hj,ej⟩:=zfn (zk3 hT.d hT.lt hT.sz hx)
 have:=h.iw j (by rw[hT.sz]at hj;exact hj)
 rwa[ej]at this
end
theorem zih{p q:Prop}(hq:q)(h:p=q:=by
 conv=>lhs;simp -dsimp -implicitDefEqProofs (disch:=first|assumption|omega|(simp only[r_z,zad,zac]<;>omega)|decide) only[r_r,↓reduceIte,Nat.reduceEqDiff,Nat.reduceAdd,D.fix,Int.reduceToNat,Nat.reduceMul,Nat.reduceBNe,Nat.reduceBEq,zag,lsD,jid]):p:=h.mpr hq
theorem jir{m:List Nat}{τ τ':Fr}{H H':zaa}(h2:H=H')(h:zez τ τ':=by
 repeat (first|exact zal _|refine zaf ?_ (by first|rfl|(simp[r_f,zad,zac];done)|simp[r_f,zad,zac, *]))):Rt m τ H τ' H':=Rt.end h h2
theorem jnq{p q:Prop}(hq:q)(h:p=q:=by
 conv=>lhs;simp -dsimp -implicitDefEqProofs (disch:=first|assumption|omega|(simp only[r_z,zad,zac]<;>omega)|decide) only[r_r,↓reduceIte,Nat.reduceEqDiff,Nat.reduceAdd,D.fix,Int.reduceToNat,Nat.reduceMul,Nat.reduceBNe,Nat.reduceBEq,zag,lsD,zie,zz9]):p:=h.mpr hq
theorem jnr{p q:Prop}(hq:q)(h:p=q:=by
 conv=>lhs;simp -dsimp -implicitDefEqProofs (disch:=first|assumption|omega|(simp only[r_z,zad,zac]<;>omega)|decide) only[r_r,↓reduceIte,Nat.reduceEqDiff,Nat.reduceAdd,D.fix,Int.reduceToNat,Nat.reduceMul,Nat.reduceBNe,Nat.reduceBEq,zag,lsD]):p:=h.mpr hq
theorem jns{p q r:Prop}(e:r)(hq:q)(h:r→p=q:=by
 intro hY
 conv=>lhs;simp -dsimp -implicitDefEqProofs (disch:=first|assumption|omega|(simp only[r_z,zad,zac]<;>omega)|decide) only[r_r,↓reduceIte,Nat.reduceEqDiff,Nat.reduceAdd,D.fix,Int.reduceToNat,Nat.reduceMul,Nat.reduceBNe,Nat.reduceBEq,zag,lsD,jid,hY]):p:=(h e).mpr hq
theorem jnt{p:Prop}(h:p:=by
 first|rfl|(simp only[r_g,Nat.reduceAdd,↓reduceIte,Nat.reduceEqDiff,zag,lsD];first|done|rfl)):p:=h
theorem jsc{p q:Prop}(hq:q)(h:p=q:=by
 conv=>lhs;simp (disch:=first|assumption|omega|(simp only[r_z,zad,zac]<;>omega)|decide) only[r_c,Nat.reduceAdd,D.fix,↓reduceIte,Nat.reduceEqDiff,zag,lsD]):p:=h.mpr hq
theorem jb7(n:Nat)(es:List Ed)(h:Gr n es):zas Try.prog 20 [iD (n:Int),zag es] (.d (lsD (zoe n es))):=by
 have hb:=h.b
 have hel:=h.l
 have hoo:=jmu h
 have hRO:=zsj n es h
 have hdr:(zdv n es).2≠0→zoe n es=([],(zdv n es).2):=fun hh=>by rw[zoe,if_neg hh]
 have hdy:(zdv n es).2=0→zoe n es=(dpO n (zav n es) (zdv n es).1,0):=fun hh=>by rw[zoe,if_pos hh]
 generalize zdv n es=r at hoo hdr hdy hRO
 obtain⟨L,e⟩:=r
 simp only at hoo hdr hdy
 refine zau (fn:=Try.f20) (by kernel_rfl) Try.func20 rfl (Nat.le_of_ble_eq_true rfl) fun c hc hp=>?_
 refine zaw (τ':=frL [(0,.d (iD (n:Int))),(1,.d (zag es))]) (by repeat (first|exact zal _|refine zaf ?_ (by first|rfl|(simp[r_f,zad,zac];done)|simp[r_f,zad,zac, *]))) ?_
 refine szq hp (fun _ hZ=>zih hZ) ?_
 refine zaj hp zam hc rfl fun K2 hK2=>?_
 refine zih ?_
 refine zbd (hRO) rfl ?_
 refine zih ?_
 refine hK2 _ _ ?_
 refine zab fun K3 hK3=>?_
 refine zba hp (τ':=frL [(0,.d (iD (n:Int))),(1,.d (zag es)),(4,.op 0 0),(5,.d (.fp [.fs (nsD L) L.length,iD e] 0))]) (H':=[.cells [.d (.val (.slice none 0 0)),.d (iD 0)]]) ?_ ?_
 ·refine Rt.trans (Rt.fz (id:=1) (l:=[.fs (nsD L) L.length,iD e]) rfl) ?_
  refine Rt.trans (Rt.gc (keep:=[0]) (by decide) (by decide) (by simp[fzH,gcH])) ?_
  refine jir ?_
  exact jnt
 refine szq hp (fun _ hZ=>zih hZ) ?_
 refine zai rfl (fun ht=>?_) (fun ht=>?_)
 ·have hne:e≠0:=by simpa using ht
  have hd:=hdr hne
  refine szq hp (fun _ hZ=>zih hZ) ?_
  refine zaq ?_
  try dsimp only[zcq,za7]
  refine zbm rfl ?_
  refine jnq ?_
  show closeA _ _=_
  refine jsc ?_
  rw[hd];rfl
 ·have he0:e=0:=by simpa using ht
  have hd:=hdy he0
  obtain⟨hT,hI⟩:TpO n es L∧OrI n (zay n es) L:=by
   rcases hoo with⟨_,h2,h3⟩|⟨h1,_⟩
   ·exact⟨h2,h3⟩
   ·rw[Prod.mk.injEq]at h1;rw[h1.2]at he0;cases he0
  have hW:=jsb h hT hI
  generalize dpO n (zav n es) L=W at hd hW
  have hLn:=hT.sz
  refine zah (hK3 _ _ ?_)
  refine szq hp (fun _ hZ=>zih hZ) ?_
  refine zab fun K7 hK7=>?_
  refine szq hp (fun _ hZ=>jnr hZ) ?_
  refine zae ?_
  refine zao hp (fun τ' H' mm=>∃(i:Nat) (A:List Nat),(i≤n∧DpA n L W A i)∧mm=n - i∧H'=[.cells [.d (.val (.slice none 0 0)),.d (iD 0)],.cells (avs (nsD A))]∧τ'=frL [(0,.d (iD (n:Int))),(1,.d (zag es)),(4,.op 0 0),(5,.d (.fp [.fs (nsD L) L.length,iD e] 0)),(6,.os 1 1 0 n),(7,.d (iD (i:Int)))]) (n) ?_ ⟨0,List.replicate n 0,⟨Nat.zero_le _,jtd⟩,rfl,rfl,rfl⟩ ?_
  ·refine jir ?_
   rw[zh8];rfl
  rintro τ' H' mm ⟨i,A,⟨hi,hA⟩,rfl,rfl,rfl⟩
  refine zab fun K9 hK9=>?_
  refine szq hp (fun _ hZ=>zih hZ) ?_
  refine zai rfl (fun ht=>?_) (fun ht=>?_)
  ·have hin:i<n:=by simp at ht;omega
   obtain⟨v,hv⟩:∃v,v=nth L i:=⟨_,rfl⟩
   have hg1:(nsD L)[i]? =some (iD (v:Int)):=by rw[zbf (by omega),hv]
   have hvn:v<n:=by rw[hv];exact hT.lt _ (za3 (by omega))
   have hAv:=jte hT hA hin
   have hAs:=jtg hT hA hin
   rw[←hv]at hAv hAs
   have hAl:=hA.l
   refine zah (hK9 _ _ ?_)
   refine zab fun K11 hK11=>?_
   refine zae ?_
   refine szq hp (fun _ hZ=>jns hg1 hZ) ?_
   refine szq hp (fun _ hZ=>jnr hZ) ?_
   refine zae ?_
   refine zao hp (fun τ' H' mm=>∃(k:Nat) (B:List Nat),(k≤es.length∧B=A.set v (dmx W es v k)∧B.length=n)∧mm=es.length - k∧H'=[.cells [.d (.val (.slice none 0 0)),.d (iD 0)],.cells (avs (nsD B))]∧τ'=frL [(0,.d (iD (n:Int))),(1,.d (zag es)),(4,.op 0 0),(5,.d (.fp [.fs (nsD L) L.length,iD e] 0)),(6,.os 1 1 0 n),(7,.d (iD (i:Int))),(8,.d (iD (v:Int))),(9,.d (iD (k:Int)))]) (es.length) ?_ ⟨0,A,⟨Nat.zero_le _,(jb6 (by omega) hAv).symm,hAl⟩,rfl,rfl,rfl⟩ ?_
   ·refine jir ?_
    exact jnt
   rintro τ' H' mm ⟨k,B,⟨hk,hB,hBl⟩,rfl,rfl,rfl⟩
   refine zab fun K14 hK14=>?_
   refine szq hp (fun _ hZ=>zih hZ) ?_
   refine zai rfl (fun ht=>?_) (fun ht=>?_)
   ·have hke:k<es.length:=by simp at ht;omega
    obtain⟨a,ha⟩:∃a,a=(nth es k).1:=⟨_,rfl⟩
    obtain⟨b,hb2⟩:∃b,b=(nth es k).2:=⟨_,rfl⟩
    have hge:=h.e _ (za3 hke)
    have hmem:(a,b)∈es:=by rw[ha,hb2];exact za3 hke
    rw[←ha,←hb2]at hge
    have hg2:(es.flatMap edC)[k*2]? =some (iD (a:Int)):=by rw[ha];exact zj1 hke
    have hg3:(es.flatMap edC)[k*2+1]? =some (iD (b:Int)):=by rw[hb2];exact zj2 hke
    have hs0:dmx W es v (k+1)=if b=v then max (dmx W es v k) (nth W a+1)else dmx W es v k:=by rw[dmx,ha,hb2]
    have hdl:=zzc (D:=W) (es:=es) (v:=v) (B:=nth W v) (fun e he h=>by rw[←h];exact hW.up e he) k hk
    have hWv:=hW.lt v hvn
    have hWa:=hW.lt a hge.1
    clear ha hb2
    refine zah (hK14 _ _ ?_)
    refine zab fun K16 hK16=>?_
    refine zae ?_
    refine szq hp (fun _ hZ=>jns hg3 hZ) ?_
    refine zai rfl (fun ht=>?_) (fun ht=>?_)
    ·have hbv:b=v:=by rw[beq_iff_eq]at ht;omega
     rw[if_pos hbv]at hs0
     rw[hbv,hv]at hmem
     obtain⟨hne,hAa⟩:=jtf hT h hA hin hmem
     rw[←hv]at hne
     have hg4:(nsD B)[v]? =some (iD ((dmx W es v k:Nat):Int)):=by rw[zbf (by omega),hB,zaz (by omega)]
     have hg5:(nsD B)[a]? =some (iD ((nth W a:Nat):Int)):=by rw[zbf (by omega),hB,zax (fun e=>hne e.symm),hAa]
     have hmx:max ((dmx W es v k:Nat):Int) (((nth W a:Nat):Int)+1)=((max (dmx W es v k) (nth W a+1):Nat):Int):=by omega
     have hB2:B.set v (max (dmx W es v k) (nth W a+1))=A.set v (dmx W es v (k+1)):=by rw[hB,List.set_set,hs0]
     refine zjf zam hc mixed rfl (q:=0) (by kernel_rfl) (by kernel_rfl) fun K18 hK18=>?_
     simp -dsimp -implicitDefEqProofs (disch:=first|assumption|omega|(simp only[r_z,zad,zac]<;>omega)|decide) only[r_r,↓reduceIte,Nat.reduceEqDiff,Nat.reduceAdd,D.fix,Int.reduceToNat,Nat.reduceMul,Nat.reduceBNe,Nat.reduceBEq,zag,lsD,hg2,hg4,hg5,hmx,zex,jid]
     refine hK18 _ _ (hK16 _ _ ?_)
     refine za6 hp zam hc rfl fun K19 hK19=>?_
     refine zih ?_
     refine hK19 _ _ ⟨_,_,_,?_,⟨k+1,B.set v (max (dmx W es v k) (nth W a+1)),⟨hke,hB2,by simp[hBl]⟩,rfl,rfl,rfl⟩,?_⟩
     ·first|omega|(simp only[List.length_cons];omega)|(dsimp only;omega)
     ·refine jir ?_
      exact jnt
    ·have hbv:b≠v:=fun e9=>by rw[e9]at ht;simp at ht
     rw[if_neg hbv]at hs0
     refine zah (hK16 _ _ ?_)
     refine za6 hp zam hc rfl fun K20 hK20=>?_
     refine zih ?_
     refine hK20 _ _ ⟨_,_,_,?_,⟨k+1,B,⟨hke,by rw[hs0];exact hB,hBl⟩,rfl,rfl,rfl⟩,?_⟩
     ·first|omega|(simp only[List.length_cons];omega)|(dsimp only;omega)
     ·refine jir ?_
      exact jnt
   ·have hke:k=es.length:=by simp at ht;omega
    subst hke
    rw[jnp hW hvn]at hB
    rw[←hB]at hAs
    refine zat (hK11 _ _ ?_)
    refine za6 hp zam hc rfl fun K21 hK21=>?_
    refine zih ?_
    refine hK21 _ _ ⟨_,_,_,?_,⟨i+1,B,⟨hin,hAs⟩,rfl,rfl,rfl⟩,?_⟩
    ·first|omega|(simp only[List.length_cons];omega)|(dsimp only;omega)
    ·refine jir ?_
     exact jnt
  ·have hie:i=n:=by simp at ht;omega
   subst hie
   have hAW:=jth hT hW hA
   have hWl:=hW.l
   subst hAW
   refine zat (hK7 _ _ ?_)
   refine szq hp (fun _ hZ=>zih hZ) ?_
   refine zaq ?_
   try dsimp only[zcq,za7]
   refine zbm rfl ?_
   refine jnq ?_
   show closeA _ _=_
   refine jsc ?_
   rw[hd];simp only[ze2,hWl]
end Go.Proofs.Ytfolbdkbpmgjgaa
