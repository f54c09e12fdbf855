/- The law DigraphCycles: walked. -/
import Derived.Test.YtfolbdkbpmgjgaaQr
import Derived.Test.YtfolbdkbpmgjgaaJl
set_option linter.unusedVariables false
set_option linter.unusedSimpArgs false
set_option maxRecDepth 100000
set_option maxHeartbeats 4000000
namespace Go.Proofs.Ytfolbdkbpmgjgaa
open Go Go.RowKit
theorem zsp:(((((type_of% @zhz)∧((type_of% @zjq)∧(type_of% @zg8)))∧((type_of% @zgp)∧((type_of% @zgq)∧(type_of% @zyw))))∧(((type_of% @zyx)∧((type_of% @zd3)∧(type_of% @zjn)))∧(((type_of% @zjo)∧(type_of% @zjp))∧((type_of% @zd4)∧(type_of% @jkq)))))∧((((type_of% @jkr)∧((type_of% @zd5)∧(type_of% @zyo)))∧(((type_of% @zyp)∧(type_of% @zjr))∧((type_of% @zu7)∧(type_of% @zyt))))∧(((type_of% @zla)∧((type_of% @zc6)∧(type_of% @zc7)))∧(((type_of% @zc8)∧(type_of% @zlc))∧((type_of% @zyq)∧(type_of% @zyr)))))):=⟨⟨⟨⟨@zhz,⟨@zjq,@zg8⟩⟩,⟨@zgp,⟨@zgq,@zyw⟩⟩⟩,⟨⟨@zyx,⟨@zd3,@zjn⟩⟩,⟨⟨@zjo,@zjp⟩,⟨@zd4,@jkq⟩⟩⟩⟩,⟨⟨⟨@jkr,⟨@zd5,@zyo⟩⟩,⟨⟨@zyp,@zjr⟩,⟨@zu7,@zyt⟩⟩⟩,⟨⟨@zla,⟨@zc6,@zc7⟩⟩,⟨⟨@zc8,@zlc⟩,⟨@zyq,@zyr⟩⟩⟩⟩⟩
structure CyO (n:Nat) (es:List Ed) (L:List Nat):Prop where
 l0:1≤L.length
 ln:L.length≤n
 lt:∀i,i<L.length→nth L i<n
 ed:∀i,i<L.length→(nth L i,nth L ((i+1) % L.length))∈es
 hd:∀i,i<L.length→nth L 0≤nth L i
 ne:∀i j,i<L.length→j<i→nth L j≠nth L i
 mn:∀v,v<n→∀d,1≤d→d<L.length→¬WayN (za0 n es) v v d
theorem jng{n:Nat}{es:List Ed}(h:Gr n es):((zkl n es).2=0∧CyO n es (zkl n es).1)∨(zkl n es=([],4)∧∀v,v<n→∀d,1≤d→¬WayN (za0 n es) v v d):=by
 have hni:∀u,u<(za0 n es).length→∀x∈nth (za0 n es) u,x<(za0 n es).length:=fun u hu x hx=>by
  rw[zbd]at hu ⊢;exact h.two.ni u hu x hx
 by_cases hb:(bfS (za0 n es) n).1=0
 ·refine .inr ⟨by rw[zkl,if_pos hb],fun v hv d hd hw=>?_⟩
  obtain⟨k,rfl⟩:∃k,d=k+1:=⟨d - 1,by omega⟩
  have:=(zqz hni (by rw[zbd];exact hv) hw).1
  exact this ((jeh (za0 n es) n).1 hb v hv)
 ·have hF:=ji8 h hb
  have e:zkl n es=(zht (za0 n es) (zb8 n es) (bfS (za0 n es) n).2 (bfS (za0 n es) n).1 ((bfS (za0 n es) n).1 - 1),0):=by rw[zkl,if_neg hb]
  rw[e]
  have hi:=zwl hF ((bfS (za0 n es) n).1 - 1) (by omega)
  have hl:=zgv (za0 n es) (zb8 n es) (bfS (za0 n es) n).2 (bfS (za0 n es) n).1 ((bfS (za0 n es) n).1 - 1)
  generalize hL:zht (za0 n es) (zb8 n es) (bfS (za0 n es) n).2 (bfS (za0 n es) n).1 ((bfS (za0 n es) n).1 - 1)=L at hi hl
  have hll:L.length=(bfS (za0 n es) n).1:=by omega
  obtain⟨k1,k2,k3⟩:=jit hF hi hll
  refine .inl ⟨rfl,?_⟩
  show CyO n es L
  refine⟨hi.p,?_,fun i hi'=>(k2 i hi').2,fun i hi'=>(zdk (k2 i hi').2).1 (k1 i hi'),fun i hi'=>by rw[hi.h0];exact(k2 i hi').1,k3,fun v hv d h1 h2 hw=>?_⟩
  ·refine zd2 (List.pairwise_iff_getElem.2 fun i j hi' hj hij=>?_) fun x hx=>?_
   ·have:=k3 j i hj hij
    rwa[za1 hi',za1 hj]at this
   ·obtain⟨i,hi',rfl⟩:=zvu hx
    exact(k2 i hi').2
  ·obtain⟨k,rfl⟩:∃k,d=k+1:=⟨d - 1,by omega⟩
   obtain⟨g1,g2⟩:=zqz hni (by rw[zbd];exact hv) hw
   have:=hF.mn v hv g1
   omega
def zxr(n:Nat)(es:List Ed)(t:List Bool):List Bool:=(List.range n).map fun w=>es.any fun e=>nth t e.1&&e.2==w
theorem zfl(n:Nat)(es:List Ed)(t:List Bool):(zxr n es t).length=n:=by simp[zxr]
def wlS(n:Nat)(es:List Ed)(t:List Bool):Nat→List Bool
 |0=>List.replicate n false
 |k+1=>if nth t (nth es k).1=true then(wlS n es t k).set (nth es k).2 true else wlS n es t k
theorem zcg(n:Nat)(es:List Ed)(t:List Bool):∀k,(wlS n es t k).length=n
 |0=>by simp[wlS]
 |k+1=>by
  rw[wlS]
  split
  ·rw[List.length_set,zcg n es t k]
  ·exact zcg n es t k
theorem jcp{n:Nat}{es:List Ed}{t:List Bool}{w:Nat}(hw:w<n):∀k,k≤es.length→(nth (wlS n es t k) w=true↔∃j,j<k∧nth t (nth es j).1=true∧(nth es j).2=w)
 |0,_=>by
  rw[wlS,zlr hw]
  constructor
  ·intro h;cases h
  ·rintro⟨j,hj,_⟩;omega
 |k+1,hk=>by
  have ih:=jcp (n:=n) (es:=es) (t:=t) hw k (by omega)
  rw[wlS]
  by_cases h:nth t (nth es k).1=true
  ·rw[if_pos h]
   by_cases e:(nth es k).2=w
   ·rw[e,za3 (by rw[zcg];exact hw)]
    exact⟨fun _=>⟨k,by omega,h,e⟩,fun _=>rfl⟩
   ·rw[za4 e,ih]
    constructor
    ·rintro⟨j,hj,h1,h2⟩;exact⟨j,by omega,h1,h2⟩
    ·rintro⟨j,hj,h1,h2⟩
     by_cases ej:j=k
     ·rw[ej]at h2;exact absurd h2 e
     ·exact⟨j,by omega,h1,h2⟩
  ·rw[if_neg h,ih]
   constructor
   ·rintro⟨j,hj,h1,h2⟩;exact⟨j,by omega,h1,h2⟩
   ·rintro⟨j,hj,h1,h2⟩
    by_cases ej:j=k
    ·rw[ej]at h1;exact absurd h1 h
    ·exact⟨j,by omega,h1,h2⟩
theorem jf6(n:Nat)(es:List Ed)(t:List Bool):wlS n es t es.length=zxr n es t:=by
 refine zg5 (by rw[zcg,zfl]) fun w hw=>?_
 rw[zcg]at hw
 rw[Bool.eq_iff_iff,jcp hw _ (Nat.le_refl _),zxr,za2 hw,List.any_eq_true]
 constructor
 ·rintro⟨j,hj,h1,h2⟩;exact⟨_,za7 hj,by simp[h1,h2]⟩
 ·rintro⟨e,he,h⟩
  obtain⟨j,hj,rfl⟩:=List.getElem_of_mem he
  rw[←za1 hj]at h
  simp at h
  exact⟨j,hj,h.1,h.2⟩
def wIt(n:Nat)(es:List Ed)(v:Nat):Nat→List Bool
 |0=>(List.replicate n false).set v true
 |d+1=>zxr n es (wIt n es v d)
theorem zdw(n:Nat)(es:List Ed)(v:Nat):∀d,(wIt n es v d).length=n
 |0=>by simp[wIt]
 |d+1=>zfl _ _ _
theorem zxs{n:Nat}{es:List Ed}(h:Gr n es){v:Nat}(hv:v<n):∀d w,w<n→nth (wIt n es v d) w=true→WayN (za0 n es) v w d
 |0,w,hw,ht=>by
  by_cases e:v=w
  ·subst e;exact .here
  ·rw[wIt,za4 e,zlr hw]at ht;cases ht
 |d+1,w,hw,ht=>by
  rw[wIt,zxr,za2 hw,List.any_eq_true]at ht
  obtain⟨e,he,h1⟩:=ht
  simp at h1
  obtain⟨h1,h2⟩:=h1
  have hge:=h.e e he
  have:=zxs h hv d e.1 hge.1 h1
  rw[←h2]
  exact this.go ((zdk hge.1).2 he)
theorem jcq(n:Nat):(List.replicate n false).map oD=List.replicate n (oD false):=List.map_replicate
theorem zcu(l:List Bool):(l.map oD).length=l.length:=List.length_map _
theorem zxt{p q:Prop}(hq:q)(h:p=q:=by
 conv=>lhs;simp -dsimp -implicitDefEqProofs (disch:=first|assumption|omega|(simp only[r_z,zah,zcu,zcg]<;>omega)|decide) only[r_r,↓reduceIte,Nat.reduceEqDiff,Nat.reduceAdd,D.fix,Int.reduceToNat,Nat.reduceMul,Nat.reduceBNe,Nat.reduceBEq,grD,zal,boolsD,zsp]):p:=h.mpr hq
theorem jki{p q:Prop}(hq:q)(h:p=q:=by
 conv=>lhs;simp -dsimp -implicitDefEqProofs (disch:=first|assumption|omega|(simp only[r_z,zah,zcu,zcg]<;>omega)|decide) only[r_r,↓reduceIte,Nat.reduceEqDiff,Nat.reduceAdd,D.fix,Int.reduceToNat,Nat.reduceMul,Nat.reduceBNe,Nat.reduceBEq,grD,zal,boolsD]):p:=h.mpr hq
theorem jnh{m:List Nat}{τ τ':Fr}{H H':zaa}(h2:H=H')(h:zf6 τ τ':=by
 repeat (first|exact zaj _|refine zac ?_ (by first|rfl|(simp[r_f,zah,zcu,zcg];done)|simp[r_f,zah,zcu,zcg, *]))):Rt m τ H τ' H':=Rt.end h h2
theorem jni{p q:Prop}(hq:q)(h:p=q:=by
 conv=>lhs;simp only[r_g,Nat.reduceAdd,↓reduceIte,Nat.reduceEqDiff,grD,zal,boolsD]):p:=h.mpr hq
theorem jkj(n:Nat)(es:List Ed)(t:List Bool)(h:Gr n es)(hl:es.length≤1000)(ht0:t.length=n):zar Try.prog 30 [grD n es,boolsD t] (.d (boolsD (zxr n es t))):=by
 have hb:=h.b
 refine zav (fn:=Try.f30) (by kernel_rfl) Try.func30 rfl (Nat.le_of_ble_eq_true rfl) fun c hc hp=>?_
 refine zat (τ':=frL [(0,.d (grD n es)),(1,.d (boolsD t))]) (by repeat (first|exact zaj _|refine zac ?_ (by first|rfl|(simp[r_f,zah,zcu,zcg];done)|simp[r_f,zah,zcu,zcg, *]))) ?_
 refine szq hp (fun _ hZ=>zxt hZ) ?_
 refine szq hp (fun _ hZ=>zxt hZ) ?_
 refine zab fun K3 hK3=>?_
 refine szq hp (fun _ hZ=>jki hZ) ?_
 refine zad ?_
 refine zap hp (fun τ' H' mm=>∃(k:Nat),(k≤es.length)∧mm=es.length - k∧H'=[.cells [.d (iD (n:Int)),.d (zal es)],.cells (avs ((wlS n es t k).map oD))]∧τ'=frL [(1,.d (boolsD t)),(2,.op 0 0),(4,.d (.val (.slice none 0 0))),(5,.os 1 1 0 n),(6,.d (iD (k:Int)))]) (es.length) ?_ ⟨0,Nat.zero_le _,rfl,rfl,rfl⟩ ?_
 ·refine Rt.trans (Rt.gc (keep:=[0,1]) (by decide) (by decide) (by simp[fzH,gcH])) ?_
  refine jnh ?_
  refine jni ?_;rw[wlS,jcq];rfl
 rintro τ' H' mm ⟨k,hk,rfl,rfl,rfl⟩
 refine zab fun K5 hK5=>?_
 refine szq hp (fun _ hZ=>zxt hZ) ?_
 refine zak rfl (fun ht=>?_) (fun ht=>?_)
 ·have hke:k<es.length:=by simp at ht;omega
  obtain⟨a,ha⟩:∃a,a=(nth es k).1:=⟨_,rfl⟩
  obtain⟨b,hb2⟩:∃b,b=(nth es k).2:=⟨_,rfl⟩
  have hge:=h.e _ (za7 hke)
  rw[←ha,←hb2]at hge
  have hg2:(es.flatMap edC)[k*2]? =some (iD (a:Int)):=by rw[ha];exact zxb hke
  have hg3:(es.flatMap edC)[k*2+1]? =some (iD (b:Int)):=by rw[hb2];exact zxc hke
  have hg4:(t.map oD)[a]? =some (oD (nth t a)):=zbo (by omega)
  have hs:wlS n es t (k+1)=if nth t a=true then(wlS n es t k).set b true else wlS n es t k:=by rw[wlS,ha,hb2]
  clear ha hb2
  have hwl:=zcg n es t k
  refine zaf (hK5 _ _ ?_)
  refine zab fun K7 hK7=>?_
  refine zad ?_
  refine zae hp zao hc rfl fun K8 hK8=>?_
  simp -dsimp -implicitDefEqProofs (disch:=first|assumption|omega|(simp only[r_z,zah,zcu,zcg]<;>omega)|decide) only[r_r,↓reduceIte,Nat.reduceEqDiff,Nat.reduceAdd,D.fix,Int.reduceToNat,Nat.reduceMul,Nat.reduceBNe,Nat.reduceBEq,grD,zal,boolsD,hg2,hg4,zsp]
  refine hK8 _ _ ?_
  refine zak rfl (fun ht=>?_) (fun ht=>?_)
  ·rw[if_pos ht]at hs
   refine za6 hp zao hc rfl fun K9 hK9=>?_
   simp -dsimp -implicitDefEqProofs (disch:=first|assumption|omega|(simp only[r_z,zah,zcu,zcg]<;>omega)|decide) only[r_r,↓reduceIte,Nat.reduceEqDiff,Nat.reduceAdd,D.fix,Int.reduceToNat,Nat.reduceMul,Nat.reduceBNe,Nat.reduceBEq,grD,zal,boolsD,hg3,zor,zsp]
   refine hK9 _ _ (hK7 _ _ ?_)
   refine za6 hp zao hc rfl fun K10 hK10=>?_
   refine zxt ?_
   refine hK10 _ _ ⟨_,_,_,?_,⟨k+1,hke,rfl,rfl,rfl⟩,?_⟩
   ·first|omega|(simp only[List.length_cons];omega)|(dsimp only;omega)
   ·refine jnh ?_
    refine jni ?_;rw[hs];rfl
  ·rw[if_neg (by rw[ht];decide)]at hs
   refine zaf (hK7 _ _ ?_)
   refine za6 hp zao hc rfl fun K11 hK11=>?_
   refine zxt ?_
   refine hK11 _ _ ⟨_,_,_,?_,⟨k+1,hke,rfl,rfl,rfl⟩,?_⟩
   ·first|omega|(simp only[List.length_cons];omega)|(dsimp only;omega)
   ·refine jnh ?_
    refine jni ?_;rw[hs];rfl
 ·have hke:k=es.length:=by simp at ht;omega
  subst hke
  rw[jf6]
  have hwk:=zfl n es t
  refine zau (hK3 _ _ ?_)
  refine szq hp (fun _ hZ=>jki hZ) ?_
  refine zas ?_
  show closeA _ _=_
  simp (disch:=first|assumption|omega|(simp only[r_z,zah,zcu,zcg]<;>omega)|decide) only[r_c,Nat.reduceAdd,D.fix,↓reduceIte,Nat.reduceEqDiff,grD,zal,boolsD]
  rw[zfl]
theorem jnj{n:Nat}{es:List Ed}(h:Gr n es):∃L e,zkl n es=(L,e)∧(e=0∨e=4)∧L.length≤n∧(e=0→1≤L.length)∧(∀i,i<L.length→nth L i<n)∧(∀i,i<L.length→(nth L i,nth L ((i+1) % L.length))∈es)∧(∀i,i<L.length→nth L 0≤nth L i)∧(∀i j,i<L.length→j<i→nth L j≠nth L i)∧(e=0→∀v,v<n→∀d,1≤d→d<L.length→¬WayN (za0 n es) v v d)∧(e=4→L=[]∧∀v,v<n→∀d,1≤d→¬WayN (za0 n es) v v d):=by
 rcases jng h with⟨h1,h2⟩|⟨h1,h2⟩
 ·refine⟨(zkl n es).1,0,by rw[←h1],.inl rfl,h2.ln,fun _=>h2.l0,h2.lt,h2.ed,h2.hd,h2.ne,fun _=>h2.mn,fun h=>by cases h⟩
 ·exact⟨[],4,h1,.inr rfl,Nat.zero_le _,fun h=>by(cases h),fun i hi=>absurd hi (Nat.not_lt_zero _),fun i hi=>absurd hi (Nat.not_lt_zero _),fun i hi=>absurd hi (Nat.not_lt_zero _),fun i _ hi=>absurd hi (Nat.not_lt_zero _),fun h=>by(cases h),fun _=>⟨rfl,h2⟩⟩
theorem zeo{p q:Prop}(hq:q)(h:p=q:=by
 conv=>lhs;simp -dsimp -implicitDefEqProofs (disch:=first|assumption|omega|(simp only[r_z,zah,zag,zcu,zdw]<;>omega)|decide) only[r_r,↓reduceIte,Nat.reduceEqDiff,Nat.reduceAdd,D.fix,Int.reduceToNat,Nat.reduceMul,Nat.reduceBNe,Nat.reduceBEq,zhk,bytesD,grD,zal,lsD,zsp]):p:=h.mpr hq
theorem zo2{p q:Prop}(hq:q)(h:p=q:=by
 conv=>lhs;simp -dsimp -implicitDefEqProofs (disch:=first|assumption|omega|(simp only[r_z,zah,zag,zcu,zdw]<;>omega)|decide) only[r_r,↓reduceIte,Nat.reduceEqDiff,Nat.reduceAdd,D.fix,Int.reduceToNat,Nat.reduceMul,Nat.reduceBNe,Nat.reduceBEq,zhk,bytesD,grD,zal,lsD]):p:=h.mpr hq
theorem zsq{m:List Nat}{τ τ':Fr}{H H':zaa}(h2:H=H')(h:zf6 τ τ':=by
 repeat (first|exact zaj _|refine zac ?_ (by first|rfl|(simp[r_f,zah,zag,zcu,zdw];done)|simp[r_f,zah,zag,zcu,zdw, *]))):Rt m τ H τ' H':=Rt.end h h2
theorem zo3{p q r:Prop}(e:r)(hq:q)(h:r→p=q:=by
 intro hY
 conv=>lhs;simp -dsimp -implicitDefEqProofs (disch:=first|assumption|omega|(simp only[r_z,zah,zag,zcu,zdw]<;>omega)|decide) only[r_r,↓reduceIte,Nat.reduceEqDiff,Nat.reduceAdd,D.fix,Int.reduceToNat,Nat.reduceMul,Nat.reduceBNe,Nat.reduceBEq,zhk,bytesD,grD,zal,lsD,zsp,hY]):p:=(h e).mpr hq
theorem jkk{p q r:Prop}(e:r)(hq:q)(h:r→p=q:=by
 intro hY
 conv=>lhs;simp -dsimp -implicitDefEqProofs (disch:=first|assumption|omega|(simp only[r_z,zah,zag,zcu,zdw]<;>omega)|decide) only[r_r,↓reduceIte,Nat.reduceEqDiff,Nat.reduceAdd,D.fix,Int.reduceToNat,Nat.reduceMul,Nat.reduceBNe,Nat.reduceBEq,zhk,bytesD,grD,zal,lsD,decide_false,zsp,hY]):p:=(h e).mpr hq
theorem zsr{p:Prop}(h:p:=by
 first|rfl|(simp only[r_g,Nat.reduceAdd,↓reduceIte,Nat.reduceEqDiff,zhk,bytesD,grD,zal,lsD];first|done|rfl)):p:=h
theorem zss(x:RwG)(hx:RwOk x):zar Try.prog 5 [.agg (zhk x)] (.d (oD true)):=by
 refine zav (fn:=Try.f5) (by kernel_rfl) Try.func5 rfl (Nat.le_of_ble_eq_true rfl) fun c hc hp=>?_
 refine zat (τ':=frL [(0,.d (.agg (zhk x)))]) (by repeat (first|exact zaj _|refine zac ?_ (by first|rfl|(simp[r_f,zah,zag,zcu,zdw];done)|simp[r_f,zah,zag,zcu,zdw, *]))) ?_
 refine szq hp (fun _ hZ=>zeo hZ) ?_
 refine zae hp zao hc rfl fun K2 hK2=>?_
 refine zo2 ?_
 refine zbi (zkn) rfl ?_
 refine zo2 ?_
 refine hK2 _ _ ?_
 refine zab fun K3 hK3=>?_
 refine szq hp (fun _ hZ=>zeo hZ) ?_
 refine szf ?_
 refine zaf (hK3 _ _ ?_)
 refine zae hp zao hc rfl fun K5 hK5=>?_
 refine zeo ?_
 refine jba (jco x hx) rfl fun r hr=>?_
 obtain⟨n,es,hn12,hel,hG,rfl⟩:=hr
 obtain⟨L,e,hcy,he,hLn,hL1,hLt,hLe,hLh,hLd,hm0,hm4⟩:=jnj hG
 have hcc:=zrg n es hG
 rw[hcy]at hcc
 refine zeo ?_
 refine hK5 _ _ ?_
 refine zae hp zao hc rfl fun K6 hK6=>?_
 refine zeo ?_
 refine zbi (hcc) rfl ?_
 refine zeo ?_
 refine hK6 _ _ ?_
 refine zbb hp (τ':=frL [(2,.d (oD false)),(3,.d (oD true)),(4,.d (.fp [iD (n:Int),zal es] 0)),(5,.d (.fp [.fs (nsD L) L.length,iD e] 0))]) (H':=[]) ?_ ?_
 ·refine Rt.trans (Rt.fz (id:=1) (l:=[iD (n:Int),zal es]) rfl) ?_
  refine Rt.trans (Rt.fz (id:=2) (l:=[.fs (nsD L) L.length,iD e]) rfl) ?_
  refine Rt.trans (Rt.gc (keep:=[]) (by decide) (by decide) (by simp[fzH,gcH])) ?_
  refine zsq ?_
  exact zsr
 refine szq hp (fun _ hZ=>zeo hZ) ?_
 refine zab fun K8 hK8=>?_
 have hJ8:∀τ' H',(∃τ1 H1,∃(m:Nat),((e=0→1≤m∧m≤n)∧m≤n+1∧∀v,v<n→∀d,1≤d→d<m→¬WayN (za0 n es) v v d)∧H1=[]∧τ1=frL [(2,.d (oD false)),(3,.d (oD true)),(4,.d (.fp [iD (n:Int),zal es] 0)),(5,.d (.fp [.fs (nsD L) L.length,iD e] 0)),(6,.d (iD (m:Int)))]∧Rt [] τ' H' τ1 H1)→K8 τ' H':=by
  rintro τ' H' ⟨_,_,m,⟨hm1,hm2,hm3⟩,rfl,rfl,hrt⟩
  refine hK8 _ _ (zbb hp hrt ?_)
  clear hrt
  refine zab fun K9 hK9=>?_
  have hJ9:∀τ' H',(∃τ1 H1,∃(u:Bool),(u=true)∧H1=[]∧τ1=frL [(2,.d (oD false)),(3,.d (oD true)),(4,.d (.fp [iD (n:Int),zal es] 0)),(5,.d (.fp [.fs (nsD L) L.length,iD e] 0)),(6,.d (iD (m:Int)))]∧Rt [] τ' H' τ1 H1)→K9 τ' H':=by
   rintro τ' H' ⟨_,_,u,hu0,rfl,rfl,hrt⟩
   refine hK9 _ _ (zbb hp hrt ?_)
   clear hrt
   refine zab fun K10 hK10=>?_
   refine szq hp (fun _ hZ=>zo2 hZ) ?_
   refine zad ?_
   refine zap hp (fun τ' H' mm=>∃(v:Nat),(v≤n)∧mm=n - v∧H'=[]∧τ'=frL [(2,.d (oD false)),(3,.d (oD true)),(4,.d (.fp [iD (n:Int),zal es] 0)),(5,.d (.fp [.fs (nsD L) L.length,iD e] 0)),(6,.d (iD (m:Int))),(7,.d (iD (v:Int)))]) (n) ?_ ⟨0,Nat.zero_le _,rfl,rfl,rfl⟩ ?_
   ·refine zsq ?_
    exact zsr
   rintro τ' H' mm ⟨v,hv,rfl,rfl,rfl⟩
   refine zab fun K12 hK12=>?_
   refine szq hp (fun _ hZ=>zeo hZ) ?_
   refine zak rfl (fun ht=>?_) (fun ht=>?_)
   ·have hvn:v<n:=by simp at ht;omega
    have hwl:=zdw n es v 0
    have hfz:fzV 0 ((wIt n es v 0).map oD) (.os 1 0 0 n)= .d (.fs ((wIt n es v 0).map oD) n):=zj9 (zbp (by rw[zcu,hwl];omega))
    have hw0:(List.replicate n (oD false)).set v (oD true)=(wIt n es v 0).map oD:=by rw[wIt,←jca,jcq]
    have hw1:(List.replicate n (oD false)).set v (.val (.bool true))=(wIt n es v 0).map oD:=hw0
    have hw2:(List.replicate n (D.val (.bool false))).set v (.val (.bool true))=(wIt n es v 0).map oD:=hw0
    refine zaf (hK12 _ _ ?_)
    refine zab fun K14 hK14=>?_
    refine zad ?_
    refine szq hp (fun _ hZ=>zeo hZ) ?_
    refine szq hp (fun _ hZ=>zo3 (sza hw1 hw2) hZ) ?_
    refine szq hp (fun _ hZ=>zo2 hZ) ?_
    refine zad ?_
    refine zap hp (fun τ' H' mm=>∃(d:Nat) (u:List Bool),(u=wIt n es v d∧d<m+1)∧mm=m+1 - d∧H'=[]∧τ'=frL [(2,.d (oD false)),(3,.d (oD true)),(4,.d (.fp [iD (n:Int),zal es] 0)),(5,.d (.fp [.fs (nsD L) L.length,iD e] 0)),(6,.d (iD (m:Int))),(7,.d (iD (v:Int))),(8,.d (.fs (u.map oD) n)),(9,.d (iD ((d+1:Nat):Int)))]) (m+1) ?_ ⟨0,wIt n es v 0,⟨rfl,by omega⟩,rfl,rfl,rfl⟩ ?_
    ·refine Rt.trans (Rt.fz (id:=0) (l:=((wIt n es v 0).map oD)) rfl) ?_
     refine Rt.trans (Rt.gc (keep:=[]) (by decide) (by decide) (by simp[fzH,gcH])) ?_
     refine zsq ?_
     exact zsr
    rintro τ' H' mm ⟨d,u,⟨hue,hd⟩,rfl,rfl,rfl⟩
    refine zab fun K18 hK18=>?_
    refine szq hp (fun _ hZ=>zeo hZ) ?_
    refine zak rfl (fun ht=>?_) (fun ht=>?_)
    ·have hdm:d+1<m:=by simp at ht;omega
     have hul:u.length=n:=by rw[hue];exact zdw _ _ _ _
     have hwk:=jkj n es u hG (by omega) hul
     unfold boolsD at hwk
     rw[hul,zfl]at hwk
     have hnx:wIt n es v (d+1)=zxr n es u:=by rw[wIt,hue]
     have hno:nth (zxr n es u) v=false:=by
      rw[Bool.eq_false_iff,←hnx]
      exact fun h=>hm3 v hvn (d+1) (by omega) hdm (zxs hG hvn (d+1) v hvn h)
     have hg1:((zxr n es u).map oD)[v]? =some (oD false):=by rw[jcb (by rw[zfl];exact hvn),hno]
     refine zaf (hK18 _ _ ?_)
     refine zab fun K20 hK20=>?_
     refine zad ?_
     refine zae hp zao hc rfl fun K21 hK21=>?_
     refine zeo ?_
     refine zbi (hwk) rfl ?_
     refine zeo ?_
     refine hK21 _ _ ?_
     refine szq hp (fun _ hZ=>zo3 hg1 hZ) ?_
     refine szf ?_
     refine zaf (hK20 _ _ ?_)
     refine za6 hp zao hc rfl fun K23 hK23=>?_
     refine zeo ?_
     refine hK23 _ _ ⟨_,_,_,?_,⟨d+1,zxr n es u,⟨hnx.symm,by omega⟩,rfl,rfl,rfl⟩,?_⟩
     ·first|omega|(simp only[List.length_cons];omega)|(dsimp only;omega)
     ·refine zsq ?_
      exact zsr
    ·skip
     refine zau (hK14 _ _ ?_)
     refine za6 hp zao hc rfl fun K24 hK24=>?_
     refine zeo ?_
     refine hK24 _ _ ⟨_,_,_,?_,⟨v+1,hvn,rfl,rfl,rfl⟩,?_⟩
     ·first|omega|(simp only[List.length_cons];omega)|(dsimp only;omega)
     ·refine zsq ?_
      exact zsr
   ·skip
    refine zau (hK10 _ _ ?_)
    refine zab fun K25 hK25=>?_
    refine szq hp (fun _ hZ=>zo2 hZ) ?_
    refine zad ?_
    refine zap hp (fun τ' H' mm=>∃(i:Nat),(i≤L.length)∧mm=L.length - i∧H'=[]∧τ'=frL [(2,.d (oD false)),(3,.d (oD true)),(4,.d (.fp [iD (n:Int),zal es] 0)),(5,.d (.fp [.fs (nsD L) L.length,iD e] 0)),(10,.d (iD (i:Int)))]) (L.length) ?_ ⟨0,Nat.zero_le _,rfl,rfl,rfl⟩ ?_
    ·refine zsq ?_
     exact zsr
    rintro τ' H' mm ⟨i,hi,rfl,rfl,rfl⟩
    refine zab fun K27 hK27=>?_
    refine szq hp (fun _ hZ=>zeo hZ) ?_
    refine zak rfl (fun ht=>?_) (fun ht=>?_)
    ·have hiL:i<L.length:=by simp at ht;omega
     have hge:=hLt i hiL
     have hg0:(nsD L)[0]? =some (iD ((nth L 0:Nat):Int)):=za9 (by omega)
     have hg1:(nsD L)[i]? =some (iD ((nth L i:Nat):Int)):=za9 hiL
     have hmod:((i:Int)+1) % (L.length:Int)=(((i+1) % L.length:Nat):Int):=by push_cast;rfl
     have hml:(i+1) % L.length<L.length:=Nat.mod_lt _ (by omega)
     have hg2:(nsD L)[(i+1) % L.length]? =some (iD ((nth L ((i+1) % L.length):Nat):Int)):=za9 hml
     have hh:=hLh i hiL
     have hlt1:¬(((nth L i:Nat):Int)<((nth L 0:Nat):Int)):=by omega
     have hed:=jj8 es (nth L i) (nth L ((i+1) % L.length)) (by omega)
     rw[hasE_iff.2 (hLe i hiL)]at hed
     refine zaf (hK27 _ _ ?_)
     refine zab fun K29 hK29=>?_
     refine zad ?_
     refine zab fun K30 hK30=>?_
     refine zbf zao hc mixed rfl (q:=0) (by kernel_rfl) (by kernel_rfl) fun K31 hK31=>?_
     refine jkk (sza hg0 (sza hg1 (sza hlt1 (sza hmod hg2)))) ?_
     refine zbi (hed) rfl ?_
     refine jkk (sza hg0 (sza hg1 (sza hlt1 (sza hmod hg2)))) ?_
     refine hK31 _ _ ?_
     refine szf ?_
     refine zaf (hK30 _ _ ?_)
     refine szq hp (fun _ hZ=>zo2 hZ) ?_
     refine zad ?_
     refine zap hp (fun τ' H' mm=>∃(k:Nat),(k≤i)∧mm=i - k∧H'=[]∧τ'=frL [(2,.d (oD false)),(3,.d (oD true)),(4,.d (.fp [iD (n:Int),zal es] 0)),(5,.d (.fp [.fs (nsD L) L.length,iD e] 0)),(10,.d (iD (i:Int))),(11,.d (iD (k:Int)))]) (i) ?_ ⟨0,Nat.zero_le _,rfl,rfl,rfl⟩ ?_
     ·refine zsq ?_
      exact zsr
     rintro τ' H' mm ⟨k,hk,rfl,rfl,rfl⟩
     refine zab fun K33 hK33=>?_
     refine szq hp (fun _ hZ=>zeo hZ) ?_
     refine zak rfl (fun ht=>?_) (fun ht=>?_)
     ·have hki:k<i:=by simp at ht;omega
      have hg3:(nsD L)[k]? =some (iD ((nth L k:Nat):Int)):=za9 (by omega)
      have hne:(((nth L k:Nat):Int)==((nth L i:Nat):Int))=false:=by
       rw[beq_eq_false_iff_ne]
       have:=hLd i k hiL hki
       omega
      refine zaf (hK33 _ _ ?_)
      refine zab fun K35 hK35=>?_
      refine zad ?_
      refine zbf zao hc mixed rfl (q:=0) (by kernel_rfl) (by kernel_rfl) fun K36 hK36=>?_
      refine zo3 (sza hg3 (sza hg1 hne)) ?_
      refine hK36 _ _ ?_
      refine szf ?_
      refine zaf (hK35 _ _ ?_)
      refine za6 hp zao hc rfl fun K37 hK37=>?_
      refine zeo ?_
      refine hK37 _ _ ⟨_,_,_,?_,⟨k+1,hki,rfl,rfl,rfl⟩,?_⟩
      ·first|omega|(simp only[List.length_cons];omega)|(dsimp only;omega)
      ·refine zsq ?_
       exact zsr
     ·skip
      refine zau (hK29 _ _ ?_)
      refine za6 hp zao hc rfl fun K38 hK38=>?_
      refine zeo ?_
      refine hK38 _ _ ⟨_,_,_,?_,⟨i+1,hiL,rfl,rfl,rfl⟩,?_⟩
      ·first|omega|(simp only[List.length_cons];omega)|(dsimp only;omega)
      ·refine zsq ?_
       exact zsr
    ·skip
     refine zau (hK25 _ _ ?_)
     refine szq hp (fun _ hZ=>zo2 hZ) ?_
     refine zas ?_
     show closeA _ _=_
     simp (disch:=first|assumption|omega|(simp only[r_z,zah,zag,zcu,zdw]<;>omega)|decide) only[r_c,Nat.reduceAdd,D.fix,↓reduceIte,Nat.reduceEqDiff,zhk,bytesD,grD,zal,lsD]
  refine zae hp zao hc rfl fun K40 hK40=>?_
  rcases tf (e==0)with q1|q1
  ·have q2:=hm1 (by simpa using q1)
   have q3:decide ((m:Int)<1)=false:=decide_eq_false (by omega)
   have q4:decide ((n:Int)<(m:Int))=false:=decide_eq_false (by omega)
   refine zo3 (sza q1 (sza q3 q4)) ?_
   refine hK40 _ _ ?_
   refine szf ?_
   refine zaf (hJ9 _ _ ⟨_,_,true,rfl,rfl,rfl,?_⟩)
   refine zsq ?_
   exact zsr
  ·have q3:=q1
   have q4:=q1
   refine zo3 (sza q1 (sza q3 q4)) ?_
   refine hK40 _ _ ?_
   refine szf ?_
   refine zaf (hJ9 _ _ ⟨_,_,true,rfl,rfl,rfl,?_⟩)
   refine zsq ?_
   exact zsr
 refine zae hp zao hc rfl fun K41 hK41=>?_
 rcases tf (e !=0)with q1|q1
 ·refine zo3 q1 ?_
  refine hK41 _ _ ?_
  refine szt ?_
  refine za6 hp zao hc rfl fun K42 hK42=>?_
  refine zeo ?_
  refine hK42 _ _ (hJ8 _ _ ⟨_,_,n+1,⟨(fun h=>by rw[h]at q1;cases q1),Nat.le_refl _,(fun v hv d h1 _=>(hm4 (he.resolve_left (fun h=>by rw[h]at q1;cases q1))).2 v hv d h1)⟩,rfl,rfl,?_⟩)
  refine zsq ?_
  exact zsr
 ·refine zo3 q1 ?_
  refine hK41 _ _ ?_
  refine szf ?_
  refine zaf (hJ8 _ _ ⟨_,_,L.length,⟨(fun h=>⟨hL1 h,hLn⟩),by omega,(fun v hv d h1 h2=>hm0 (by simpa using q1) v hv d h1 h2)⟩,rfl,rfl,?_⟩)
  refine zsq ?_
  exact zsr
end Go.Proofs.Ytfolbdkbpmgjgaa
