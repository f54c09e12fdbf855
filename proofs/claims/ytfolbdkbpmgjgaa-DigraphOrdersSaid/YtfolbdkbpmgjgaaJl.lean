/- The generated graph. -/
import Derived.Test.YtfolbdkbpmgjgaaQr
import Derived.Test.YtfolbdkbpmgjgaaJk
set_option linter.unusedVariables false
set_option linter.unusedSimpArgs false
set_option maxRecDepth 100000
set_option maxHeartbeats 4000000
namespace Go.Proofs.Ytfolbdkbpmgjgaa
open Go Go.RowKit
theorem jf1:(((((type_of% @zgq)∧((type_of% @zju)∧(type_of% @zjv)))∧((type_of% @zrw)∧((type_of% @zu3)∧(type_of% @jny))))∧(((type_of% @jnz)∧((type_of% @jkz)∧(type_of% @jgb)))∧((type_of% @zrx)∧((type_of% @zha)∧(type_of% @zu5)))))∧((((type_of% @jhw)∧((type_of% @jhx)∧(type_of% @jhy)))∧((type_of% @zd0)∧((type_of% @zjs)∧(type_of% @zjt))))∧(((type_of% @zr3)∧((type_of% @zhd)∧(type_of% @zhe)))∧((type_of% @zr2)∧((type_of% @zrv)∧(type_of% @zu4)))))):=⟨⟨⟨⟨@zgq,⟨@zju,@zjv⟩⟩,⟨@zrw,⟨@zu3,@jny⟩⟩⟩,⟨⟨@jnz,⟨@jkz,@jgb⟩⟩,⟨@zrx,⟨@zha,@zu5⟩⟩⟩⟩,⟨⟨⟨@jhw,⟨@jhx,@jhy⟩⟩,⟨@zd0,⟨@zjs,@zjt⟩⟩⟩,⟨⟨@zr3,⟨@zhd,@zhe⟩⟩,⟨@zr2,⟨@zrv,@zu4⟩⟩⟩⟩⟩
structure RwG where
 n:Int
 k:Int
 b:List Int
def Bt(b:Int):Prop:=0≤b∧b<256
structure RwOk (x:RwG):Prop where
 n:Bt x.n
 k:Bt x.k
 b:∀y∈x.b,Bt y
def zgx(x:RwG):List D:=[bD x.n,bD x.k,bytesD x.b]
def jo9(r:AV):Prop:=∃n es,n≤12∧es.length≤30∧Gr n es∧r= .d (grD n es)
theorem jkf{n:Nat}(h:n≤12):Gr n []:=⟨by omega,by simp,fun e he=>by cases he⟩
theorem jf2{n v w:Nat}{es:List Ed}(h:Gr n es)(hl:es.length≤1000)(hv:v<n)(hw:w<n):Gr n (es++[(v,w)]):=⟨h.b,by simp;omega,fun e he=>by
 rcases List.mem_append.1 he with he|he
 ·exact h.e e he
 ·rw[List.mem_singleton.1 he];exact⟨hv,hw⟩⟩
theorem zh3{p q:Prop}(hq:q)(h:p=q:=by
 conv=>lhs;simp -dsimp -implicitDefEqProofs (disch:=first|assumption|omega|(simp only[r_z,zak]<;>omega)|decide) only[r_r,↓reduceIte,Nat.reduceEqDiff,Nat.reduceAdd,D.fix,Int.reduceToNat,Nat.reduceMul,Nat.reduceBNe,Nat.reduceBEq,zgx,bytesD,zan,jf1]):p:=h.mpr hq
theorem zoz{p q r:Prop}(e:r)(hq:q)(h:r→p=q:=by
 intro hY
 conv=>lhs;simp -dsimp -implicitDefEqProofs (disch:=first|assumption|omega|(simp only[r_z,zak]<;>omega)|decide) only[r_r,↓reduceIte,Nat.reduceEqDiff,Nat.reduceAdd,D.fix,Int.reduceToNat,Nat.reduceMul,Nat.reduceBNe,Nat.reduceBEq,zgx,bytesD,zan,jf1,hY]):p:=(h e).mpr hq
theorem jkg{p q:Prop}(hq:q)(h:p=q:=by
 conv=>lhs;simp -dsimp -implicitDefEqProofs (disch:=first|assumption|omega|(simp only[r_z,zak]<;>omega)|decide) only[r_r,↓reduceIte,Nat.reduceEqDiff,Nat.reduceAdd,D.fix,Int.reduceToNat,Nat.reduceMul,Nat.reduceBNe,Nat.reduceBEq,zgx,bytesD,zan]):p:=h.mpr hq
theorem zo0{m:List Nat}{τ τ':Fr}{H H':zaa}(h2:H=H')(h:zgb τ τ':=by
 repeat (first|exact zaj _|refine zac ?_ (by first|rfl|(simp[r_f,zak];done)|simp[r_f,zak, *]))):Rt m τ H τ' H':=Rt.end h h2
theorem jf3{p q r:Prop}(e:r)(hq:q)(h:r→p=q:=by
 intro hY
 conv=>lhs;simp -dsimp -implicitDefEqProofs (disch:=first|assumption|omega|(simp only[r_z,zak]<;>omega)|decide) only[r_r,↓reduceIte,Nat.reduceEqDiff,Nat.reduceAdd,D.fix,Int.reduceToNat,Nat.reduceMul,Nat.reduceBNe,Nat.reduceBEq,zgx,bytesD,zan,decide_true,decide_false,Bool.not_true,Bool.not_false,jf1,hY]):p:=(h e).mpr hq
theorem zrg{p:Prop}(h:p:=by
 first|rfl|(simp only[r_g,Nat.reduceAdd,↓reduceIte,Nat.reduceEqDiff,zgx,bytesD,zan];first|done|rfl)):p:=h
theorem jcn(x:RwG)(hx:RwOk x):zih Try.prog 11 [.agg (zgx x)] (jo9):=by
 obtain⟨n,hn⟩:∃n:Nat,n=(x.n % 13).toNat:=⟨_,rfl⟩
 obtain⟨x0,x1⟩:=hx.n
 obtain⟨k0,k1⟩:=hx.k
 have hn12:n≤12:=by omega
 have hnn:x.n % 13=(n:Int):=by omega
 refine zrr (fn:=Try.f11) (by kernel_rfl) Try.func11 rfl (Nat.le_of_ble_eq_true rfl) fun c hc hp=>?_
 refine zat (τ':=frL [(0,.d (.agg (zgx x)))]) (by repeat (first|exact zaj _|refine zac ?_ (by first|rfl|(simp[r_f,zak];done)|simp[r_f,zak, *]))) ?_
 refine szq hp (fun _ hZ=>zh3 hZ) ?_
 refine szq hp (fun _ hZ=>zoz hnn hZ) ?_
 refine szq hp (fun _ hZ=>zh3 hZ) ?_
 refine zab fun K4 hK4=>?_
 refine szq hp (fun _ hZ=>jkg hZ) ?_
 refine zae ?_
 refine zaq hp (fun τ' H' mm=>∃(i:Nat) (es:List Ed),(i≤60∧i % 2=0∧es.length*2≤i∧Gr n es)∧mm=62 - i∧H'=[.cells [.d (bD x.n),.d (bD x.k),.d (bytesD x.b)],.cells [.d (iD 0),.d (.val (.slice none 0 0))],.cells [.d (iD (n:Int)),.os 2 3 0 es.length],.cells (avs (es.flatMap edC))]∧τ'=frL [(1,.op 0 0),(2,.op 1 0),(3,.d (iD (n:Int))),(4,.op 2 0),(5,.d (iD (i:Int)))]) (62) ?_ ⟨0,[],⟨Nat.zero_le _,rfl,by simp,jkf hn12⟩,rfl,rfl,rfl⟩ ?_
 ·refine Rt.trans (Rt.gc (keep:=[0,1,2]) (by decide) (by decide) (by simp[fzH,gcH])) ?_
  refine Rt.trans (Rt.nilc 2 1 2 rfl rfl) ?_
  refine zo0 ?_
  exact zrg
 rintro τ' H' mm ⟨i,es,⟨hi,hpa,hel,hG⟩,rfl,rfl,rfl⟩
 refine zab fun K6 hK6=>?_
 have h3:¬((i:Int)+1<(x.b.length:Int))∨((i:Int)+1<(x.b.length:Int)∧¬((i:Int)<60))∨((i:Int)+1<(x.b.length:Int)∧(i:Int)<60):=by omega
 refine zaf hp zao hc rfl fun K7 hK7=>?_
 have hJ7:∀τ' H',(∃τ1 H1,∃(c1:Bool),(c1=true→i+1<x.b.length∧i<60∧0<n)∧H1=[.cells [.d (bD x.n),.d (bD x.k),.d (bytesD x.b)],.cells [.d (iD 0),.d (.val (.slice none 0 0))],.cells [.d (iD (n:Int)),.os 2 3 0 es.length],.cells (avs (es.flatMap edC))]∧τ1=frL [(1,.op 0 0),(2,.op 1 0),(3,.d (iD (n:Int))),(4,.op 2 0),(5,.d (iD (i:Int))),(27,.d (oD c1))]∧Rt [] τ' H' τ1 H1)→K7 τ' H':=by
  rintro τ' H' ⟨_,_,c1,hcc,rfl,rfl,hrt⟩
  refine hK7 _ _ (zbe hp hrt ?_)
  clear hrt
  refine zai rfl (fun ht=>?_) (fun ht=>?_)
  ·obtain⟨hb1,hb2,hn0⟩:=hcc ht
   obtain⟨v,hv⟩:∃v:Nat,v=(nth x.b i % (n:Int)).toNat:=⟨_,rfl⟩
   obtain⟨w,hw⟩:∃w:Nat,w=(nth x.b (i+1) % (n:Int)).toNat:=⟨_,rfl⟩
   obtain⟨y0,y1⟩:=hx.b _ (za8 (l:=x.b) (k:=i) (by omega))
   obtain⟨z0,z1⟩:=hx.b _ (za8 (l:=x.b) (k:=i+1) (by omega))
   have hvm:=Int.emod_nonneg (nth x.b i) (show(n:Int)≠0 by omega)
   have hvm2:=Int.emod_lt_of_pos (nth x.b i) (show(0:Int)<n by omega)
   have hwm:=Int.emod_nonneg (nth x.b (i+1)) (show(n:Int)≠0 by omega)
   have hwm2:=Int.emod_lt_of_pos (nth x.b (i+1)) (show(0:Int)<n by omega)
   have hve:nth x.b i % (n:Int)=(v:Int):=by omega
   have hwe:nth x.b (i+1) % (n:Int)=(w:Int):=by omega
   have hi1:((i:Int)+1).toNat=i+1:=by omega
   have hvn:v<n:=by omega
   have hwn:w<n:=by omega
   have hg1:(x.b.map bD)[i]? =some (bD (nth x.b i)):=zbs (by omega)
   have hg2:(x.b.map bD)[i+1]? =some (bD (nth x.b (i+1))):=zbs (by omega)
   refine zag (hK6 _ _ ?_)
   refine zab fun K8 hK8=>?_
   refine zae ?_
   refine szq hp (fun _ hZ=>zoz (sza hg1 hve) hZ) ?_
   refine szq hp (fun _ hZ=>zoz (sza hi1 (sza hg2 hwe)) hZ) ?_
   refine zab fun K11 hK11=>?_
   have hJ11:∀τ' H',(∃τ1 H1,∃(v w:Nat),(v<n∧w<n)∧H1=[.cells [.d (bD x.n),.d (bD x.k),.d (bytesD x.b)],.cells [.d (iD 0),.d (.val (.slice none 0 0))],.cells [.d (iD (n:Int)),.os 2 3 0 es.length],.cells (avs (es.flatMap edC))]∧τ1=frL [(1,.op 0 0),(2,.op 1 0),(3,.d (iD (n:Int))),(4,.op 2 0),(5,.d (iD (i:Int))),(6,.d (iD (v:Int))),(7,.d (iD (w:Int)))]∧Rt [] τ' H' τ1 H1)→K11 τ' H':=by
    rintro τ' H' ⟨_,_,v,w,⟨hv2,hw2⟩,rfl,rfl,hrt⟩
    refine hK11 _ _ (zbe hp hrt ?_)
    clear hrt
    refine szs hp (fun _ hZ=>zh3 hZ) (hK8 _ _ ?_)
    refine zbd hp zao hc rfl fun K13 hK13=>?_
    refine zh3 ?_
    refine hK13 _ _ ⟨_,_,_,?_,⟨i+2,es++[(v,w)],⟨by omega,by omega,by simp;omega,jf2 hG (by omega) hv2 hw2⟩,rfl,rfl,rfl⟩,?_⟩
    ·first|omega|(simp only[List.length_cons];omega)|(dsimp only;omega)
    ·refine Rt.trans (Rt.gc (keep:=[0,1,2,5]) (by decide) (by decide) (by simp[fzH,gcH])) ?_
     refine zo0 ?_
     simp only[r_g,Nat.reduceAdd,↓reduceIte,Nat.reduceEqDiff,zgx,bytesD,zan];rw[←zw6,List.append_assoc,List.length_append];rfl
   refine szq hp (fun _ hZ=>zh3 hZ) ?_
   refine zai rfl (fun ht=>?_) (fun ht=>?_)
   ·skip
    refine zab fun K15 hK15=>?_
    refine szq hp (fun _ hZ=>zh3 hZ) ?_
    refine zai rfl (fun ht=>?_) (fun ht=>?_)
    ·skip
     refine zaw (hK8 _ _ ?_)
     refine zbd hp zao hc rfl fun K17 hK17=>?_
     refine zh3 ?_
     refine hK17 _ _ ⟨_,_,_,?_,⟨i+2,es,⟨by omega,by omega,by omega,hG⟩,rfl,rfl,rfl⟩,?_⟩
     ·first|omega|(simp only[List.length_cons];omega)|(dsimp only;omega)
     ·refine zo0 ?_
      exact zrg
    ·skip
     refine zag (hK15 _ _ ?_)
     refine zab fun K18 hK18=>?_
     have hJ18:∀τ' H',(∃τ1 H1,∃(v w:Nat),(v<n∧w<n)∧H1=[.cells [.d (bD x.n),.d (bD x.k),.d (bytesD x.b)],.cells [.d (iD 0),.d (.val (.slice none 0 0))],.cells [.d (iD (n:Int)),.os 2 3 0 es.length],.cells (avs (es.flatMap edC))]∧τ1=frL [(1,.op 0 0),(2,.op 1 0),(3,.d (iD (n:Int))),(4,.op 2 0),(5,.d (iD (i:Int))),(6,.d (iD (v:Int))),(7,.d (iD (w:Int)))]∧Rt [] τ' H' τ1 H1)→K18 τ' H':=by
      rintro τ' H' ⟨_,_,v,w,⟨hv3,hw3⟩,rfl,rfl,hrt⟩
      refine hK18 _ _ (zbe hp hrt ?_)
      clear hrt
      refine zab fun K19 hK19=>?_
      have hJ19:∀τ' H',(∃τ1 H1,∃(v w:Nat),(v<n∧w<n)∧H1=[.cells [.d (bD x.n),.d (bD x.k),.d (bytesD x.b)],.cells [.d (iD 0),.d (.val (.slice none 0 0))],.cells [.d (iD (n:Int)),.os 2 3 0 es.length],.cells (avs (es.flatMap edC))]∧τ1=frL [(1,.op 0 0),(2,.op 1 0),(3,.d (iD (n:Int))),(4,.op 2 0),(5,.d (iD (i:Int))),(6,.d (iD (v:Int))),(7,.d (iD (w:Int)))]∧Rt [] τ' H' τ1 H1)→K19 τ' H':=by
       rintro τ' H' ⟨_,_,v,w,⟨hv4,hw4⟩,rfl,rfl,hrt⟩
       refine hK19 _ _ (zbe hp hrt ?_)
       clear hrt
       refine zaf hp zao hc rfl fun K20 hK20=>?_
       rcases tf (((n:Int) % 5)==0)with q1|q1
       ·refine zoz q1 ?_
        refine hK20 _ _ ?_
        refine zai rfl (fun ht=>?_) (fun ht=>?_)
        ·refine zaw (hK8 _ _ ?_)
         refine zbd hp zao hc rfl fun K21 hK21=>?_
         refine zh3 ?_
         refine hK21 _ _ ⟨_,_,_,?_,⟨i+2,es,⟨by omega,by omega,by omega,hG⟩,rfl,rfl,rfl⟩,?_⟩
         ·first|omega|(simp only[List.length_cons];omega)|(dsimp only;omega)
         ·refine zo0 ?_
          exact zrg
        ·refine zag (hJ11 _ _ ⟨_,_,v,w,⟨hv4,hw4⟩,rfl,rfl,?_⟩)
         refine zo0 ?_
         exact zrg
       ·refine zoz q1 ?_
        refine hK20 _ _ ?_
        refine zai rfl (fun ht=>?_) (fun ht=>?_)
        ·refine zaw (hK8 _ _ ?_)
         refine zbd hp zao hc rfl fun K22 hK22=>?_
         refine zh3 ?_
         refine hK22 _ _ ⟨_,_,_,?_,⟨i+2,es,⟨by omega,by omega,by omega,hG⟩,rfl,rfl,rfl⟩,?_⟩
         ·first|omega|(simp only[List.length_cons];omega)|(dsimp only;omega)
         ·refine zo0 ?_
          exact zrg
        ·refine zag (hJ11 _ _ ⟨_,_,v,w,⟨hv4,hw4⟩,rfl,rfl,?_⟩)
         refine zo0 ?_
         exact zrg
      refine szq hp (fun _ hZ=>zh3 hZ) ?_
      refine zai rfl (fun ht=>?_) (fun ht=>?_)
      ·have hve2:=Int.emod_nonneg (5*(v:Int)+3) (show(n:Int)≠0 by omega)
       have hve3:=Int.emod_lt_of_pos (5*(v:Int)+3) (show(0:Int)<n by omega)
       have hwe2:=Int.emod_nonneg (5*(w:Int)+3) (show(n:Int)≠0 by omega)
       have hwe3:=Int.emod_lt_of_pos (5*(w:Int)+3) (show(0:Int)<n by omega)
       obtain⟨v2,hv5⟩:∃v2:Nat,(5*(v:Int)+3) % (n:Int)=(v2:Int):=⟨((5*(v:Int)+3) % (n:Int)).toNat,by omega⟩
       obtain⟨w2,hw5⟩:∃w2:Nat,(5*(w:Int)+3) % (n:Int)=(w2:Int):=⟨((5*(w:Int)+3) % (n:Int)).toNat,by omega⟩
       have hv6:v2<n:=by omega
       have hw6:w2<n:=by omega
       refine szq hp (fun _ hZ=>zoz hv5 hZ) ?_
       refine zbd hp zao hc rfl fun K25 hK25=>?_
       refine zoz hw5 ?_
       refine hK25 _ _ (hJ19 _ _ ⟨_,_,v2,w2,⟨hv6,hw6⟩,rfl,rfl,?_⟩)
       refine zo0 ?_
       exact zrg
      ·refine zag (hJ19 _ _ ⟨_,_,v,w,⟨hv3,hw3⟩,rfl,rfl,?_⟩)
       refine zo0 ?_
       exact zrg
     refine szq hp (fun _ hZ=>zh3 hZ) ?_
     refine zai rfl (fun ht=>?_) (fun ht=>?_)
     ·skip
      refine zbd hp zao hc rfl fun K27 hK27=>?_
      refine jkg ?_
      refine hK27 _ _ (hJ18 _ _ ⟨_,_,w,v,⟨hwn,hvn⟩,rfl,rfl,?_⟩)
      refine zo0 ?_
      exact zrg
     ·refine zag (hJ18 _ _ ⟨_,_,v,w,⟨hvn,hwn⟩,rfl,rfl,?_⟩)
      refine zo0 ?_
      exact zrg
   ·refine zag (hJ11 _ _ ⟨_,_,v,w,⟨hvn,hwn⟩,rfl,rfl,?_⟩)
    refine zo0 ?_
    exact zrg
  ·skip
   refine zaw (hK4 _ _ ?_)
   refine szq hp (fun _ hZ=>zh3 hZ) ?_
   refine zar ?_
   try dsimp only[zc8,za7]
   refine zck rfl ?_
   simp -dsimp -implicitDefEqProofs (disch:=first|assumption|omega|(simp only[r_z,zak]<;>omega)|decide) only[r_r,↓reduceIte,Nat.reduceEqDiff,Nat.reduceAdd,D.fix,Int.reduceToNat,Nat.reduceMul,Nat.reduceBNe,Nat.reduceBEq,zgx,bytesD,zan,zgq,zju]
   show ∃r,closeA _ _=some r∧_
   simp (disch:=first|assumption|omega|(simp only[r_z,zak]<;>omega)|decide) only[r_c,Nat.reduceAdd,D.fix,↓reduceIte,Nat.reduceEqDiff,zgx,bytesD,zan]
   exact⟨_,rfl,n,es,hn12,by omega,hG,by rw[jce];rfl⟩
 rcases h3 with q1|⟨q1,q2⟩|⟨q1,q2⟩
 ·have q2:=q1
  refine jf3 (sza q1 q2) ?_
  refine(hJ7 _ _ ⟨_,_,false,(fun h=>by cases h),rfl,rfl,?_⟩)
  refine zo0 ?_
  exact zrg
 ·refine jf3 (sza q1 q2) ?_
  refine(hJ7 _ _ ⟨_,_,false,(fun h=>by cases h),rfl,rfl,?_⟩)
  refine zo0 ?_
  exact zrg
 ·refine jf3 (sza q1 q2) ?_
  refine(hJ7 _ _ ⟨_,_,decide (0<(n:Int)),(fun h=>by rw[decide_eq_true_eq]at h;omega),rfl,rfl,?_⟩)
  refine zo0 ?_
  exact zrg
end Go.Proofs.Ytfolbdkbpmgjgaa
