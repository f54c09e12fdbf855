/- The generated graph. -/
import Derived.Test.YtfolbdkbpmgjgaaQr
import Derived.Test.YtfolbdkbpmgjgaaJk
set_option linter.unusedVariables false
set_option linter.unusedSimpArgs false
set_option maxRecDepth 100000
set_option maxHeartbeats 4000000
namespace Go.Proofs.Ytfolbdkbpmgjgaa
open Go Go.RowKit
theorem jhq:(((((type_of% @zid)∧((type_of% @znn)∧(type_of% @zno)))∧((type_of% @zs2)∧((type_of% @zwd)∧(type_of% @jrb))))∧(((type_of% @jrc)∧((type_of% @jrd)∧(type_of% @jn1)))∧((type_of% @zs3)∧((type_of% @zhn)∧(type_of% @zwf)))))∧((((type_of% @jj9)∧((type_of% @jka)∧(type_of% @jkb)))∧((type_of% @zfg)∧((type_of% @znk)∧(type_of% @znl))))∧(((type_of% @zs5)∧((type_of% @zho)∧(type_of% @zhp)))∧((type_of% @zs4)∧((type_of% @zs1)∧(type_of% @zwe)))))):=⟨⟨⟨⟨@zid,⟨@znn,@zno⟩⟩,⟨@zs2,⟨@zwd,@jrb⟩⟩⟩,⟨⟨@jrc,⟨@jrd,@jn1⟩⟩,⟨@zs3,⟨@zhn,@zwf⟩⟩⟩⟩,⟨⟨⟨@jj9,⟨@jka,@jkb⟩⟩,⟨@zfg,⟨@znk,@znl⟩⟩⟩,⟨⟨@zs5,⟨@zho,@zhp⟩⟩,⟨@zs4,⟨@zs1,@zwe⟩⟩⟩⟩⟩
structure RwG where
 n:Int
 k:Int
 b:List Int
def Bt(b:Int):Prop:=0≤b∧b<256
structure RwOk (x:RwG):Prop where
 n:Bt x.n
 k:Bt x.k
 b:∀y∈x.b,Bt y
def zk6(x:RwG):List D:=[bD x.n,bD x.k,bytesD x.b]
def jsr(r:AV):Prop:=∃n es,n≤12∧es.length≤30∧Gr n es∧r= .d (grD n es)
theorem jmq{n:Nat}(h:n≤12):Gr n []:=⟨by omega,by simp,fun e he=>by cases he⟩
theorem jhr{n v w:Nat}{es:List Ed}(h:Gr n es)(hl:es.length≤1000)(hv:v<n)(hw:w<n):Gr n (es++[(v,w)]):=⟨h.b,by simp;omega,fun e he=>by
 rcases List.mem_append.1 he with he|he
 ·exact h.e e he
 ·rw[List.mem_singleton.1 he];exact⟨hv,hw⟩⟩
theorem zig{p q:Prop}(hq:q)(h:p=q:=by
 conv=>lhs;simp -dsimp -implicitDefEqProofs (disch:=first|assumption|omega|(simp only[r_z,zac]<;>omega)|decide) only[r_r,↓reduceIte,Nat.reduceEqDiff,Nat.reduceAdd,D.fix,Int.reduceToNat,Nat.reduceMul,Nat.reduceBNe,Nat.reduceBEq,zk6,bytesD,zag,jhq]):p:=h.mpr hq
theorem zpy{p q r:Prop}(e:r)(hq:q)(h:r→p=q:=by
 intro hY
 conv=>lhs;simp -dsimp -implicitDefEqProofs (disch:=first|assumption|omega|(simp only[r_z,zac]<;>omega)|decide) only[r_r,↓reduceIte,Nat.reduceEqDiff,Nat.reduceAdd,D.fix,Int.reduceToNat,Nat.reduceMul,Nat.reduceBNe,Nat.reduceBEq,zk6,bytesD,zag,jhq,hY]):p:=(h e).mpr hq
theorem jmr{p q:Prop}(hq:q)(h:p=q:=by
 conv=>lhs;simp -dsimp -implicitDefEqProofs (disch:=first|assumption|omega|(simp only[r_z,zac]<;>omega)|decide) only[r_r,↓reduceIte,Nat.reduceEqDiff,Nat.reduceAdd,D.fix,Int.reduceToNat,Nat.reduceMul,Nat.reduceBNe,Nat.reduceBEq,zk6,bytesD,zag]):p:=h.mpr hq
theorem zpz{m:List Nat}{τ τ':Fr}{H H':zaa}(h2:H=H')(h:zez τ τ':=by
 repeat (first|exact zal _|refine zaf ?_ (by first|rfl|(simp[r_f,zac];done)|simp[r_f,zac, *]))):Rt m τ H τ' H':=Rt.end h h2
theorem jhs{p q r:Prop}(e:r)(hq:q)(h:r→p=q:=by
 intro hY
 conv=>lhs;simp -dsimp -implicitDefEqProofs (disch:=first|assumption|omega|(simp only[r_z,zac]<;>omega)|decide) only[r_r,↓reduceIte,Nat.reduceEqDiff,Nat.reduceAdd,D.fix,Int.reduceToNat,Nat.reduceMul,Nat.reduceBNe,Nat.reduceBEq,zk6,bytesD,zag,decide_true,decide_false,Bool.not_true,Bool.not_false,jhq,hY]):p:=(h e).mpr hq
theorem zsg{p:Prop}(h:p:=by
 first|rfl|(simp only[r_g,Nat.reduceAdd,↓reduceIte,Nat.reduceEqDiff,zk6,bytesD,zag];first|done|rfl)):p:=h
theorem jms(x:RwG)(hx:RwOk x):zix Try.prog 11 [.agg (zk6 x)] (jsr):=by
 obtain⟨n,hn⟩:∃n:Nat,n=(x.n % 13).toNat:=⟨_,rfl⟩
 obtain⟨x0,x1⟩:=hx.n
 obtain⟨k0,k1⟩:=hx.k
 have hn12:n≤12:=by omega
 have hnn:x.n % 13=(n:Int):=by omega
 refine zsw (fn:=Try.f11) (by kernel_rfl) Try.func11 rfl (Nat.le_of_ble_eq_true rfl) fun c hc hp=>?_
 refine zaw (τ':=frL [(0,.d (.agg (zk6 x)))]) (by repeat (first|exact zal _|refine zaf ?_ (by first|rfl|(simp[r_f,zac];done)|simp[r_f,zac, *]))) ?_
 refine szq hp (fun _ hZ=>zig hZ) ?_
 refine szq hp (fun _ hZ=>zpy hnn hZ) ?_
 refine szq hp (fun _ hZ=>zig hZ) ?_
 refine zab fun K4 hK4=>?_
 refine szq hp (fun _ hZ=>jmr hZ) ?_
 refine zae ?_
 refine zao hp (fun τ' H' mm=>∃(i:Nat) (es:List Ed),(i≤60∧i % 2=0∧es.length*2≤i∧Gr n es)∧mm=62 - i∧H'=[.cells [.d (bD x.n),.d (bD x.k),.d (bytesD x.b)],.cells [.d (iD 0),.d (.val (.slice none 0 0))],.cells [.d (iD (n:Int)),.os 2 3 0 es.length],.cells (avs (es.flatMap edC))]∧τ'=frL [(1,.op 0 0),(2,.op 1 0),(3,.d (iD (n:Int))),(4,.op 2 0),(5,.d (iD (i:Int)))]) (62) ?_ ⟨0,[],⟨Nat.zero_le _,rfl,by simp,jmq hn12⟩,rfl,rfl,rfl⟩ ?_
 ·refine Rt.trans (Rt.gc (keep:=[0,1,2]) (by decide) (by decide) (by simp[fzH,gcH])) ?_
  refine Rt.trans (Rt.nilc 2 1 2 rfl rfl) ?_
  refine zpz ?_
  exact zsg
 rintro τ' H' mm ⟨i,es,⟨hi,hpa,hel,hG⟩,rfl,rfl,rfl⟩
 refine zab fun K6 hK6=>?_
 have h3:¬((i:Int)+1<(x.b.length:Int))∨((i:Int)+1<(x.b.length:Int)∧¬((i:Int)<60))∨((i:Int)+1<(x.b.length:Int)∧(i:Int)<60):=by omega
 refine zaj hp zam hc rfl fun K7 hK7=>?_
 have hJ7:∀τ' H',(∃τ1 H1,∃(c1:Bool),(c1=true→i+1<x.b.length∧i<60∧0<n)∧H1=[.cells [.d (bD x.n),.d (bD x.k),.d (bytesD x.b)],.cells [.d (iD 0),.d (.val (.slice none 0 0))],.cells [.d (iD (n:Int)),.os 2 3 0 es.length],.cells (avs (es.flatMap edC))]∧τ1=frL [(1,.op 0 0),(2,.op 1 0),(3,.d (iD (n:Int))),(4,.op 2 0),(5,.d (iD (i:Int))),(27,.d (oD c1))]∧Rt [] τ' H' τ1 H1)→K7 τ' H':=by
  rintro τ' H' ⟨_,_,c1,hcc,rfl,rfl,hrt⟩
  refine hK7 _ _ (zba hp hrt ?_)
  clear hrt
  refine zai rfl (fun ht=>?_) (fun ht=>?_)
  ·obtain⟨hb1,hb2,hn0⟩:=hcc ht
   obtain⟨v,hv⟩:∃v:Nat,v=(nth x.b i % (n:Int)).toNat:=⟨_,rfl⟩
   obtain⟨w,hw⟩:∃w:Nat,w=(nth x.b (i+1) % (n:Int)).toNat:=⟨_,rfl⟩
   obtain⟨y0,y1⟩:=hx.b _ (za3 (l:=x.b) (k:=i) (by omega))
   obtain⟨z0,z1⟩:=hx.b _ (za3 (l:=x.b) (k:=i+1) (by omega))
   have hvm:=Int.emod_nonneg (nth x.b i) (show(n:Int)≠0 by omega)
   have hvm2:=Int.emod_lt_of_pos (nth x.b i) (show(0:Int)<n by omega)
   have hwm:=Int.emod_nonneg (nth x.b (i+1)) (show(n:Int)≠0 by omega)
   have hwm2:=Int.emod_lt_of_pos (nth x.b (i+1)) (show(0:Int)<n by omega)
   have hve:nth x.b i % (n:Int)=(v:Int):=by omega
   have hwe:nth x.b (i+1) % (n:Int)=(w:Int):=by omega
   have hi1:((i:Int)+1).toNat=i+1:=by omega
   have hvn:v<n:=by omega
   have hwn:w<n:=by omega
   have hg1:(x.b.map bD)[i]? =some (bD (nth x.b i)):=zbk (by omega)
   have hg2:(x.b.map bD)[i+1]? =some (bD (nth x.b (i+1))):=zbk (by omega)
   refine zah (hK6 _ _ ?_)
   refine zab fun K8 hK8=>?_
   refine zae ?_
   refine szq hp (fun _ hZ=>zpy (sza hg1 hve) hZ) ?_
   refine szq hp (fun _ hZ=>zpy (sza hi1 (sza hg2 hwe)) hZ) ?_
   refine zab fun K11 hK11=>?_
   have hJ11:∀τ' H',(∃τ1 H1,∃(v w:Nat),(v<n∧w<n)∧H1=[.cells [.d (bD x.n),.d (bD x.k),.d (bytesD x.b)],.cells [.d (iD 0),.d (.val (.slice none 0 0))],.cells [.d (iD (n:Int)),.os 2 3 0 es.length],.cells (avs (es.flatMap edC))]∧τ1=frL [(1,.op 0 0),(2,.op 1 0),(3,.d (iD (n:Int))),(4,.op 2 0),(5,.d (iD (i:Int))),(6,.d (iD (v:Int))),(7,.d (iD (w:Int)))]∧Rt [] τ' H' τ1 H1)→K11 τ' H':=by
    rintro τ' H' ⟨_,_,v,w,⟨hv2,hw2⟩,rfl,rfl,hrt⟩
    refine hK11 _ _ (zba hp hrt ?_)
    clear hrt
    refine szs hp (fun _ hZ=>zig hZ) (hK8 _ _ ?_)
    refine za6 hp zam hc rfl fun K13 hK13=>?_
    refine zig ?_
    refine hK13 _ _ ⟨_,_,_,?_,⟨i+2,es++[(v,w)],⟨by omega,by omega,by simp;omega,jhr hG (by omega) hv2 hw2⟩,rfl,rfl,rfl⟩,?_⟩
    ·first|omega|(simp only[List.length_cons];omega)|(dsimp only;omega)
    ·refine Rt.trans (Rt.gc (keep:=[0,1,2,5]) (by decide) (by decide) (by simp[fzH,gcH])) ?_
     refine zpz ?_
     simp only[r_g,Nat.reduceAdd,↓reduceIte,Nat.reduceEqDiff,zk6,bytesD,zag];rw[←zyk,List.append_assoc,List.length_append];rfl
   refine szq hp (fun _ hZ=>zig hZ) ?_
   refine zai rfl (fun ht=>?_) (fun ht=>?_)
   ·skip
    refine zab fun K15 hK15=>?_
    refine szq hp (fun _ hZ=>zig hZ) ?_
    refine zai rfl (fun ht=>?_) (fun ht=>?_)
    ·skip
     refine zat (hK8 _ _ ?_)
     refine za6 hp zam hc rfl fun K17 hK17=>?_
     refine zig ?_
     refine hK17 _ _ ⟨_,_,_,?_,⟨i+2,es,⟨by omega,by omega,by omega,hG⟩,rfl,rfl,rfl⟩,?_⟩
     ·first|omega|(simp only[List.length_cons];omega)|(dsimp only;omega)
     ·refine zpz ?_
      exact zsg
    ·skip
     refine zah (hK15 _ _ ?_)
     refine zab fun K18 hK18=>?_
     have hJ18:∀τ' H',(∃τ1 H1,∃(v w:Nat),(v<n∧w<n)∧H1=[.cells [.d (bD x.n),.d (bD x.k),.d (bytesD x.b)],.cells [.d (iD 0),.d (.val (.slice none 0 0))],.cells [.d (iD (n:Int)),.os 2 3 0 es.length],.cells (avs (es.flatMap edC))]∧τ1=frL [(1,.op 0 0),(2,.op 1 0),(3,.d (iD (n:Int))),(4,.op 2 0),(5,.d (iD (i:Int))),(6,.d (iD (v:Int))),(7,.d (iD (w:Int)))]∧Rt [] τ' H' τ1 H1)→K18 τ' H':=by
      rintro τ' H' ⟨_,_,v,w,⟨hv3,hw3⟩,rfl,rfl,hrt⟩
      refine hK18 _ _ (zba hp hrt ?_)
      clear hrt
      refine zab fun K19 hK19=>?_
      have hJ19:∀τ' H',(∃τ1 H1,∃(v w:Nat),(v<n∧w<n)∧H1=[.cells [.d (bD x.n),.d (bD x.k),.d (bytesD x.b)],.cells [.d (iD 0),.d (.val (.slice none 0 0))],.cells [.d (iD (n:Int)),.os 2 3 0 es.length],.cells (avs (es.flatMap edC))]∧τ1=frL [(1,.op 0 0),(2,.op 1 0),(3,.d (iD (n:Int))),(4,.op 2 0),(5,.d (iD (i:Int))),(6,.d (iD (v:Int))),(7,.d (iD (w:Int)))]∧Rt [] τ' H' τ1 H1)→K19 τ' H':=by
       rintro τ' H' ⟨_,_,v,w,⟨hv4,hw4⟩,rfl,rfl,hrt⟩
       refine hK19 _ _ (zba hp hrt ?_)
       clear hrt
       refine zaj hp zam hc rfl fun K20 hK20=>?_
       rcases tf (((n:Int) % 5)==0)with q1|q1
       ·refine zpy q1 ?_
        refine hK20 _ _ ?_
        refine zai rfl (fun ht=>?_) (fun ht=>?_)
        ·refine zat (hK8 _ _ ?_)
         refine za6 hp zam hc rfl fun K21 hK21=>?_
         refine zig ?_
         refine hK21 _ _ ⟨_,_,_,?_,⟨i+2,es,⟨by omega,by omega,by omega,hG⟩,rfl,rfl,rfl⟩,?_⟩
         ·first|omega|(simp only[List.length_cons];omega)|(dsimp only;omega)
         ·refine zpz ?_
          exact zsg
        ·refine zah (hJ11 _ _ ⟨_,_,v,w,⟨hv4,hw4⟩,rfl,rfl,?_⟩)
         refine zpz ?_
         exact zsg
       ·refine zpy q1 ?_
        refine hK20 _ _ ?_
        refine zai rfl (fun ht=>?_) (fun ht=>?_)
        ·refine zat (hK8 _ _ ?_)
         refine za6 hp zam hc rfl fun K22 hK22=>?_
         refine zig ?_
         refine hK22 _ _ ⟨_,_,_,?_,⟨i+2,es,⟨by omega,by omega,by omega,hG⟩,rfl,rfl,rfl⟩,?_⟩
         ·first|omega|(simp only[List.length_cons];omega)|(dsimp only;omega)
         ·refine zpz ?_
          exact zsg
        ·refine zah (hJ11 _ _ ⟨_,_,v,w,⟨hv4,hw4⟩,rfl,rfl,?_⟩)
         refine zpz ?_
         exact zsg
      refine szq hp (fun _ hZ=>zig hZ) ?_
      refine zai rfl (fun ht=>?_) (fun ht=>?_)
      ·have hve2:=Int.emod_nonneg (5*(v:Int)+3) (show(n:Int)≠0 by omega)
       have hve3:=Int.emod_lt_of_pos (5*(v:Int)+3) (show(0:Int)<n by omega)
       have hwe2:=Int.emod_nonneg (5*(w:Int)+3) (show(n:Int)≠0 by omega)
       have hwe3:=Int.emod_lt_of_pos (5*(w:Int)+3) (show(0:Int)<n by omega)
       obtain⟨v2,hv5⟩:∃v2:Nat,(5*(v:Int)+3) % (n:Int)=(v2:Int):=⟨((5*(v:Int)+3) % (n:Int)).toNat,by omega⟩
       obtain⟨w2,hw5⟩:∃w2:Nat,(5*(w:Int)+3) % (n:Int)=(w2:Int):=⟨((5*(w:Int)+3) % (n:Int)).toNat,by omega⟩
       have hv6:v2<n:=by omega
       have hw6:w2<n:=by omega
       refine szq hp (fun _ hZ=>zpy hv5 hZ) ?_
       refine za6 hp zam hc rfl fun K25 hK25=>?_
       refine zpy hw5 ?_
       refine hK25 _ _ (hJ19 _ _ ⟨_,_,v2,w2,⟨hv6,hw6⟩,rfl,rfl,?_⟩)
       refine zpz ?_
       exact zsg
      ·refine zah (hJ19 _ _ ⟨_,_,v,w,⟨hv3,hw3⟩,rfl,rfl,?_⟩)
       refine zpz ?_
       exact zsg
     refine szq hp (fun _ hZ=>zig hZ) ?_
     refine zai rfl (fun ht=>?_) (fun ht=>?_)
     ·skip
      refine za6 hp zam hc rfl fun K27 hK27=>?_
      refine jmr ?_
      refine hK27 _ _ (hJ18 _ _ ⟨_,_,w,v,⟨hwn,hvn⟩,rfl,rfl,?_⟩)
      refine zpz ?_
      exact zsg
     ·refine zah (hJ18 _ _ ⟨_,_,v,w,⟨hvn,hwn⟩,rfl,rfl,?_⟩)
      refine zpz ?_
      exact zsg
   ·refine zah (hJ11 _ _ ⟨_,_,v,w,⟨hvn,hwn⟩,rfl,rfl,?_⟩)
    refine zpz ?_
    exact zsg
  ·skip
   refine zat (hK4 _ _ ?_)
   refine szq hp (fun _ hZ=>zig hZ) ?_
   refine zaq ?_
   try dsimp only[zcq,za7]
   refine zbm rfl ?_
   simp -dsimp -implicitDefEqProofs (disch:=first|assumption|omega|(simp only[r_z,zac]<;>omega)|decide) only[r_r,↓reduceIte,Nat.reduceEqDiff,Nat.reduceAdd,D.fix,Int.reduceToNat,Nat.reduceMul,Nat.reduceBNe,Nat.reduceBEq,zk6,bytesD,zag,zid,znn]
   show ∃r,closeA _ _=some r∧_
   simp (disch:=first|assumption|omega|(simp only[r_z,zac]<;>omega)|decide) only[r_c,Nat.reduceAdd,D.fix,↓reduceIte,Nat.reduceEqDiff,zk6,bytesD,zag]
   exact⟨_,rfl,n,es,hn12,by omega,hG,by rw[jee];rfl⟩
 rcases h3 with q1|⟨q1,q2⟩|⟨q1,q2⟩
 ·have q2:=q1
  refine jhs (sza q1 q2) ?_
  refine(hJ7 _ _ ⟨_,_,false,(fun h=>by cases h),rfl,rfl,?_⟩)
  refine zpz ?_
  exact zsg
 ·refine jhs (sza q1 q2) ?_
  refine(hJ7 _ _ ⟨_,_,false,(fun h=>by cases h),rfl,rfl,?_⟩)
  refine zpz ?_
  exact zsg
 ·refine jhs (sza q1 q2) ?_
  refine(hJ7 _ _ ⟨_,_,decide (0<(n:Int)),(fun h=>by rw[decide_eq_true_eq]at h;omega),rfl,rfl,?_⟩)
  refine zpz ?_
  exact zsg
end Go.Proofs.Ytfolbdkbpmgjgaa
