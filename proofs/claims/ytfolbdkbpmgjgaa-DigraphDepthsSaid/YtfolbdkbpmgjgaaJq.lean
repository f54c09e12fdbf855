/- The law DigraphDepths: walked. -/
import Derived.Test.YtfolbdkbpmgjgaaQr
import Derived.Test.YtfolbdkbpmgjgaaJp
set_option linter.unusedVariables false
set_option linter.unusedSimpArgs false
set_option maxRecDepth 100000
set_option maxHeartbeats 4000000
namespace Go.Proofs.Ytfolbdkbpmgjgaa
open Go Go.RowKit
theorem jkp:(((((type_of% @zym)∧((type_of% @zyn)∧(type_of% @jky)))∧((type_of% @zgq)∧((type_of% @zju)∧(type_of% @zjv))))∧(((type_of% @zoe)∧((type_of% @zr0)∧(type_of% @zhc)))∧(((type_of% @zld)∧(type_of% @zry))∧((type_of% @zrz)∧(type_of% @zhb)))))∧((((type_of% @zcw)∧((type_of% @zcx)∧(type_of% @zc9)))∧((type_of% @zdk)∧((type_of% @zg9)∧(type_of% @zgo))))∧(((type_of% @zgp)∧((type_of% @zd0)∧(type_of% @zjs)))∧(((type_of% @zjt)∧(type_of% @zmy))∧((type_of% @ze3)∧(type_of% @ze2)))))):=⟨⟨⟨⟨@zym,⟨@zyn,@jky⟩⟩,⟨@zgq,⟨@zju,@zjv⟩⟩⟩,⟨⟨@zoe,⟨@zr0,@zhc⟩⟩,⟨⟨@zld,@zry⟩,⟨@zrz,@zhb⟩⟩⟩⟩,⟨⟨⟨@zcw,⟨@zcx,@zc9⟩⟩,⟨@zdk,⟨@zg9,@zgo⟩⟩⟩,⟨⟨@zgp,⟨@zd0,@zjs⟩⟩,⟨⟨@zjt,@zmy⟩,⟨@ze3,@ze2⟩⟩⟩⟩⟩
structure DpS (n:Nat) (es:List Ed) (D:List Nat):Prop where
 l:D.length=n
 up:∀e∈es,nth D e.1+1≤nth D e.2
 ex:∀w,w<n→nth D w=0∨∃e∈es,e.2=w∧nth D w=nth D e.1+1
 lt:∀w,w<n→nth D w<n
theorem jpd{n:Nat}{es:List Ed}{L:List Nat}(h:Gr n es)(hT:TpO n es L)(hI:OrI n (za9 n es) L):DpS n es (dpO n (za1 n es) L):=by
 have hd:=jjw h.two hI hT.sz
 have hex:∀w,w<n→nth (dpO n (za1 n es) L) w=0∨∃e∈es,e.2=w∧nth (dpO n (za1 n es) L) w=nth (dpO n (za1 n es) L) e.1+1:=fun w hw=>by
  rcases hd.ex w hw with h0|⟨u,hu,_,h1⟩
  ·exact .inl h0
  ·exact .inr ⟨(u,w),(zek hw).1 hu,rfl,h1⟩
 have key:∀j,j<n→nth (dpO n (za1 n es) L) (nth L j)≤j:=fun j=>by
  induction j using Nat.strongRecOn with
  |ind j ih=>
   intro hj
   have hjn:=hT.lt _ (za8 (l:=L) (k:=j) (by rw[hT.sz];exact hj))
   rcases hex _ hjn with h0|⟨e,he,h1,h2⟩
   ·omega
   ·obtain⟨i,hi,ei⟩:=zd2 (zja hT.d hT.lt hT.sz (h.e e he).1)
    rw[hT.sz]at hi
    have hij:=hT.ed e he i j hi hj ei h1.symm
    have:=ih i hij hi
    rw[ei]at this
    omega
 refine⟨hd.l,fun e he=>?_,hex,fun w hw=>?_⟩
 ·have hge:=h.e e he
  exact hd.up e.2 hge.2 e.1 ((zek hge.2).2 he) trivial
 ·obtain⟨j,hj,ej⟩:=zd2 (zja hT.d hT.lt hT.sz hw)
  rw[hT.sz]at hj
  have:=key j hj
  rw[ej]at this
  omega
def zgy(D:List Nat)(n k:Nat):List Nat:=(List.range k).flatMap fun q=>(List.range n).filter fun v=>nth D v==q
def zl0(D:List Nat)(n k v:Nat):List Nat:=zgy D n k++(List.range v).filter fun w=>nth D w==k
theorem zxm(D:List Nat)(n k:Nat):zgy D n (k+1)=zl0 D n k n:=by
 rw[zgy,List.range_succ,List.flatMap_append];simp[zl0,zgy]
theorem jkq(D:List Nat)(n k:Nat):zl0 D n k 0=zgy D n k:=by simp[zl0]
theorem jco(D:List Nat)(n k v:Nat):zl0 D n k (v+1)=if nth D v=k then zl0 D n k v++[v]else zl0 D n k v:=by
 unfold zl0
 rw[List.range_succ,List.filter_append]
 by_cases h:nth D v=k
 ·rw[if_pos h,List.filter_cons_of_pos (by simpa using h),List.append_assoc];rfl
 ·rw[if_neg h,List.filter_cons_of_neg (by simpa using h)];simp
theorem jad(D:List Nat)(n k v:Nat):(zl0 D n k v).length≤k*n+v:=by
 have h1:∀k,(zgy D n k).length≤k*n:=fun k=>by
  induction k with
  |zero=>exact Nat.zero_le _
  |succ k ih=>
   rw[zxm,zl0,List.length_append,Nat.add_mul,Nat.one_mul]
   have:((List.range n).filter fun w=>nth D w==k).length≤n:=Nat.le_trans (List.length_filter_le _ _) (by simp)
   omega
 have h2:((List.range v).filter fun w=>nth D w==k).length≤v:=Nat.le_trans (List.length_filter_le _ _) (by simp)
 have:=h1 k
 rw[zl0,List.length_append];omega
theorem srtK_mem{D:List Nat}{n k v:Nat}:v∈zgy D n k↔v<n∧nth D v<k:=by
 unfold zgy
 rw[List.mem_flatMap]
 constructor
 ·rintro⟨q,hq,h⟩
  rw[List.mem_filter]at h
  exact⟨List.mem_range.1 h.1,by have:=List.mem_range.1 hq;have:=h.2;simp at this;omega⟩
 ·rintro⟨h1,h2⟩
  exact⟨nth D v,List.mem_range.2 h2,List.mem_filter.2 ⟨List.mem_range.2 h1,by simp⟩⟩
theorem zxn(D:List Nat)(n:Nat):∀k,(zgy D n k).Pairwise fun a b=>nth D a<nth D b∨(nth D a=nth D b∧a<b)
 |0=>.nil
 |k+1=>by
  rw[zxm,zl0,List.pairwise_append]
  refine⟨zxn D n k,(List.Pairwise.filter _ List.pairwise_lt_range).imp_of_mem fun ha hb h=>.inr ⟨?_,h⟩,fun a ha b hb=>.inl ?_⟩
  ·have h1:=(List.mem_filter.1 ha).2;have h2:=(List.mem_filter.1 hb).2
   simp at h1 h2;omega
  ·have h1:=(srtK_mem.1 ha).2;have h2:=(List.mem_filter.1 hb).2
   simp at h2;omega
theorem jkr{n:Nat}{es:List Ed}{D:List Nat}(h:Gr n es)(hD:DpS n es D):(zgy D n n).length=n∧ckR n es (zl (zgy D n n))=0:=by
 have hp:=zxn D n n
 have hnd:(zgy D n n).Nodup:=hp.imp fun h e=>by rw[e]at h;omega
 have hlt:∀v∈zgy D n n,v<n:=fun v hv=>(srtK_mem.1 hv).1
 have hlen:(zgy D n n).length=n:=by
  have h1:=zct hnd hlt
  have:=List.nodup_range.length_le_of_subset (l₂:=zgy D n n) (l₁:=List.range n) fun v hv=>srtK_mem.2 ⟨List.mem_range.1 hv,hD.lt v (List.mem_range.1 hv)⟩
  rw[List.length_range]at this
  omega
 refine⟨hlen,(jf4 h hnd hlt hlen).1.2 fun e he i j hi hj h1 h2=>?_⟩
 have hup:=hD.up e he
 refine Classical.byContradiction fun hij=>?_
 by_cases e0:j=i
 ·subst e0;rw[h1]at h2;rw[h2]at hup;omega
 ·have:=List.pairwise_iff_getElem.1 hp j i (by omega) (by omega) (by omega)
  rw[←za3,←za3,h1,h2]at this
  omega
def dmx(D:List Nat)(es:List Ed)(v:Nat):Nat→Nat
 |0=>0
 |k+1=>if(nth es k).2=v then max (dmx D es v k) (nth D (nth es k).1+1)else dmx D es v k
theorem zxo{D:List Nat}{es:List Ed}{v:Nat}{B:Nat}(h:∀e∈es,e.2=v→nth D e.1+1≤B):∀k,k≤es.length→dmx D es v k≤B
 |0,_=>Nat.zero_le _
 |k+1,hk=>by
  have ih:=zxo h k (by omega)
  rw[dmx]
  split
  ·rename_i hv;have:=h _ (za8 (l:=es) (k:=k) (by omega)) hv;omega
  ·exact ih
theorem jcp{D:List Nat}{es:List Ed}{v:Nat}:∀k j,j<k→(nth es j).2=v→nth D (nth es j).1+1≤dmx D es v k
 |0,j,hj,_=>absurd hj (Nat.not_lt_zero _)
 |k+1,j,hj,hv=>by
  rw[dmx]
  by_cases e:j=k
  ·subst e;rw[if_pos hv];omega
  ·have:=jcp (D:=D) k j (by omega) hv
   split<;>omega
theorem jks{n:Nat}{es:List Ed}{D:List Nat}(hD:DpS n es D){v:Nat}(hv:v<n):dmx D es v es.length=nth D v:=by
 have h1:=zxo (D:=D) (v:=v) (B:=nth D v) (fun e he h=>by rw[←h];exact hD.up e he) es.length (Nat.le_refl _)
 rcases hD.ex v hv with h0|⟨e,he,h2,h3⟩
 ·omega
 ·obtain⟨j,hj,ej⟩:=List.getElem_of_mem he
  rw[←za3 hj]at ej
  have:=jcp (D:=D) (es:=es) (v:=v) es.length j hj (by rw[ej];exact h2)
  rw[ej]at this
  omega
theorem zet{p q:Prop}(hq:q)(h:p=q:=by
 conv=>lhs;simp -dsimp -implicitDefEqProofs (disch:=first|assumption|omega|(simp only[r_z,zak,zad]<;>omega)|decide) only[r_r,↓reduceIte,Nat.reduceEqDiff,Nat.reduceAdd,D.fix,Int.reduceToNat,Nat.reduceMul,Nat.reduceBNe,Nat.reduceBEq,zgx,bytesD,grD,zan,lsD,jkp]):p:=h.mpr hq
theorem znl{p q:Prop}(hq:q)(h:p=q:=by
 conv=>lhs;simp -dsimp -implicitDefEqProofs (disch:=first|assumption|omega|(simp only[r_z,zak,zad]<;>omega)|decide) only[r_r,↓reduceIte,Nat.reduceEqDiff,Nat.reduceAdd,D.fix,Int.reduceToNat,Nat.reduceMul,Nat.reduceBNe,Nat.reduceBEq,zgx,bytesD,grD,zan,lsD]):p:=h.mpr hq
theorem zxp{m:List Nat}{τ τ':Fr}{H H':zaa}(h2:H=H')(h:zgb τ τ':=by
 repeat (first|exact zaj _|refine zac ?_ (by first|rfl|(simp[r_f,zak,zad];done)|simp[r_f,zak,zad, *]))):Rt m τ H τ' H':=Rt.end h h2
theorem zhn{p q r:Prop}(e:r)(hq:q)(h:r→p=q:=by
 intro hY
 conv=>lhs;simp -dsimp -implicitDefEqProofs (disch:=first|assumption|omega|(simp only[r_z,zak,zad]<;>omega)|decide) only[r_r,↓reduceIte,Nat.reduceEqDiff,Nat.reduceAdd,D.fix,Int.reduceToNat,Nat.reduceMul,Nat.reduceBNe,Nat.reduceBEq,zgx,bytesD,grD,zan,lsD,jkp,hY]):p:=(h e).mpr hq
theorem jae{p:Prop}(h:p:=by
 first|rfl|(simp only[r_g,Nat.reduceAdd,↓reduceIte,Nat.reduceEqDiff,zgx,bytesD,grD,zan,lsD];first|done|rfl)):p:=h
theorem jov{p:Prop}(h:p:=by
 simp (disch:=first|assumption|omega|(simp only[r_z,zak,zad]<;>omega)|decide) only[r_c,Nat.reduceAdd,D.fix,↓reduceIte,Nat.reduceEqDiff,zgx,bytesD,grD,zan,lsD]):p:=h
theorem zss(x:RwG)(hx:RwOk x):zas Try.prog 7 [.agg (zgx x)] (.d (oD true)):=by
 refine zay (fn:=Try.f7) (by kernel_rfl) Try.func7 rfl (Nat.le_of_ble_eq_true rfl) fun c hc hp=>?_
 refine zat (τ':=frL [(0,.d (.agg (zgx x)))]) (by repeat (first|exact zaj _|refine zac ?_ (by first|rfl|(simp[r_f,zak,zad];done)|simp[r_f,zak,zad, *]))) ?_
 refine szq hp (fun _ hZ=>zet hZ) ?_
 refine zaf hp zao hc rfl fun K2 hK2=>?_
 refine znl ?_
 refine zbj (zkn) rfl ?_
 refine znl ?_
 refine hK2 _ _ ?_
 refine zab fun K3 hK3=>?_
 refine szq hp (fun _ hZ=>zet hZ) ?_
 refine szf ?_
 refine zag (hK3 _ _ ?_)
 refine zaf hp zao hc rfl fun K5 hK5=>?_
 refine zet ?_
 refine ja6 (jcn x hx) rfl fun r hr=>?_
 obtain⟨n,es,hn12,hel,hG,rfl⟩:=hr
 have hoo:=jf5 hG
 have hco:=zlt n es hG
 have hcd:=zrf n es hG
 have hdd:zxt n es=if(zd9 n es).2=0 then(dpO n (za1 n es) (zd9 n es).1,0)else([],(zd9 n es).2):=rfl
 generalize zxt n es=rd at hcd hdd
 generalize zd9 n es=r at hoo hco hdd
 obtain⟨L,eo⟩:=r
 obtain⟨W,e⟩:=rd
 simp only at hoo hdd
 have hoe:(eo=0∧e=0∧DpS n es W)∨(eo=50∧e=50):=(by rcases hoo with⟨h1,h2,h3⟩|⟨h1,_⟩;(refine .inl ⟨h1,?_⟩;rw[if_pos h1,Prod.mk.injEq]at hdd;exact⟨hdd.2,hdd.1▸jpd hG h2 h3⟩);(rw[Prod.mk.injEq]at h1;refine .inr ⟨h1.2,?_⟩;rw[if_neg (by rw[h1.2];decide),Prod.mk.injEq]at hdd;rw[hdd.2,h1.2]))
 refine zet ?_
 refine hK5 _ _ ?_
 refine zaf hp zao hc rfl fun K6 hK6=>?_
 refine zet ?_
 refine zbj (hcd) rfl ?_
 refine zet ?_
 refine hK6 _ _ ?_
 refine zab fun K7 hK7=>?_
 refine zbe hp (τ':=frL [(2,.d (oD false)),(3,.d (oD true)),(4,.d (.fp [iD (n:Int),zan es] 0)),(5,.d (.fp [.fs (nsD W) W.length,iD e] 0))]) (H':=[]) ?_ ?_
 ·refine Rt.trans (Rt.fz (id:=1) (l:=[iD (n:Int),zan es]) rfl) ?_
  refine Rt.trans (Rt.fz (id:=2) (l:=[.fs (nsD W) W.length,iD e]) rfl) ?_
  refine Rt.trans (Rt.gc (keep:=[]) (by decide) (by decide) (by simp[fzH,gcH])) ?_
  refine zxp ?_
  exact jae
 refine zbh zao hc mixed rfl (q:=0) (by kernel_rfl) (by kernel_rfl) fun K8 hK8=>?_
 rcases hoe with⟨q1,q2,q3⟩|⟨q1,q2⟩
 ·have b1:(e==0)=true:=by rw[q2];rfl
  have b2:(eo==0)=true:=by rw[q1];rfl
  have b3:(e !=0)=false:=by rw[q2];rfl
  have b5:=b1
  have b6:(true !=true)=false:=rfl
  refine zhn (sza b1 (sza b2 (sza b3 (sza b5 b6)))) ?_
  refine zbj (hco) rfl ?_
  refine zhn (sza b1 (sza b2 (sza b3 (sza b5 b6)))) ?_
  refine hK8 _ _ ?_
  refine szf ?_
  refine zag (hK7 _ _ ?_)
  refine zab fun K9 hK9=>?_
  refine szq hp (fun _ hZ=>zhn b3 hZ) ?_
  refine szf ?_
  have hDn:=q3.l
  have hne:(((W.length:Nat):Int) !=(n:Int))=false:=by rw[hDn];simp
  refine zag (hK9 _ _ ?_)
  refine zab fun K11 hK11=>?_
  refine szq hp (fun _ hZ=>zhn hne hZ) ?_
  refine szf ?_
  refine zag (hK11 _ _ ?_)
  refine szq hp (fun _ hZ=>zet hZ) ?_
  refine zab fun K14 hK14=>?_
  refine szq hp (fun _ hZ=>znl hZ) ?_
  refine zae ?_
  refine zaq hp (fun τ' H' mm=>∃(k:Nat),(k≤n)∧mm=n - k∧H'=[.cells (avs (nsD (zgy W n k)))]∧τ'=frL [(2,.d (oD false)),(3,.d (oD true)),(4,.d (.fp [iD (n:Int),zan es] 0)),(5,.d (.fp [.fs (nsD W) W.length,iD e] 0)),(6,.os 1 0 0 (zgy W n k).length),(7,.d (iD (k:Int)))]) (n) ?_ ⟨0,Nat.zero_le _,rfl,rfl,rfl⟩ ?_
  ·refine zxp ?_
   exact jae
  rintro τ' H' mm ⟨k,hk,rfl,rfl,rfl⟩
  refine zab fun K16 hK16=>?_
  refine szq hp (fun _ hZ=>zet hZ) ?_
  refine zai rfl (fun ht=>?_) (fun ht=>?_)
  ·have hkn:k<n:=by simp at ht;omega
   rw[←jkq W n k]
   refine zag (hK16 _ _ ?_)
   refine zab fun K18 hK18=>?_
   refine zae ?_
   refine szq hp (fun _ hZ=>znl hZ) ?_
   refine zae ?_
   refine zaq hp (fun τ' H' mm=>∃(v:Nat),(v≤n)∧mm=n - v∧H'=[.cells (avs (nsD (zl0 W n k v)))]∧τ'=frL [(2,.d (oD false)),(3,.d (oD true)),(4,.d (.fp [iD (n:Int),zan es] 0)),(5,.d (.fp [.fs (nsD W) W.length,iD e] 0)),(6,.os 1 0 0 (zl0 W n k v).length),(7,.d (iD (k:Int))),(8,.d (iD (v:Int)))]) (n) ?_ ⟨0,Nat.zero_le _,rfl,rfl,rfl⟩ ?_
   ·refine zxp ?_
    exact jae
   rintro τ' H' mm ⟨v,hv,rfl,rfl,rfl⟩
   refine zab fun K20 hK20=>?_
   refine szq hp (fun _ hZ=>zet hZ) ?_
   refine zai rfl (fun ht=>?_) (fun ht=>?_)
   ·have hvn:v<n:=by simp at ht;omega
    have hg1:(nsD W)[v]? =some (iD ((nth W v:Nat):Int)):=zbb (by omega)
    have hvl:=jad W n k v
    have hkn2:k*n≤12*12:=Nat.mul_le_mul (by omega) hn12
    refine zag (hK20 _ _ ?_)
    refine zab fun K22 hK22=>?_
    refine zae ?_
    refine szq hp (fun _ hZ=>zhn hg1 hZ) ?_
    refine zai rfl (fun ht=>?_) (fun ht=>?_)
    ·have hvk:nth W v=k:=by rw[beq_iff_eq]at ht;omega
     have hs:zl0 W n k (v+1)=zl0 W n k v++[v]:=by rw[jco,if_pos hvk]
     refine szs hp (fun _ hZ=>zet hZ) (hK22 _ _ ?_)
     refine zbd hp zao hc rfl fun K25 hK25=>?_
     refine zet ?_
     refine hK25 _ _ ⟨_,_,_,?_,⟨v+1,hvn,rfl,rfl,rfl⟩,?_⟩
     ·first|omega|(simp only[List.length_cons];omega)|(dsimp only;omega)
     ·refine Rt.trans (Rt.gc (keep:=[2]) (by decide) (by decide) (by simp[fzH,gcH])) ?_
      refine zxp ?_
      simp only[r_g,Nat.reduceAdd,↓reduceIte,Nat.reduceEqDiff,zgx,bytesD,grD,zan,lsD];rw[hs,←zjf];rfl
    ·have hvk:nth W v≠k:=fun e9=>by rw[e9]at ht;simp at ht
     have hs:zl0 W n k (v+1)=zl0 W n k v:=by rw[jco,if_neg hvk]
     refine zag (hK22 _ _ ?_)
     refine zbd hp zao hc rfl fun K26 hK26=>?_
     refine zet ?_
     refine hK26 _ _ ⟨_,_,_,?_,⟨v+1,hvn,rfl,rfl,rfl⟩,?_⟩
     ·first|omega|(simp only[List.length_cons];omega)|(dsimp only;omega)
     ·refine zxp ?_
      rw[hs]
   ·have hve:v=n:=by simp at ht;omega
    subst hve
    rw[←zxm]
    refine zaw (hK18 _ _ ?_)
    refine zbd hp zao hc rfl fun K27 hK27=>?_
    refine zet ?_
    refine hK27 _ _ ⟨_,_,_,?_,⟨k+1,hkn,rfl,rfl,rfl⟩,?_⟩
    ·first|omega|(simp only[List.length_cons];omega)|(dsimp only;omega)
    ·refine zxp ?_
     exact jae
  ·have hke:k=n:=by simp at ht;omega
   subst hke
   obtain⟨hsl,hsc⟩:=jkr hG q3
   have hck:=zlx hG (zgy W k k) (by omega) hsc
   have htk:zb5 (nsD (zgy W k k)) 0 k=some (nsD (zgy W k k)):=zbk (by rw[zad];omega)
   have hfz:fzV 0 (nsD (zgy W k k)) (.os 1 0 0 (zgy W k k).length)= .d (.fs (nsD (zgy W k k)) (zgy W k k).length):=zi2 (zbk (by rw[zad];omega))
   refine zaw (hK14 _ _ ?_)
   refine zab fun K28 hK28=>?_
   refine szq hp (fun _ hZ=>znl hZ) ?_
   refine zae ?_
   refine zaq hp (fun τ' H' mm=>∃(v:Nat),(v≤k)∧mm=k - v∧H'=[]∧τ'=frL [(2,.d (oD false)),(3,.d (oD true)),(4,.d (.fp [iD (k:Int),zan es] 0)),(5,.d (.fp [.fs (nsD W) W.length,iD e] 0)),(6,.d (.fs (nsD (zgy W k k)) (zgy W k k).length)),(9,.d (iD (v:Int)))]) (k) ?_ ⟨0,Nat.zero_le _,rfl,rfl,rfl⟩ ?_
   ·refine Rt.trans (Rt.fz (id:=0) (l:=(nsD (zgy W k k))) rfl) ?_
    refine Rt.trans (Rt.gc (keep:=[]) (by decide) (by decide) (by simp[fzH,gcH])) ?_
    refine zxp ?_
    exact jae
   rintro τ' H' mm ⟨v,hv,rfl,rfl,rfl⟩
   refine zab fun K30 hK30=>?_
   refine szq hp (fun _ hZ=>zet hZ) ?_
   refine zai rfl (fun ht=>?_) (fun ht=>?_)
   ·have hvn:v<k:=by simp at ht;omega
    refine zag (hK30 _ _ ?_)
    refine zab fun K32 hK32=>?_
    refine zae ?_
    refine szq hp (fun _ hZ=>znl hZ) ?_
    refine zab fun K34 hK34=>?_
    refine szq hp (fun _ hZ=>znl hZ) ?_
    refine zae ?_
    refine zaq hp (fun τ' H' mm=>∃(j:Nat),(j≤es.length)∧mm=es.length - j∧H'=[]∧τ'=frL [(2,.d (oD false)),(3,.d (oD true)),(4,.d (.fp [iD (k:Int),zan es] 0)),(5,.d (.fp [.fs (nsD W) W.length,iD e] 0)),(6,.d (.fs (nsD (zgy W k k)) (zgy W k k).length)),(9,.d (iD (v:Int))),(10,.d (iD ((dmx W es v j:Nat):Int))),(11,.d (iD (j:Int)))]) (es.length) ?_ ⟨0,Nat.zero_le _,rfl,rfl,rfl⟩ ?_
    ·refine zxp ?_
     exact jae
    rintro τ' H' mm ⟨j,hj,rfl,rfl,rfl⟩
    refine zab fun K36 hK36=>?_
    refine szq hp (fun _ hZ=>zet hZ) ?_
    refine zai rfl (fun ht=>?_) (fun ht=>?_)
    ·have hje:j<es.length:=by simp at ht;omega
     obtain⟨a,ha⟩:∃a,a=(nth es j).1:=⟨_,rfl⟩
     obtain⟨b,hb⟩:∃b,b=(nth es j).2:=⟨_,rfl⟩
     have hge:=hG.e _ (za8 hje)
     rw[←ha,←hb]at hge
     have hg2:(es.flatMap edC)[j*2]? =some (iD (a:Int)):=by rw[ha];exact jcg hje
     have hg3:(es.flatMap edC)[j*2+1]? =some (iD (b:Int)):=by rw[hb];exact jch hje
     have hg4:(nsD W)[a]? =some (iD ((nth W a:Nat):Int)):=zbb (by omega)
     have hWa:=q3.lt a hge.1
     have hdl:=zxo (D:=W) (es:=es) (v:=v) (B:=nth W v) (fun e he h=>by rw[←h];exact q3.up e he) j hj
     have hWv:=q3.lt v hvn
     have hmx:max ((dmx W es v j:Nat):Int) (((nth W a:Nat):Int)+1)=((max (dmx W es v j) (nth W a+1):Nat):Int):=by omega
     have hs0:dmx W es v (j+1)=if b=v then max (dmx W es v j) (nth W a+1)else dmx W es v j:=by rw[dmx,ha,hb]
     clear ha hb
     refine zag (hK36 _ _ ?_)
     refine zab fun K38 hK38=>?_
     refine zae ?_
     refine szq hp (fun _ hZ=>zhn hg3 hZ) ?_
     refine zai rfl (fun ht=>?_) (fun ht=>?_)
     ·have hbv:b=v:=by rw[beq_iff_eq]at ht;omega
      have hs:dmx W es v (j+1)=max (dmx W es v j) (nth W a+1):=by rw[hs0,if_pos hbv]
      refine zhu zao hc mixed rfl (q:=0) (by kernel_rfl) (by kernel_rfl) fun K40 hK40=>?_
      refine zhn (sza hg2 (sza hg4 hmx)) ?_
      refine hK40 _ _ (hK38 _ _ ?_)
      refine zbd hp zao hc rfl fun K41 hK41=>?_
      refine zet ?_
      refine hK41 _ _ ⟨_,_,_,?_,⟨j+1,hje,rfl,rfl,rfl⟩,?_⟩
      ·first|omega|(simp only[List.length_cons];omega)|(dsimp only;omega)
      ·refine zxp ?_
       exact jae
     ·have hbv:b≠v:=fun e9=>by rw[e9]at ht;simp at ht
      have hs:dmx W es v (j+1)=dmx W es v j:=by rw[hs0,if_neg hbv]
      refine zag (hK38 _ _ ?_)
      refine zbd hp zao hc rfl fun K42 hK42=>?_
      refine zet ?_
      refine hK42 _ _ ⟨_,_,_,?_,⟨j+1,hje,rfl,rfl,rfl⟩,?_⟩
      ·first|omega|(simp only[List.length_cons];omega)|(dsimp only;omega)
      ·refine zxp ?_
       exact jae
    ·have hje:j=es.length:=by simp at ht;omega
     subst hje
     have hdq:=jks q3 hvn
     have hg5:(nsD W)[v]? =some (iD ((nth W v:Nat):Int)):=zbb (by omega)
     have hnn:(((nth W v:Nat):Int) !=((nth W v:Nat):Int))=false:=by simp
     rw[hdq]
     refine zaw (hK34 _ _ ?_)
     refine szq hp (fun _ hZ=>zhn (sza hg5 hnn) hZ) ?_
     refine szf ?_
     refine zag (hK32 _ _ ?_)
     refine zbd hp zao hc rfl fun K44 hK44=>?_
     refine zet ?_
     refine hK44 _ _ ⟨_,_,_,?_,⟨v+1,hvn,rfl,rfl,rfl⟩,?_⟩
     ·first|omega|(simp only[List.length_cons];omega)|(dsimp only;omega)
     ·refine zxp ?_
      exact jae
   ·have i00b:((0:Int)==0)=true:=rfl
    refine zaw (hK28 _ _ ?_)
    refine zaf hp zao hc rfl fun K45 hK45=>?_
    refine zhn i00b ?_
    refine zbj (hck) rfl ?_
    refine zhn i00b ?_
    refine hK45 _ _ ?_
    refine zar ?_
    show closeA _ _=_
    exact jov
 ·have b1:(e==0)=false:=by rw[q2];rfl
  have b2:(eo==0)=false:=by rw[q1];rfl
  have b3:(e !=0)=true:=by rw[q2];rfl
  have b5:(e !=50)=false:=by rw[q2];rfl
  have b6:(false !=false)=false:=rfl
  refine zhn (sza b1 (sza b2 (sza b3 (sza b5 b6)))) ?_
  refine zbj (hco) rfl ?_
  refine zhn (sza b1 (sza b2 (sza b3 (sza b5 b6)))) ?_
  refine hK8 _ _ ?_
  refine szf ?_
  refine zag (hK7 _ _ ?_)
  refine zab fun K46 hK46=>?_
  refine szq hp (fun _ hZ=>zhn b3 hZ) ?_
  refine szt ?_
  refine szq hp (fun _ hZ=>znl hZ) ?_
  refine zar ?_
  show closeA _ _=_
  exact jov
end Go.Proofs.Ytfolbdkbpmgjgaa
