/- Searching in rows; girth. -/
import Derived.Test.YtfolbdkbpmgjgaaQr
import Derived.Test.YtfolbdkbpmgjgaaKh
set_option linter.unusedVariables false
set_option linter.unusedSimpArgs false
set_option maxRecDepth 100000
set_option maxHeartbeats 4000000
namespace Go.Proofs.Ytfolbdkbpmgjgaa
open Go Go.RowKit
theorem jee:((((type_of% @zc7)∧(type_of% @zc8))∧((type_of% @zdj)∧((type_of% @zgp)∧(type_of% @zgq))))∧(((type_of% @jgg)∧(type_of% @zdc))∧((type_of% @zer)∧((type_of% @zfj)∧(type_of% @zes))))):=⟨⟨⟨@zc7,@zc8⟩,⟨@zdj,⟨@zgp,@zgq⟩⟩⟩,⟨⟨@jgg,@zdc⟩,⟨@zer,⟨@zfj,@zes⟩⟩⟩⟩
def zf9{α:Type}(p:α→Bool)(l:List α):Int:=match l.findIdx? p with|some i=>i|none=> -1
theorem zgw{α:Type}[Inhabited α]{p:α→Bool}:∀{l:List α} {k:Nat},k<l.length→(∀j,j<k→p (nth l j)=false)→p (nth l k)=true→zf9 p l=k:=by
 intro l k hk hf ht
 have:l.findIdx? p=some k:=by
  rw[List.findIdx?_eq_some_iff_getElem]
  refine⟨hk,by rw[←za1 hk];exact ht,fun j hj=>?_⟩
  rw[←za1 (by omega),hf j hj];simp
 simp[zf9,this]
theorem zhh{α:Type}[Inhabited α]{p:α→Bool}{l:List α}(hf:∀j,j<l.length→p (nth l j)=false):zf9 p l= -1:=by
 have:l.findIdx? p=none:=by
  rw[List.findIdx?_eq_none_iff]
  intro x hx
  obtain⟨i,hi,rfl⟩:=List.getElem_of_mem hx
  rw[←za1 hi];exact hf i hi
 simp[zf9,this]
theorem znd{α:Type}{p:α→Bool}{l:List α}:decide (0≤zf9 p l)=l.any p:=by
 unfold zf9
 cases h:l.findIdx? p with
 |none=>
  rw[List.findIdx?_eq_none_iff]at h
  have:l.any p=false:=by rw[List.any_eq_false];intro x hx;simp[h x hx]
  rw[this];rfl
 |some i=>
  have hi:=List.findIdx?_eq_some_iff_getElem.1 h
  obtain⟨h1,h2,_⟩:=hi
  have:l.any p=true:=List.any_eq_true.2 ⟨_,List.getElem_mem h1,h2⟩
  rw[this];simp
theorem zwj{p q:Prop}(hq:q)(h:p=q:=by
 conv=>lhs;simp -dsimp -implicitDefEqProofs (disch:=first|assumption|omega|(simp only[r_z]<;>omega)|decide) only[r_r,↓reduceIte,Nat.reduceEqDiff,Nat.reduceAdd,D.fix,Int.reduceToNat,Nat.reduceMul,Nat.reduceBNe,Nat.reduceBEq]):p:=h.mpr hq
theorem zso{p q:Prop}(hq:q)(h:p=q:=by
 conv=>lhs;simp -dsimp -implicitDefEqProofs (disch:=first|assumption|omega|(simp only[r_z]<;>omega)|decide) only[r_r,↓reduceIte,Nat.reduceEqDiff,Nat.reduceAdd,D.fix,Int.reduceToNat,Nat.reduceMul,Nat.reduceBNe,Nat.reduceBEq,jee]):p:=h.mpr hq
theorem jn9{m:List Nat}{τ τ':Fr}{H H':zaa}(h2:H=H')(h:zgm τ τ':=by
 repeat (first|exact zah _|refine zac ?_ (by first|rfl|(simp[r_f];done)|simp[r_f, *]))):Rt m τ H τ' H':=Rt.end h h2
theorem joa{p:Prop}(h:p:=by
 simp (disch:=first|assumption|omega|(simp only[r_z]<;>omega)|decide) only[r_c,Nat.reduceAdd,D.fix,↓reduceIte,Nat.reduceEqDiff,hx]):p:=h
theorem jje(l:List Int)(n:Int)(hl:l.length≤1000000):zaq Try.prog 47 [intsD l,iD n] (.d (iD (zf9 (fun x=>n==x) l))):=by
 refine zay (fn:=Try.f47) (by kernel_rfl) Try.func47 rfl (Nat.le_of_ble_eq_true rfl) fun c hc hp=>?_
 refine zau (τ':=frL [(0,.d (intsD l)),(1,.d (iD n))]) (by repeat (first|exact zah _|refine zac ?_ (by first|rfl|(simp[r_f];done)|simp[r_f, *]))) ?_
 refine szq hp (fun _ hZ=>zwj hZ) ?_
 refine zab fun K2 hK2=>?_
 refine szq hp (fun _ hZ=>zso hZ) ?_
 refine zaf ?_
 refine zas hp (fun τ' H' mm=>∃k,(k≤l.length∧∀j,j<k→(n==nth l j)=false)∧mm=l.length - k∧H'=[]∧τ'=frL [(0,.d (intsD l)),(1,.d (iD n)),(6,.d (intsD l)),(7,.d (iD l.length)),(8,.d (iD k))]) (l.length) ?_ ⟨0,⟨Nat.zero_le _,fun j hj=>absurd hj (by omega)⟩,rfl,rfl,rfl⟩ ?_
 ·refine jn9 ?_
  first|rfl|(simp only[r_g,Nat.reduceAdd,↓reduceIte,Nat.reduceEqDiff];first|done|rfl)
 rintro τ' H' mm ⟨k,⟨hk,hf⟩,rfl,rfl,rfl⟩
 refine szq hp (fun _ hZ=>zso hZ) ?_
 refine zab fun K5 hK5=>?_
 refine zam rfl (fun ht=>?_) (fun ht=>?_)
 ·have hlt:k<l.length:=by simp at ht;omega
  refine zak (hK5 _ _ ?_)
  refine zab fun K6 hK6=>?_
  refine zaf ?_
  refine szq hp (fun _ hZ=>zwj hZ) ?_
  refine szq hp (fun _ hZ=>zso hZ) ?_
  refine zam rfl (fun ht=>?_) (fun ht=>?_)
  ·have hx:=zgw (p:=fun x=>n==x) hlt hf ht
   refine szq hp (fun _ hZ=>zwj hZ) ?_
   refine zar ?_
   show closeA _ _=_
   exact joa
  ·have hf':∀j,j<k+1→(n==nth l j)=false:=fun j hj=>by
    rcases Nat.lt_or_ge j k with h|h
    ·exact hf j h
    ·obtain rfl:j=k:=by omega
     exact ht
   refine zak (hK6 _ _ ?_)
   refine zbj hp zao hc rfl fun K10 hK10=>?_
   refine zso ?_
   refine hK10 _ _ ⟨_,_,_,?_,⟨k+1,⟨by omega,hf'⟩,rfl,rfl,rfl⟩,?_⟩
   ·first|omega|(simp only[List.length_cons];omega)|(dsimp only;omega)
   ·refine jn9 ?_
    first|rfl|(simp only[r_g,Nat.reduceAdd,↓reduceIte,Nat.reduceEqDiff];first|done|rfl)
 ·have hx:zf9 (fun x=>n==x) l= -1:=zhh fun j hj=>hf j (by simp at ht;omega)
  refine za0 (hK2 _ _ ?_)
  refine szq hp (fun _ hZ=>zwj hZ) ?_
  refine zar ?_
  show closeA _ _=_
  exact joa
def inB(n:Int)(l:List Int):Bool:=l.any fun x=>n==x
theorem jef{n:Int}{l:List Int}:inB n l=true↔n∈l:=by simp[inB]
theorem zzk{n:Int}{l:List Int}:decide (0≤zf9 (fun x=>n==x) l)=inB n l:=znd
theorem zsp(l:List Int)(n:Int)(hl:l.length≤1000000):zaq Try.prog 66 [intsD l,iD n] (.d (.val (.bool (inB n l)))):=by
 refine zay (fn:=Try.f66) (by kernel_rfl) Try.func66 rfl (Nat.le_of_ble_eq_true rfl) fun c hc hp=>?_
 refine zau (τ':=frL [(0,.d (intsD l)),(1,.d (iD n))]) (by repeat (first|exact zah _|refine zac ?_ (by first|rfl|(simp[r_f];done)|simp[r_f, *]))) ?_
 refine szq hp (fun _ hZ=>zwj hZ) ?_
 refine zad hp zao hc rfl fun K2 hK2=>?_
 refine zso ?_
 refine zbb (jje l n hl) rfl ?_
 refine zso ?_
 refine hK2 _ _ ?_
 refine zar ?_
 show closeA _ _=_
 simp (disch:=first|assumption|omega|(simp only[r_z]<;>omega)|decide) only[r_c,Nat.reduceAdd,D.fix,↓reduceIte,Nat.reduceEqDiff,zzk]
theorem jb8{l:List Nat}{v:Nat}:(v:Int)∈zl l↔v∈l:=by
 unfold zl
 rw[List.mem_map]
 constructor
 ·rintro⟨x,hx,e⟩
  have:x=v:=by omega
  rw[←this];exact hx
 ·exact fun h=>⟨v,h,rfl⟩
theorem jmf{l:List Nat}{v:Nat}:inB (v:Int) (zl l)=l.contains v:=by
 rw[Bool.eq_iff_iff,jef,jb8,List.contains_iff_mem]
theorem zoy(l:List Nat)(v:Nat)(hl:l.length≤1000000):zaq Try.prog 66 [.fs (nsD l) l.length,iD (v:Int)] (.d (.val (.bool (l.contains v)))):=by
 have:=zsp (zl l) v (by rw[za5];exact hl)
 rw[jmf]at this
 simpa[intsD,nsD,za5]using this
def hdN(nx:List (List Nat))(v k:Nat):Nat:=(bS nx v k).q.headD 0
theorem jo6{nx:List (List Nat)}{v j k:Nat}(h:(bS nx v k).q≠[])(hj:j≤k):(bS nx v j).q≠[]:=fun e=>h (by rw[bS,show k=j+(k - j) by omega,zje,zh5 (next:=nx) (k - j) (s:=zfa nx j (zb1 nx.length v)) e];exact e)
def gB(nx:List (List Nat))(v k:Nat):Bool:= !(nth nx (hdN nx v k)).contains v
def gR(nx:List (List Nat))(v:Nat):Nat→Nat
 |0=>0
 |k+1=>if gB nx v k=true then 0 else nth (bS nx v k).far (hdN nx v k)
theorem zd9{nx:List (List Nat)}{v:Nat}:∀{k:Nat},(∀j,j<k→(bS nx v j).q≠[])→(bS nx v k).out=(List.range k).map (hdN nx v)
 |0,_=>rfl
 |k+1,h=>by
  have hk:=h k (by omega)
  obtain⟨w,q,hq⟩:∃w q,(bS nx v k).q=w::q:=by cases e:(bS nx v k).q with|nil=>exact absurd e hk|cons w q=>exact⟨w,q,rfl⟩
  rw[zwg hq,zd9 fun j hj=>h j (by omega),List.range_succ,List.map_append,List.map_singleton,hdN,hq];rfl
theorem job{nx:List (List Nat)}{v:Nat}:∀{k:Nat},(∀j,j<k→gB nx v j=true)→gR nx v k=0
 |0,_=>rfl
 |k+1,h=>by rw[gR,if_pos (h k (by omega))]
theorem zzl{nx:List (List Nat)}{v k:Nat}(hN:GrN nx v)(hk:∀j,j<k→gB nx v j=true∧(bS nx v j).q≠[])(hq:(bS nx v k).q=[]):zeq nx v=0:=by
 rw[zeq,←zwf hN (fun j hj=>(hk j hj).2) hq,zd9 fun j hj=>(hk j hj).2]
 have:((List.range k).map (hdN nx v)).find? (fun w=>(nth nx w).contains v)=none:=by
  rw[List.find?_eq_none]
  intro w hw
  obtain⟨j,hj,rfl⟩:=List.mem_map.1 hw
  have:=(hk j (List.mem_range.1 hj)).1
  unfold gB at this
  simpa using this
 rw[this]
theorem zwk{nx:List (List Nat)}{v:Nat}(k:Nat):∀m,(bS nx v k).out<+:(bS nx v (k+m)).out
 |0=>List.prefix_rfl
 |m+1=>by
  refine(zwk k m).trans ?_
  rw[show k+(m+1)=(k+m)+1 by omega,jk8,zli]
  exact List.prefix_append _ _
theorem zzm{nx:List (List Nat)}{v k:Nat}(hN:GrN nx v)(hk:∀j,j<k→gB nx v j=true∧(bS nx v j).q≠[])(hq:(bS nx v k).q≠[])(hb:gB nx v k=false):zeq nx v=nth (bS nx v k).far (hdN nx v k):=by
 obtain⟨w,q,hwq⟩:∃w q,(bS nx v k).q=w::q:=by cases e:(bS nx v k).q with|nil=>exact absurd e hq|cons w q=>exact⟨w,q,rfl⟩
 have hbc:=zol hN.n k (zi5 hN.s)
 have hkn:k<nx.length:=by
  have h1:=zi6 hbc
  have h2:=zd9 fun j hj=>(hk j hj).2
  rw[show zfa nx k (zb1 nx.length v)=bS nx v k from rfl,h2,hwq]at h1
  simp at h1;omega
 have hall:∀j,j<k+1→(bS nx v j).q≠[]:=fun j hj=>by
  by_cases e:j=k
  ·rw[e];exact hq
  ·exact(hk j (by omega)).2
 have hpre:(bS nx v (k+1)).out<+:(zfk nx v).out:=by
  have:=zwk (nx:=nx) (v:=v) (k+1) (nx.length - (k+1))
  rw[show k+1+(nx.length - (k+1))=nx.length by omega]at this
  exact this
 obtain⟨t,ht⟩:=hpre
 rw[zd9 hall,List.range_succ,List.map_append]at ht
 have hd:hdN nx v k=w:=by rw[hdN,hwq];rfl
 rw[zeq,←ht]
 have h0:((List.range k).map (hdN nx v)).find? (fun w=>(nth nx w).contains v)=none:=by
  rw[List.find?_eq_none]
  intro w hw
  obtain⟨j,hj,rfl⟩:=List.mem_map.1 hw
  have:=(hk j (List.mem_range.1 hj)).1
  unfold gB at this
  simpa using this
 have h1:(nth nx (hdN nx v k)).contains v=true:=by unfold gB at hb;simpa using hb
 rw[List.append_assoc,List.find?_append,h0,Option.none_or,List.map_singleton,List.singleton_append,List.find?_cons,h1]
 show nth (zfk nx v).far (hdN nx v k)=_
 rw[hd]
 have hnz:nth (bS nx v k).far w≠0:=by
  have hm:w∈(bS nx v k).out++(bS nx v k).q:=by rw[hwq];simp
  exact(hbc.i.far w (hbc.i.lt w hm)).2 hm
 rw[zfk,show nx.length=k+(nx.length - k) by omega,zje,show zfa nx k (zb1 (k+(nx.length - k)) v)=bS nx v k by rw[show k+(nx.length - k)=nx.length by omega];rfl,zlk _ hnz]
def gD(nx pv:List (List Nat)):D:=.agg [zai nx,zai pv]
theorem zzn{p q:Prop}(hq:q)(h:p=q:=by
 conv=>lhs;simp -dsimp -implicitDefEqProofs (disch:=first|assumption|omega|(simp only[r_z,zag]<;>omega)|decide) only[r_r,↓reduceIte,Nat.reduceEqDiff,Nat.reduceAdd,D.fix,Int.reduceToNat,Nat.reduceMul,Nat.reduceBNe,Nat.reduceBEq,gD,zai,jee]):p:=h.mpr hq
theorem jjf{p q:Prop}(hq:q)(h:p=q:=by
 conv=>lhs;simp -dsimp -implicitDefEqProofs (disch:=first|assumption|omega|(simp only[r_z,zag]<;>omega)|decide) only[r_r,↓reduceIte,Nat.reduceEqDiff,Nat.reduceAdd,D.fix,Int.reduceToNat,Nat.reduceMul,Nat.reduceBNe,Nat.reduceBEq,gD,zai]):p:=h.mpr hq
theorem jeg{p q r:Prop}(e:r)(hq:q)(h:r→p=q:=by
 intro hY
 conv=>lhs;simp -dsimp -implicitDefEqProofs (disch:=first|assumption|omega|(simp only[r_z,zag]<;>omega)|decide) only[r_r,↓reduceIte,Nat.reduceEqDiff,Nat.reduceAdd,D.fix,Int.reduceToNat,Nat.reduceMul,Nat.reduceBNe,Nat.reduceBEq,gD,zai,jee,hY]):p:=(h e).mpr hq
theorem jjg{p q:Prop}(hq:q)(h:p=q:=by
 conv=>lhs;simp -dsimp -implicitDefEqProofs (disch:=first|assumption|omega|(simp only[r_z,zag]<;>omega)|decide) only[r_r,↓reduceIte,Nat.reduceEqDiff,Nat.reduceAdd,D.fix,Int.reduceToNat,Nat.reduceMul,Nat.reduceBNe,Nat.reduceBEq,gD,zai,zgp,zgq]):p:=h.mpr hq
theorem joc{p:Prop}(h:p:=by
 first|rfl|(simp only[r_g,Nat.reduceAdd,↓reduceIte,Nat.reduceEqDiff,gD,zai];first|done|rfl)):p:=h
theorem jod{p q:Prop}(hq:q)(h:p=q:=by
 conv=>lhs;simp (disch:=first|assumption|omega|(simp only[r_z,zag]<;>omega)|decide) only[r_c,Nat.reduceAdd,D.fix,↓reduceIte,Nat.reduceEqDiff,gD,zai]):p:=h.mpr hq
theorem jeh(nx pv:List (List Nat))(v:Nat)(hN:GrN nx v):zaq Try.prog 53 [gD nx pv,iD (v:Int)] (.d (iD ((zeq nx v:Nat):Int))):=by
 refine zfg (fn:=Try.f53) (by kernel_rfl) Try.func53 rfl (Nat.le_of_ble_eq_true rfl) fun c hc hp hTop=>?_
 refine zau (τ':=frL [(0,.d (gD nx pv)),(1,.d (iD (v:Int)))]) (by repeat (first|exact zah _|refine zac ?_ (by first|rfl|(simp[r_f,zag];done)|simp[r_f,zag, *]))) ?_
 refine szq hp (fun _ hZ=>zzn hZ) ?_
 refine zab fun K2 hK2=>?_
 refine zad hp zao hc rfl fun K3 hK3=>?_
 refine zzn ?_
 refine zbb (zwe nx v) rfl ?_
 refine zzn ?_
 refine hK3 _ _ ?_
 refine zaf ?_
 refine zbc hp (τ':=frL [(2,.d (.fp [zai nx,zai pv] 0)),(3,.d (.fp [iD (v:Int)] 0)),(4,.op 1 0),(10,.d (.clo (.func 57) [] [.fp [zai nx] 0,.fp [iD (v:Int)] 0]))]) (H':=[.free,.cells [.d (iD 0)],.free,.free]) ?_ ?_
 ·refine Rt.trans (Rt.fz (id:=0) (l:=[zai nx,zai pv]) rfl) ?_
  refine Rt.trans (Rt.fz (id:=1) (l:=[iD (v:Int)]) rfl) ?_
  refine Rt.trans (Rt.gc (keep:=[2]) (by decide) (by decide) (by simp[fzH,gcH])) ?_
  refine Rt.trans (Rt.fr1) ?_
  refine Rt.trans (Rt.fr1) ?_
  refine Rt.trans (Rt.fr1) ?_
  refine Rt.trans (Rt.gc (keep:=[1,0,2,3]) (by decide) (by decide) (by simp[fzH,gcH])) ?_
  refine Rt.end (by repeat (first|exact zah _|refine zac ?_ (by first|rfl|(simp[r_f,zag];done)|simp[r_f,zag, *]))) ?_
  exact joc
 refine zlp (n:=Try.f53.ntmps) (T:=[]) (o1:=fun k=>.cells [.d (iD ((gR nx v k:Nat):Int))]) (o2:=fun _=>.free) (o3:=fun _=>.free) (bo:=gB nx v) (nx:=nx) (st:=v) (fr:=[.any,.any,.d (.fp [zai nx,zai pv] 0),.d (.fp [iD (v:Int)] 0),.op 1 0]) hTop hp hc rfl (fun t=>zdb (by first|rfl|(simp[AV.allIs,AV.allI,za4,zav,zaw,okI,ltI,zap,zbl];done)|(intro o ho;simp at ho;done)) t) (by first|rfl|(simp[AV.allIs,AV.allI,za4,zav,zaw,okI,ltI,zap,zbl];done)|(intro o ho;simp at ho;done)) rfl (show ∀j x,((List.range 5).map (frL [(2,.d (.fp [zai nx,zai pv] 0)),(3,.d (.fp [iD (v:Int)] 0)),(4,.op 1 0),(10,.d (.clo (.func 57) [] [.fp [zai nx] 0,.fp [iD (v:Int)] 0]))]))[j]? =some x→frL [(2,.d (.fp [zai nx,zai pv] 0)),(3,.d (.fp [iD (v:Int)] 0)),(4,.op 1 0),(10,.d (.clo (.func 57) [] [.fp [zai nx] 0,.fp [iD (v:Int)] 0]))] j=x from zow) (by first|rfl|(simp[AV.allIs,AV.allI,za4,zav,zaw,okI,ltI,zap,zbl];done)|(intro o ho;simp at ho;done)) (fun k=>(by first|rfl|(simp[AV.allIs,AV.allI,za4,zav,zaw,okI,ltI,zap,zbl];done)|(intro o ho;simp at ho;done))) (fun k=>(by first|rfl|(simp[AV.allIs,AV.allI,za4,zav,zaw,okI,ltI,zap,zbl];done)|(intro o ho;simp at ho;done))) (fun k=>(by first|rfl|(simp[AV.allIs,AV.allI,za4,zav,zaw,okI,ltI,zap,zbl];done)|(intro o ho;simp at ho;done))) rfl (by decide) (hN) ?_ ?_ ?_
 ·intro lp lq hlp hlq k w q hq hk c2 hc2 hp2
  refine zau (τ':=frL [(2,.d (.fp [zai nx,zai pv] 0)),(3,.d (.fp [iD (v:Int)] 0)),(4,.op 1 0),(11,.d (iD (w:Int))),(12,.d (iD (((nth (bS nx v k).far w:Nat):Int) - 1)))]) (by repeat (first|exact zah _|refine zac ?_ rfl)) ?_
  have hw1:hdN nx v k=w:=by rw[hdN,hq];rfl
  have hbc:=zol hN.n k (zi5 hN.s)
  have hwn:w<nx.length:=hbc.i.lt w (by rw[show zfa nx k (zb1 nx.length v)=bS nx v k from rfl,hq];simp)
  have hg:=zcu hwn
  have hgk:=job hk
  have hnr:=hN.r w
  have hfw:=zzg nx v k w
  have hnz:nth (bS nx v k).far w≠0:=(hbc.i.far w hwn).2 (by rw[show zfa nx k (zb1 nx.length v)=bS nx v k from rfl,hq];simp)
  have hol:=zi6 hbc
  have hkb:nth (bS nx v k).far w≤100000:=by
   have h2:=zd9 (nx:=nx) (v:=v) (k:=k) fun j hj=>jo6 (by rw[hq];simp) (Nat.le_of_lt hj)
   rw[show zfa nx k (zb1 nx.length v)=bS nx v k from rfl,h2]at hol
   simp at hol
   have:=hN.b
   omega
  refine zad hp2 zao hc2 rfl fun K4 hK4=>?_
  refine jjf ?_
  refine hK4 _ _ ?_
  refine zbj hp2 zao hc2 rfl fun K5 hK5=>?_
  refine jjf ?_
  refine hK5 _ _ ⟨rfl,?_⟩
  refine zaf ?_
  refine zbk zao hc2 mixed rfl (q:=0) (by kernel_rfl) (by kernel_rfl) fun K6 hK6=>?_
  refine jeg hg ?_
  refine zbb (zoy (nth nx w) v (by omega)) rfl ?_
  refine jeg hg ?_
  refine hK6 _ _ ?_
  refine zam rfl (fun ht=>?_) (fun ht=>?_)
  ·have hbf:gB nx v k=false:=by rw[gB,hw1,ht];rfl
   have hg1:gR nx v (k+1)=nth (bS nx v k).far w:=by rw[gR,if_neg (by rw[hbf];simp),hw1]
   have hv1:((nth (bS nx v k).far w:Nat):Int) - 1+1=((gR nx v (k+1):Nat):Int):=by rw[hg1];omega
   refine zad hp2 zao hc2 rfl fun K7 hK7=>?_
   refine jeg hv1 ?_
   refine hK7 _ _ ?_
   refine zar ?_
   try dsimp only[zcy,za8]
   refine⟨frL [],[lq,.cells [.d (iD ((gR nx v (k+1):Nat):Int))],.free,.free],?_,rfl,?_⟩
   ·refine Rt.end (zah _) ?_
    exact joc
   exact .inr ⟨rfl,hbf⟩
  ·have hbt:gB nx v k=true:=by rw[gB,hw1,ht];rfl
   have hg1:gR nx v (k+1)=0:=by rw[gR,if_pos hbt]
   refine zak ?_
   try dsimp only[zcy,za8]
   refine⟨frL [],[lq,.cells [.d (iD ((gR nx v (k+1):Nat):Int))],.free,.free],?_,rfl,?_⟩
   ·refine Rt.end (zah _) ?_
    rw[hg1,hgk];rfl
   exact .inl ⟨rfl,hbt⟩
 ·intro k hk hq
  have hg1:=zzl hN hk hq
  have hg2:=job fun j hj=>(hk j hj).1
  refine(hK2 _ _ ?_)
  refine szq hp (fun _ hZ=>zzn hZ) ?_
  refine zar ?_
  try dsimp only[zcy,za8]
  refine zcb rfl ?_
  refine jjg ?_
  show closeA _ _=_
  refine jod ?_
  rw[hg1];rfl
 ·intro k hk hq hb
  have hg1:=zzm hN hk hq hb
  have hg2:gR nx v (k+1)=zeq nx v:=by rw[hg1,gR,if_neg (by rw[hb];simp)]
  try dsimp only[zcy,za8]
  refine zcb rfl ?_
  refine jjg ?_
  show closeA _ _=_
  refine jod ?_
  rw[hg2]
end Go.Proofs.Ytfolbdkbpmgjgaa
