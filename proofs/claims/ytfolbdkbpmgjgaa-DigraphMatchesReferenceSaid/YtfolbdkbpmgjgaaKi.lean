/- Searching in rows; girth. -/
import Derived.Test.YtfolbdkbpmgjgaaQr
import Derived.Test.YtfolbdkbpmgjgaaKh
set_option linter.unusedVariables false
set_option linter.unusedSimpArgs false
set_option maxRecDepth 100000
set_option maxHeartbeats 4000000
namespace Go.Proofs.Ytfolbdkbpmgjgaa
open Go Go.RowKit
theorem jgb:((((type_of% @zcy)∧(type_of% @zcz))∧((type_of% @zb8)∧((type_of% @zea)∧(type_of% @zeb))))∧(((type_of% @jim)∧(type_of% @zdn))∧((type_of% @ze3)∧((type_of% @zfx)∧(type_of% @zeh))))):=⟨⟨⟨@zcy,@zcz⟩,⟨@zb8,⟨@zea,@zeb⟩⟩⟩,⟨⟨@jim,@zdn⟩,⟨@ze3,⟨@zfx,@zeh⟩⟩⟩⟩
def zgm{α:Type}(p:α→Bool)(l:List α):Int:=match l.findIdx? p with|some i=>i|none=> -1
theorem zg8{α:Type}[Inhabited α]{p:α→Bool}:∀{l:List α} {k:Nat},k<l.length→(∀j,j<k→p (nth l j)=false)→p (nth l k)=true→zgm p l=k:=by
 intro l k hk hf ht
 have:l.findIdx? p=some k:=by
  rw[List.findIdx?_eq_some_iff_getElem]
  refine⟨hk,by rw[←za5 hk];exact ht,fun j hj=>?_⟩
  rw[←za5 (by omega),hf j hj];simp
 simp[zgm,this]
theorem zhv{α:Type}[Inhabited α]{p:α→Bool}{l:List α}(hf:∀j,j<l.length→p (nth l j)=false):zgm p l= -1:=by
 have:l.findIdx? p=none:=by
  rw[List.findIdx?_eq_none_iff]
  intro x hx
  obtain⟨i,hi,rfl⟩:=List.getElem_of_mem hx
  rw[←za5 hi];exact hf i hi
 simp[zgm,this]
theorem zoa{α:Type}{p:α→Bool}{l:List α}:decide (0≤zgm p l)=l.any p:=by
 unfold zgm
 cases h:l.findIdx? p with
 |none=>
  rw[List.findIdx?_eq_none_iff]at h
  have:l.any p=false:=by rw[List.any_eq_false];intro x hx;simp[h x hx]
  rw[this];rfl
 |some i=>
  have hi:=List.findIdx?_eq_some_iff_getElem.1 h
  obtain⟨h1,h2,_⟩:=hi
  have:l.any p=true:=List.any_eq_true.2 ⟨_,List.getElem_mem h1,h2⟩
  rw[this];simp
theorem zxm{p q:Prop}(hq:q)(h:p=q:=by
 conv=>lhs;simp -dsimp -implicitDefEqProofs (disch:=first|assumption|omega|(simp only[r_z]<;>omega)|decide) only[r_r,↓reduceIte,Nat.reduceEqDiff,Nat.reduceAdd,D.fix,Int.reduceToNat,Nat.reduceMul,Nat.reduceBNe,Nat.reduceBEq]):p:=h.mpr hq
theorem ztj{p q:Prop}(hq:q)(h:p=q:=by
 conv=>lhs;simp -dsimp -implicitDefEqProofs (disch:=first|assumption|omega|(simp only[r_z]<;>omega)|decide) only[r_r,↓reduceIte,Nat.reduceEqDiff,Nat.reduceAdd,D.fix,Int.reduceToNat,Nat.reduceMul,Nat.reduceBNe,Nat.reduceBEq,jgb]):p:=h.mpr hq
theorem jrk{m:List Nat}{τ τ':Fr}{H H':zaa}(h2:H=H')(h:zez τ τ':=by
 repeat (first|exact zal _|refine zaf ?_ (by first|rfl|(simp[r_f];done)|simp[r_f, *]))):Rt m τ H τ' H':=Rt.end h h2
theorem jrl{p:Prop}(h:p:=by
 simp (disch:=first|assumption|omega|(simp only[r_z]<;>omega)|decide) only[r_c,Nat.reduceAdd,D.fix,↓reduceIte,Nat.reduceEqDiff,hx]):p:=h
theorem jlj(l:List Int)(n:Int)(hl:l.length≤1000000):zas Try.prog 47 [intsD l,iD n] (.d (iD (zgm (fun x=>n==x) l))):=by
 refine zau (fn:=Try.f47) (by kernel_rfl) Try.func47 rfl (Nat.le_of_ble_eq_true rfl) fun c hc hp=>?_
 refine zaw (τ':=frL [(0,.d (intsD l)),(1,.d (iD n))]) (by repeat (first|exact zal _|refine zaf ?_ (by first|rfl|(simp[r_f];done)|simp[r_f, *]))) ?_
 refine szq hp (fun _ hZ=>zxm hZ) ?_
 refine zab fun K2 hK2=>?_
 refine szq hp (fun _ hZ=>ztj hZ) ?_
 refine zae ?_
 refine zao hp (fun τ' H' mm=>∃k,(k≤l.length∧∀j,j<k→(n==nth l j)=false)∧mm=l.length - k∧H'=[]∧τ'=frL [(0,.d (intsD l)),(1,.d (iD n)),(6,.d (intsD l)),(7,.d (iD l.length)),(8,.d (iD k))]) (l.length) ?_ ⟨0,⟨Nat.zero_le _,fun j hj=>absurd hj (by omega)⟩,rfl,rfl,rfl⟩ ?_
 ·refine jrk ?_
  first|rfl|(simp only[r_g,Nat.reduceAdd,↓reduceIte,Nat.reduceEqDiff];first|done|rfl)
 rintro τ' H' mm ⟨k,⟨hk,hf⟩,rfl,rfl,rfl⟩
 refine szq hp (fun _ hZ=>ztj hZ) ?_
 refine zab fun K5 hK5=>?_
 refine zai rfl (fun ht=>?_) (fun ht=>?_)
 ·have hlt:k<l.length:=by simp at ht;omega
  refine zah (hK5 _ _ ?_)
  refine zab fun K6 hK6=>?_
  refine zae ?_
  refine szq hp (fun _ hZ=>zxm hZ) ?_
  refine szq hp (fun _ hZ=>ztj hZ) ?_
  refine zai rfl (fun ht=>?_) (fun ht=>?_)
  ·have hx:=zg8 (p:=fun x=>n==x) hlt hf ht
   refine szq hp (fun _ hZ=>zxm hZ) ?_
   refine zaq ?_
   show closeA _ _=_
   exact jrl
  ·have hf':∀j,j<k+1→(n==nth l j)=false:=fun j hj=>by
    rcases Nat.lt_or_ge j k with h|h
    ·exact hf j h
    ·obtain rfl:j=k:=by omega
     exact ht
   refine zah (hK6 _ _ ?_)
   refine za6 hp zam hc rfl fun K10 hK10=>?_
   refine ztj ?_
   refine hK10 _ _ ⟨_,_,_,?_,⟨k+1,⟨by omega,hf'⟩,rfl,rfl,rfl⟩,?_⟩
   ·first|omega|(simp only[List.length_cons];omega)|(dsimp only;omega)
   ·refine jrk ?_
    first|rfl|(simp only[r_g,Nat.reduceAdd,↓reduceIte,Nat.reduceEqDiff];first|done|rfl)
 ·have hx:zgm (fun x=>n==x) l= -1:=zhv fun j hj=>hf j (by simp at ht;omega)
  refine zat (hK2 _ _ ?_)
  refine szq hp (fun _ hZ=>zxm hZ) ?_
  refine zaq ?_
  show closeA _ _=_
  exact jrl
def inB(n:Int)(l:List Int):Bool:=l.any fun x=>n==x
theorem jgc{n:Int}{l:List Int}:inB n l=true↔n∈l:=by simp[inB]
theorem jay{n:Int}{l:List Int}:decide (0≤zgm (fun x=>n==x) l)=inB n l:=zoa
theorem ztk(l:List Int)(n:Int)(hl:l.length≤1000000):zas Try.prog 66 [intsD l,iD n] (.d (.val (.bool (inB n l)))):=by
 refine zau (fn:=Try.f66) (by kernel_rfl) Try.func66 rfl (Nat.le_of_ble_eq_true rfl) fun c hc hp=>?_
 refine zaw (τ':=frL [(0,.d (intsD l)),(1,.d (iD n))]) (by repeat (first|exact zal _|refine zaf ?_ (by first|rfl|(simp[r_f];done)|simp[r_f, *]))) ?_
 refine szq hp (fun _ hZ=>zxm hZ) ?_
 refine zaj hp zam hc rfl fun K2 hK2=>?_
 refine ztj ?_
 refine zbd (jlj l n hl) rfl ?_
 refine ztj ?_
 refine hK2 _ _ ?_
 refine zaq ?_
 show closeA _ _=_
 simp (disch:=first|assumption|omega|(simp only[r_z]<;>omega)|decide) only[r_c,Nat.reduceAdd,D.fix,↓reduceIte,Nat.reduceEqDiff,jay]
theorem jd2{l:List Nat}{v:Nat}:(v:Int)∈zl l↔v∈l:=by
 unfold zl
 rw[List.mem_map]
 constructor
 ·rintro⟨x,hx,e⟩
  have:x=v:=by omega
  rw[←this];exact hx
 ·exact fun h=>⟨v,h,rfl⟩
theorem jpe{l:List Nat}{v:Nat}:inB (v:Int) (zl l)=l.contains v:=by
 rw[Bool.eq_iff_iff,jgc,jd2,List.contains_iff_mem]
theorem zpr(l:List Nat)(v:Nat)(hl:l.length≤1000000):zas Try.prog 66 [.fs (nsD l) l.length,iD (v:Int)] (.d (.val (.bool (l.contains v)))):=by
 have:=ztk (zl l) v (by rw[zbe];exact hl)
 rw[jpe]at this
 simpa[intsD,nsD,zbe]using this
def hdN(nx:List (List Nat))(v k:Nat):Nat:=(bS nx v k).q.headD 0
theorem jsl{nx:List (List Nat)}{v j k:Nat}(h:(bS nx v k).q≠[])(hj:j≤k):(bS nx v j).q≠[]:=fun e=>h (by rw[bS,show k=j+(k - j) by omega,zjw,zio (next:=nx) (k - j) (s:=zfm nx j (zb6 nx.length v)) e];exact e)
def gB(nx:List (List Nat))(v k:Nat):Bool:= !(nth nx (hdN nx v k)).contains v
def gR(nx:List (List Nat))(v:Nat):Nat→Nat
 |0=>0
 |k+1=>if gB nx v k=true then 0 else nth (bS nx v k).far (hdN nx v k)
theorem zel{nx:List (List Nat)}{v:Nat}:∀{k:Nat},(∀j,j<k→(bS nx v j).q≠[])→(bS nx v k).out=(List.range k).map (hdN nx v)
 |0,_=>rfl
 |k+1,h=>by
  have hk:=h k (by omega)
  obtain⟨w,q,hq⟩:∃w q,(bS nx v k).q=w::q:=by cases e:(bS nx v k).q with|nil=>exact absurd e hk|cons w q=>exact⟨w,q,rfl⟩
  rw[zxj hq,zel fun j hj=>h j (by omega),List.range_succ,List.map_append,List.map_singleton,hdN,hq];rfl
theorem jrm{nx:List (List Nat)}{v:Nat}:∀{k:Nat},(∀j,j<k→gB nx v j=true)→gR nx v k=0
 |0,_=>rfl
 |k+1,h=>by rw[gR,if_pos (h k (by omega))]
theorem jaz{nx:List (List Nat)}{v k:Nat}(hN:GrN nx v)(hk:∀j,j<k→gB nx v j=true∧(bS nx v j).q≠[])(hq:(bS nx v k).q=[]):zdk nx v=0:=by
 rw[zdk,←zxi hN (fun j hj=>(hk j hj).2) hq,zel fun j hj=>(hk j hj).2]
 have:((List.range k).map (hdN nx v)).find? (fun w=>(nth nx w).contains v)=none:=by
  rw[List.find?_eq_none]
  intro w hw
  obtain⟨j,hj,rfl⟩:=List.mem_map.1 hw
  have:=(hk j (List.mem_range.1 hj)).1
  unfold gB at this
  simpa using this
 rw[this]
theorem zxn{nx:List (List Nat)}{v:Nat}(k:Nat):∀m,(bS nx v k).out<+:(bS nx v (k+m)).out
 |0=>List.prefix_rfl
 |m+1=>by
  refine(zxn k m).trans ?_
  rw[show k+(m+1)=(k+m)+1 by omega,jn6,zl1]
  exact List.prefix_append _ _
theorem ja0{nx:List (List Nat)}{v k:Nat}(hN:GrN nx v)(hk:∀j,j<k→gB nx v j=true∧(bS nx v j).q≠[])(hq:(bS nx v k).q≠[])(hb:gB nx v k=false):zdk nx v=nth (bS nx v k).far (hdN nx v k):=by
 obtain⟨w,q,hwq⟩:∃w q,(bS nx v k).q=w::q:=by cases e:(bS nx v k).q with|nil=>exact absurd e hq|cons w q=>exact⟨w,q,rfl⟩
 have hbc:=zpg hN.n k (zjn hN.s)
 have hkn:k<nx.length:=by
  have h1:=zjo hbc
  have h2:=zel fun j hj=>(hk j hj).2
  rw[show zfm nx k (zb6 nx.length v)=bS nx v k from rfl,h2,hwq]at h1
  simp at h1;omega
 have hall:∀j,j<k+1→(bS nx v j).q≠[]:=fun j hj=>by
  by_cases e:j=k
  ·rw[e];exact hq
  ·exact(hk j (by omega)).2
 have hpre:(bS nx v (k+1)).out<+:(zew nx v).out:=by
  have:=zxn (nx:=nx) (v:=v) (k+1) (nx.length - (k+1))
  rw[show k+1+(nx.length - (k+1))=nx.length by omega]at this
  exact this
 obtain⟨t,ht⟩:=hpre
 rw[zel hall,List.range_succ,List.map_append]at ht
 have hd:hdN nx v k=w:=by rw[hdN,hwq];rfl
 rw[zdk,←ht]
 have h0:((List.range k).map (hdN nx v)).find? (fun w=>(nth nx w).contains v)=none:=by
  rw[List.find?_eq_none]
  intro w hw
  obtain⟨j,hj,rfl⟩:=List.mem_map.1 hw
  have:=(hk j (List.mem_range.1 hj)).1
  unfold gB at this
  simpa using this
 have h1:(nth nx (hdN nx v k)).contains v=true:=by unfold gB at hb;simpa using hb
 rw[List.append_assoc,List.find?_append,h0,Option.none_or,List.map_singleton,List.singleton_append,List.find?_cons,h1]
 show nth (zew nx v).far (hdN nx v k)=_
 rw[hd]
 have hnz:nth (bS nx v k).far w≠0:=by
  have hm:w∈(bS nx v k).out++(bS nx v k).q:=by rw[hwq];simp
  exact(hbc.i.far w (hbc.i.lt w hm)).2 hm
 rw[zew,show nx.length=k+(nx.length - k) by omega,zjw,show zfm nx k (zb6 (k+(nx.length - k)) v)=bS nx v k by rw[show k+(nx.length - k)=nx.length by omega];rfl,zl3 _ hnz]
def gD(nx pv:List (List Nat)):D:=.agg [zan nx,zan pv]
theorem ja1{p q:Prop}(hq:q)(h:p=q:=by
 conv=>lhs;simp -dsimp -implicitDefEqProofs (disch:=first|assumption|omega|(simp only[r_z,zak]<;>omega)|decide) only[r_r,↓reduceIte,Nat.reduceEqDiff,Nat.reduceAdd,D.fix,Int.reduceToNat,Nat.reduceMul,Nat.reduceBNe,Nat.reduceBEq,gD,zan,jgb]):p:=h.mpr hq
theorem jlk{p q:Prop}(hq:q)(h:p=q:=by
 conv=>lhs;simp -dsimp -implicitDefEqProofs (disch:=first|assumption|omega|(simp only[r_z,zak]<;>omega)|decide) only[r_r,↓reduceIte,Nat.reduceEqDiff,Nat.reduceAdd,D.fix,Int.reduceToNat,Nat.reduceMul,Nat.reduceBNe,Nat.reduceBEq,gD,zan]):p:=h.mpr hq
theorem jgd{p q r:Prop}(e:r)(hq:q)(h:r→p=q:=by
 intro hY
 conv=>lhs;simp -dsimp -implicitDefEqProofs (disch:=first|assumption|omega|(simp only[r_z,zak]<;>omega)|decide) only[r_r,↓reduceIte,Nat.reduceEqDiff,Nat.reduceAdd,D.fix,Int.reduceToNat,Nat.reduceMul,Nat.reduceBNe,Nat.reduceBEq,gD,zan,jgb,hY]):p:=(h e).mpr hq
theorem jll{p q:Prop}(hq:q)(h:p=q:=by
 conv=>lhs;simp -dsimp -implicitDefEqProofs (disch:=first|assumption|omega|(simp only[r_z,zak]<;>omega)|decide) only[r_r,↓reduceIte,Nat.reduceEqDiff,Nat.reduceAdd,D.fix,Int.reduceToNat,Nat.reduceMul,Nat.reduceBNe,Nat.reduceBEq,gD,zan,zea,zeb]):p:=h.mpr hq
theorem jrn{p:Prop}(h:p:=by
 first|rfl|(simp only[r_g,Nat.reduceAdd,↓reduceIte,Nat.reduceEqDiff,gD,zan];first|done|rfl)):p:=h
theorem jro{p q:Prop}(hq:q)(h:p=q:=by
 conv=>lhs;simp (disch:=first|assumption|omega|(simp only[r_z,zak]<;>omega)|decide) only[r_c,Nat.reduceAdd,D.fix,↓reduceIte,Nat.reduceEqDiff,gD,zan]):p:=h.mpr hq
theorem jge(nx pv:List (List Nat))(v:Nat)(hN:GrN nx v):zas Try.prog 53 [gD nx pv,iD (v:Int)] (.d (iD ((zdk nx v:Nat):Int))):=by
 refine zfu (fn:=Try.f53) (by kernel_rfl) Try.func53 rfl (Nat.le_of_ble_eq_true rfl) fun c hc hp hTop=>?_
 refine zaw (τ':=frL [(0,.d (gD nx pv)),(1,.d (iD (v:Int)))]) (by repeat (first|exact zal _|refine zaf ?_ (by first|rfl|(simp[r_f,zak];done)|simp[r_f,zak, *]))) ?_
 refine szq hp (fun _ hZ=>ja1 hZ) ?_
 refine zab fun K2 hK2=>?_
 refine zaj hp zam hc rfl fun K3 hK3=>?_
 refine ja1 ?_
 refine zbd (zxh nx v) rfl ?_
 refine ja1 ?_
 refine hK3 _ _ ?_
 refine zae ?_
 refine zba hp (τ':=frL [(2,.d (.fp [zan nx,zan pv] 0)),(3,.d (.fp [iD (v:Int)] 0)),(4,.op 1 0),(10,.d (.clo (.func 57) [] [.fp [zan nx] 0,.fp [iD (v:Int)] 0]))]) (H':=[.free,.cells [.d (iD 0)],.free,.free]) ?_ ?_
 ·refine Rt.trans (Rt.fz (id:=0) (l:=[zan nx,zan pv]) rfl) ?_
  refine Rt.trans (Rt.fz (id:=1) (l:=[iD (v:Int)]) rfl) ?_
  refine Rt.trans (Rt.gc (keep:=[2]) (by decide) (by decide) (by simp[fzH,gcH])) ?_
  refine Rt.trans (Rt.fr1) ?_
  refine Rt.trans (Rt.fr1) ?_
  refine Rt.trans (Rt.fr1) ?_
  refine Rt.trans (Rt.gc (keep:=[1,0,2,3]) (by decide) (by decide) (by simp[fzH,gcH])) ?_
  refine Rt.end (by repeat (first|exact zal _|refine zaf ?_ (by first|rfl|(simp[r_f,zak];done)|simp[r_f,zak, *]))) ?_
  exact jrn
 refine zl9 (n:=Try.f53.ntmps) (T:=[]) (o1:=fun k=>.cells [.d (iD ((gR nx v k:Nat):Int))]) (o2:=fun _=>.free) (o3:=fun _=>.free) (bo:=gB nx v) (nx:=nx) (st:=v) (fr:=[.any,.any,.d (.fp [zan nx,zan pv] 0),.d (.fp [iD (v:Int)] 0),.op 1 0]) hTop hp hc rfl (fun t=>zdm (by first|rfl|(simp[AV.allIs,AV.allI,za9,za0,za1,okI,ltI,zar,zbq];done)|(intro o ho;simp at ho;done)) t) (by first|rfl|(simp[AV.allIs,AV.allI,za9,za0,za1,okI,ltI,zar,zbq];done)|(intro o ho;simp at ho;done)) rfl (show ∀j x,((List.range 5).map (frL [(2,.d (.fp [zan nx,zan pv] 0)),(3,.d (.fp [iD (v:Int)] 0)),(4,.op 1 0),(10,.d (.clo (.func 57) [] [.fp [zan nx] 0,.fp [iD (v:Int)] 0]))]))[j]? =some x→frL [(2,.d (.fp [zan nx,zan pv] 0)),(3,.d (.fp [iD (v:Int)] 0)),(4,.op 1 0),(10,.d (.clo (.func 57) [] [.fp [zan nx] 0,.fp [iD (v:Int)] 0]))] j=x from zpp) (by first|rfl|(simp[AV.allIs,AV.allI,za9,za0,za1,okI,ltI,zar,zbq];done)|(intro o ho;simp at ho;done)) (fun k=>(by first|rfl|(simp[AV.allIs,AV.allI,za9,za0,za1,okI,ltI,zar,zbq];done)|(intro o ho;simp at ho;done))) (fun k=>(by first|rfl|(simp[AV.allIs,AV.allI,za9,za0,za1,okI,ltI,zar,zbq];done)|(intro o ho;simp at ho;done))) (fun k=>(by first|rfl|(simp[AV.allIs,AV.allI,za9,za0,za1,okI,ltI,zar,zbq];done)|(intro o ho;simp at ho;done))) rfl (by decide) (hN) ?_ ?_ ?_
 ·intro lp lq hlp hlq k w q hq hk c2 hc2 hp2
  refine zaw (τ':=frL [(2,.d (.fp [zan nx,zan pv] 0)),(3,.d (.fp [iD (v:Int)] 0)),(4,.op 1 0),(11,.d (iD (w:Int))),(12,.d (iD (((nth (bS nx v k).far w:Nat):Int) - 1)))]) (by repeat (first|exact zal _|refine zaf ?_ rfl)) ?_
  have hw1:hdN nx v k=w:=by rw[hdN,hq];rfl
  have hbc:=zpg hN.n k (zjn hN.s)
  have hwn:w<nx.length:=hbc.i.lt w (by rw[show zfm nx k (zb6 nx.length v)=bS nx v k from rfl,hq];simp)
  have hg:=zcm hwn
  have hgk:=jrm hk
  have hnr:=hN.r w
  have hfw:=zti nx v k w
  have hnz:nth (bS nx v k).far w≠0:=(hbc.i.far w hwn).2 (by rw[show zfm nx k (zb6 nx.length v)=bS nx v k from rfl,hq];simp)
  have hol:=zjo hbc
  have hkb:nth (bS nx v k).far w≤100000:=by
   have h2:=zel (nx:=nx) (v:=v) (k:=k) fun j hj=>jsl (by rw[hq];simp) (Nat.le_of_lt hj)
   rw[show zfm nx k (zb6 nx.length v)=bS nx v k from rfl,h2]at hol
   simp at hol
   have:=hN.b
   omega
  refine zaj hp2 zam hc2 rfl fun K4 hK4=>?_
  refine jlk ?_
  refine hK4 _ _ ?_
  refine za6 hp2 zam hc2 rfl fun K5 hK5=>?_
  refine jlk ?_
  refine hK5 _ _ ⟨rfl,?_⟩
  refine zae ?_
  refine zbj zam hc2 mixed rfl (q:=0) (by kernel_rfl) (by kernel_rfl) fun K6 hK6=>?_
  refine jgd hg ?_
  refine zbd (zpr (nth nx w) v (by omega)) rfl ?_
  refine jgd hg ?_
  refine hK6 _ _ ?_
  refine zai rfl (fun ht=>?_) (fun ht=>?_)
  ·have hbf:gB nx v k=false:=by rw[gB,hw1,ht];rfl
   have hg1:gR nx v (k+1)=nth (bS nx v k).far w:=by rw[gR,if_neg (by rw[hbf];simp),hw1]
   have hv1:((nth (bS nx v k).far w:Nat):Int) - 1+1=((gR nx v (k+1):Nat):Int):=by rw[hg1];omega
   refine zaj hp2 zam hc2 rfl fun K7 hK7=>?_
   refine jgd hv1 ?_
   refine hK7 _ _ ?_
   refine zaq ?_
   try dsimp only[zcq,za7]
   refine⟨frL [],[lq,.cells [.d (iD ((gR nx v (k+1):Nat):Int))],.free,.free],?_,rfl,?_⟩
   ·refine Rt.end (zal _) ?_
    exact jrn
   exact .inr ⟨rfl,hbf⟩
  ·have hbt:gB nx v k=true:=by rw[gB,hw1,ht];rfl
   have hg1:gR nx v (k+1)=0:=by rw[gR,if_pos hbt]
   refine zah ?_
   try dsimp only[zcq,za7]
   refine⟨frL [],[lq,.cells [.d (iD ((gR nx v (k+1):Nat):Int))],.free,.free],?_,rfl,?_⟩
   ·refine Rt.end (zal _) ?_
    rw[hg1,hgk];rfl
   exact .inl ⟨rfl,hbt⟩
 ·intro k hk hq
  have hg1:=jaz hN hk hq
  have hg2:=jrm fun j hj=>(hk j hj).1
  refine(hK2 _ _ ?_)
  refine szq hp (fun _ hZ=>ja1 hZ) ?_
  refine zaq ?_
  try dsimp only[zcq,za7]
  refine zbm rfl ?_
  refine jll ?_
  show closeA _ _=_
  refine jro ?_
  rw[hg1];rfl
 ·intro k hk hq hb
  have hg1:=ja0 hN hk hq hb
  have hg2:gR nx v (k+1)=zdk nx v:=by rw[hg1,gR,if_neg (by rw[hb];simp)]
  try dsimp only[zcq,za7]
  refine zbm rfl ?_
  refine jll ?_
  show closeA _ _=_
  refine jro ?_
  rw[hg2]
end Go.Proofs.Ytfolbdkbpmgjgaa
