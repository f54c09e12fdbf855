/- Components: walked. -/
import Derived.Test.YtfolbdkbpmgjgaaQr
import Derived.Test.YtfolbdkbpmgjgaaJe
set_option linter.unusedVariables false
set_option linter.unusedSimpArgs false
set_option maxRecDepth 100000
set_option maxHeartbeats 4000000
namespace Go.Proofs.Ytfolbdkbpmgjgaa
open Go Go.RowKit
theorem jl3:(((((type_of% @zea)∧(type_of% @zeb))∧((type_of% @zjk)∧(type_of% @zke)))∧(((type_of% @zcy)∧(type_of% @zcz))∧((type_of% @zb8)∧((type_of% @zcl)∧(type_of% @znm)))))∧((((type_of% @jaa)∧(type_of% @zns))∧((type_of% @jkf)∧((type_of% @ze3)∧(type_of% @zfx))))∧(((type_of% @jkd)∧(type_of% @jim))∧((type_of% @jae)∧((type_of% @jaf)∧(type_of% @jkl)))))):=⟨⟨⟨⟨@zea,@zeb⟩,⟨@zjk,@zke⟩⟩,⟨⟨@zcy,@zcz⟩,⟨@zb8,⟨@zcl,@znm⟩⟩⟩⟩,⟨⟨⟨@jaa,@zns⟩,⟨@jkf,⟨@ze3,@zfx⟩⟩⟩,⟨⟨@jkd,@jim⟩,⟨@jae,⟨@jaf,@jkl⟩⟩⟩⟩⟩
def tsI(n:Nat):Ts:=⟨0,List.replicate n 0,List.replicate n 0,List.replicate n false,[],[]⟩
def jl4(nx:List (List Nat))(n:Nat)(s:Ts)(v:Nat):Ts:=if nth s.num v=0 then zh7 nx n v s else s
def zto(nx:List (List Nat))(n k:Nat):Ts:=(List.range k).foldl (jl4 nx n) (tsI n)
theorem zx3(nx:List (List Nat))(n k:Nat):zto nx n (k+1)=jl4 nx n (zto nx n k) k:=by rw[zto,List.range_succ,List.foldl_append];rfl
theorem zhy{α:Type}[Inhabited α]{n k:Nat}{x:α}(h:k<n):nth (List.replicate n x) k=x:=by rw[za5 (by simpa using h)];simp
theorem jl5(n:Nat):TI n (tsI n):=by
 refine⟨by simp[tsI],by simp[tsI],by simp[tsI],fun w hw=>by simp[tsI]at hw,by simp[tsI],fun w hw=>?_,fun w hw=>?_,fun r hr=>by simp[tsI]at hr,by simp[tsI]⟩
 ·show nth (List.replicate n 0) w≠0↔_
  rw[zhy hw];simp[tsI]
 ·show nth (List.replicate n false) w=true↔_
  rw[zhy hw];simp[tsI]
theorem jd9(n:Nat)(s:Ts):unn n s≤n:=Nat.le_trans (List.length_filter_le _ _) (by simp)
def hdR(a b:List Nat):Bool:=decide (nth a 0≤nth b 0)
def jbi(L:List (List Nat)):List (List Nat):=L.mergeSort hdR
theorem zod:∀{L:List (List Nat)},L.flatten.Nodup→∀{a b:List Nat},a∈L→b∈L→∀{x:Nat},x∈a→x∈b→a=b
 |[],_,a,b,ha,_,_,_,_=>by cases ha
 |r::L,h,a,b,ha,hb,x,xa,xb=>by
  rw[List.flatten_cons,List.nodup_append]at h
  obtain⟨_,h2,h3⟩:=h
  rcases List.mem_cons.1 ha with e1|ha<;>rcases List.mem_cons.1 hb with e2|hb
  ·rw[e1,e2]
  ·exact absurd rfl (h3 x (e1▸xa) x (List.mem_flatten.2 ⟨b,hb,xb⟩))
  ·exact absurd rfl (h3 x (e2▸xb) x (List.mem_flatten.2 ⟨a,ha,xa⟩))
  ·exact zod h2 ha hb xa xb
theorem zx4(L:List (List Nat)):(jbi L).Pairwise fun a b=>hdR a b=true:=
 List.pairwise_mergeSort (fun a b c h1 h2=>by simp only[hdR,decide_eq_true_eq]at *;omega) (fun a b=>by simp only[hdR,Bool.or_eq_true,decide_eq_true_eq];omega) L
theorem zjy(L:List (List Nat)):(jbi L).Perm L:=List.mergeSort_perm _ _
theorem jbj{L out:List (List Nat)}(hp:L.Perm out)(hs:SoB L L.length)(hne:∀r∈out,r≠[])(hnd:out.flatten.Nodup):L=jbi out:=by
 refine List.Perm.eq_of_pairwise (le:=fun a b=>hdR a b=true) (fun a b ha hb h1 h2=>?_) ?_ (zx4 out) (hp.trans (zjy out).symm)
 ·simp only[hdR,decide_eq_true_eq]at h1 h2
  have ha':=hp.mem_iff.1 ha
  have hb':=(zjy out).mem_iff.1 hb
  have la:0<a.length:=List.length_pos_iff.2 (hne a ha')
  have lb:0<b.length:=List.length_pos_iff.2 (hne b hb')
  exact zod hnd ha' hb' (za3 la) (by rw[show nth a 0=nth b 0 by omega];exact za3 lb)
 ·rw[List.pairwise_iff_getElem]
  intro i j hi hj hij
  have:=hs i j hij hj
  rw[za5 hi,za5 hj]at this
  exact decide_eq_true this
def jio(n:Nat)(es:List Ed):List (List Nat):=jbi (zto (zav n es) n n).out
theorem zhz{f:Fn}{fi ca:List AV}:zb2 (.clo f fi ca)=some [.clo f fi ca]:=rfl
theorem jl6(n:Nat):(List.replicate n false).map oD=List.replicate n (oD false):=List.map_replicate
theorem jg6{p q:Prop}(hq:q)(h:p=q:=by
 conv=>lhs;simp -dsimp -implicitDefEqProofs (disch:=first|assumption|omega|(simp only[r_z,zad,zak,List.length_map]<;>omega)|decide) only[r_r,↓reduceIte,Nat.reduceEqDiff,Nat.reduceAdd,D.fix,Int.reduceToNat,Nat.reduceMul,Nat.reduceBNe,Nat.reduceBEq,gD,zan,zhz,zkx,zhs,zky,zkz,zd0,zcu,zcv,zb3,zb4]):p:=h.mpr hq
theorem zfp{p q:Prop}(hq:q)(h:p=q:=by
 conv=>lhs;simp -dsimp -implicitDefEqProofs (disch:=first|assumption|omega|(simp only[r_z,zad,zak,List.length_map]<;>omega)|decide) only[r_r,↓reduceIte,Nat.reduceEqDiff,Nat.reduceAdd,D.fix,Int.reduceToNat,Nat.reduceMul,Nat.reduceBNe,Nat.reduceBEq,gD,zan,zhz,zkx,zhs,zky,zkz,zd0,zcu,zcv,zb3,zb4,jl3]):p:=h.mpr hq
theorem jl7{m:List Nat}{τ τ':Fr}{H H':zaa}(h2:H=H')(h:zez τ τ':=by
 repeat (first|exact zal _|refine zaf ?_ (by first|rfl|(simp[r_f,zad,zak,List.length_map];done)|simp[r_f,zad,zak,List.length_map, *]))):Rt m τ H τ' H':=Rt.end h h2
theorem jrx{p q:Prop}(hq:q)(h:p=q:=by
 conv=>lhs;simp only[r_g,Nat.reduceAdd,↓reduceIte,Nat.reduceEqDiff,gD,zan,zhz,zkx,zhs,zky,zkz,zd0,zcu,zcv,zb3,zb4]):p:=h.mpr hq
theorem jps{p:Prop}(h:p:=by
 first|rfl|(simp only[r_g,Nat.reduceAdd,↓reduceIte,Nat.reduceEqDiff,gD,zan,zhz,zkx,zhs,zky,zkz,zd0,zcu,zcv,zb3,zb4];first|done|rfl)):p:=h
theorem zx5(n:Nat)(es:List Ed)(h:Gr n es)(hn12:n≤12):zas Try.prog 27 [iD (n:Int),zag es] (.d (zan (jio n es))):=by
 have hb:=h.b
 have hel:=h.l
 have hgr:=zju h
 have hR:jio n es=jbi (zto (zav n es) n n).out:=rfl
 have hnl:(zav n es).length=n:=zbb n es
 have hpl:(zay n es).length=n:=zcj n es
 have hnr:∀u,u<n→(nth (zav n es) u).length≤100000:=fun u hu=>(h.next (st:=u) hu).r u
 have hni:∀u,u<n→∀w∈nth (zav n es) u,w<n:=h.two.ni
 generalize zav n es=nx at hgr hR hnl hnr hni
 generalize zay n es=pv at hgr hpl
 refine zau (fn:=Try.f27) (by kernel_rfl) Try.func27 rfl (Nat.le_of_ble_eq_true rfl) fun c hc hp=>?_
 refine zaw (τ':=frL [(0,.d (iD (n:Int))),(1,.d (zag es))]) (by repeat (first|exact zal _|refine zaf ?_ (by first|rfl|(simp[r_f,zad,zak,List.length_map];done)|simp[r_f,zad,zak,List.length_map, *]))) ?_
 refine szq hp (fun _ hZ=>jg6 hZ) ?_
 refine zaj hp zam hc rfl fun K2 hK2=>?_
 refine zfp ?_
 refine zbd (hgr) rfl ?_
 refine zfp ?_
 refine hK2 _ _ ?_
 refine zwu zam hc mixed rfl (q:=4) (by kernel_rfl) [(0,0),(1,0),(4,2),(5,3),(6,4),(2,1),(3,1),(7,4)] (by kernel_rfl) fun K3 hK3=>?_
 refine zfp ?_
 refine hK3 _ _ ?_
 refine szq hp (fun _ hZ=>zfp hZ) ?_
 refine szq hp (fun _ hZ=>zfp hZ) ?_
 refine szq hp (fun _ hZ=>zfp hZ) ?_
 refine szq hp (fun _ hZ=>zfp hZ) ?_
 refine szq hp (fun _ hZ=>zfp hZ) ?_
 refine szq hp (fun _ hZ=>zfp hZ) ?_
 refine zab fun K10 hK10=>?_
 refine szq hp (fun _ hZ=>jg6 hZ) ?_
 refine zae ?_
 refine zao hp (fun τ' H' mm=>∃(k:Nat) (s:Ts),(k≤n∧s=zto nx n k∧TI n s)∧mm=n - k∧H'=[.cells [.d (iD ((s.c:Nat):Int))],.cells [.os 1 7 0 n],.cells [.os 1 8 0 n],.cells [.os 1 9 0 n],.cells [.os 1 10 0 s.stk.length],.cells [.clo (.func 46) [] [.op 0 0,.op 1 0,.op 2 0,.op 3 0,.op 4 0,.d (.fp [zan nx,zan pv] 0),.op 5 0,.op 6 0]],.cells [.os 1 11 0 s.out.length],.cells (avs (nsD s.num)),.cells (avs (nsD s.low)),.cells (avs (s.opn.map oD)),.cells (avs (nsD s.stk)),.cells (avs (fs2 (s.out.map nsD)))]∧τ'=frL [(4,.d (.val (.slice none 0 0))),(6,.op 1 0),(10,.op 6 0),(12,.op 5 0),(24,.d (iD (n:Int))),(25,.d (iD (k:Int)))]) (n) ?_ ⟨0,tsI n,⟨Nat.zero_le _,rfl,jl5 n⟩,rfl,rfl,rfl⟩ ?_
 ·refine Rt.trans (Rt.nilc 7 0 1 rfl rfl) ?_
  refine Rt.trans (Rt.nilc 8 0 1 rfl rfl) ?_
  refine Rt.trans (Rt.fz (id:=0) (l:=[zan nx,zan pv]) rfl) ?_
  refine Rt.trans (Rt.gc (keep:=[9,3,4,6,7,10,8,1,2,5,11,12]) (by decide) (by decide) (by simp[fzH,gcH])) ?_
  refine jl7 ?_
  refine jrx ?_;simp only[tsI,zh8,jl6];rfl
 rintro τ' H' mm ⟨k,s,⟨hk,hs,hT⟩,rfl,rfl,rfl⟩
 refine szq hp (fun _ hZ=>zfp hZ) ?_
 refine zab fun K13 hK13=>?_
 refine zai rfl (fun ht=>?_) (fun ht=>?_)
 ·have hkn:k<n:=by simp at ht;omega
  have hsn:=hT.nl
  have hg1:(nsD s.num)[k]? =some (iD ((nth s.num k:Nat):Int)):=zbf (by omega)
  refine zah (hK13 _ _ ?_)
  refine zab fun K14 hK14=>?_
  refine zae ?_
  refine szq hp (fun _ hZ=>jg6 hZ) ?_
  refine zaj hp zam hc rfl fun K16 hK16=>?_
  simp -dsimp -implicitDefEqProofs (disch:=first|assumption|omega|(simp only[r_z,zad,zak,List.length_map]<;>omega)|decide) only[r_r,↓reduceIte,Nat.reduceEqDiff,Nat.reduceAdd,D.fix,Int.reduceToNat,Nat.reduceMul,Nat.reduceBNe,Nat.reduceBEq,gD,zan,zhz,zkx,zhs,zky,zkz,zd0,zcu,zcv,zb3,zb4,hg1,jl3]
  refine hK16 _ _ ?_
  refine zai rfl (fun ht=>?_) (fun ht=>?_)
  ·have h1:nth s.num k=0:=by rw[beq_iff_eq]at ht;omega
   have hvp:jdz n n k s:=⟨hT,hkn,h1,jd9 n s⟩
   have k1:=(zxc hni n k s hvp).1
   have hnx:zto nx n (k+1)=zh7 nx n k s:=by rw[zx3,←hs,jl4,if_pos h1]
   refine zba hp (τ':=frL [(4,.d (.val (.slice none 0 0))),(6,.op 1 0),(10,.op 6 0),(12,.op 5 0),(24,.d (iD (n:Int))),(25,.d (iD (k:Int))),(13,.d (iD (k:Int)))]) (H':=[.cells [.d (iD ((s.c:Nat):Int))],.cells [.os 1 7 0 n],.cells [.os 1 8 0 n],.cells [.os 1 9 0 n],.cells [.os 1 10 0 s.stk.length],.cells [.clo (.func 46) [] [.op 0 0,.op 1 0,.op 2 0,.op 3 0,.op 4 0,.d (.fp [zan nx,zan pv] 0),.op 5 0,.op 6 0]],.cells [.os 1 11 0 s.out.length],.cells (avs (nsD s.num)),.cells (avs (nsD s.low)),.cells (avs (s.opn.map oD)),.cells (avs (nsD s.stk)),.cells (avs (fs2 (s.out.map nsD)))]) ?_ ?_
   ·refine jl7 ?_
    exact jps
   refine za6 hp zam hc rfl fun K17 hK17=>?_
   refine zfp ?_
   refine jc4 (S:=[.cells [.d (iD ((s.c:Nat):Int))],.cells [.os 1 7 0 n],.cells [.os 1 8 0 n],.cells [.os 1 9 0 n],.cells [.os 1 10 0 s.stk.length],.cells [.clo (.func 46) [] [.op 0 0,.op 1 0,.op 2 0,.op 3 0,.op 4 0,.d (.fp [zan nx,zan pv] 0),.op 5 0,.op 6 0]],.cells [.os 1 11 0 s.out.length],.cells (avs (nsD s.num)),.cells (avs (nsD s.low)),.cells (avs (s.opn.map oD)),.cells (avs (nsD s.stk)),.cells (avs (fs2 (s.out.map nsD)))]) (T:=[]) (zx2 (pv:=pv) (by omega) hnl hni hnr n k s hvp) rfl (by first|rfl|(simp[AV.allIs,AV.allI,za9,za0,za1,okI,ltI,zar,zbq,zjx];done)|(intro o ho;simp at ho;done)) (fun t=>zdm (by first|rfl|(simp[AV.allIs,AV.allI,za9,za0,za1,okI,ltI,zar,zbq,zjx];done)|(intro o ho;simp at ho;done)) t) (by first|rfl|(simp[AV.allIs,AV.allI,za9,za0,za1,okI,ltI,zar,zbq,zjx];done)|(intro o ho;simp at ho;done)) (by first|rfl|(simp[AV.allIs,AV.allI,za9,za0,za1,okI,ltI,zar,zbq,zjx];done)|(intro o ho;simp at ho;done)) (by first|rfl|(simp[AV.allIs,AV.allI,za9,za0,za1,okI,ltI,zar,zbq,zjx];done)|(intro o ho;simp at ho;done)) ?_
   rintro _ _ ⟨t',ht',rfl,rfl⟩
   refine⟨rfl,?_⟩
   rw[←ht']at k1 hnx;clear ht'
   unfold zjx
   refine zfp ?_
   refine hK17 _ _ (hK14 _ _ ?_)
   refine za6 hp zam hc rfl fun K18 hK18=>?_
   refine zfp ?_
   refine hK18 _ _ ⟨_,_,_,?_,⟨k+1,t',⟨by omega,hnx.symm,k1⟩,rfl,rfl,rfl⟩,?_⟩
   ·first|omega|(simp only[List.length_cons];omega)|(dsimp only;omega)
   ·refine jl7 ?_
    refine jrx ?_;rfl
  ·have h1:nth s.num k≠0:=fun e=>by rw[e]at ht;cases ht
   have hnx:zto nx n (k+1)=s:=by rw[zx3,←hs,jl4,if_neg h1]
   refine zah (hK14 _ _ ?_)
   refine za6 hp zam hc rfl fun K19 hK19=>?_
   refine zfp ?_
   refine hK19 _ _ ⟨_,_,_,?_,⟨k+1,s,⟨by omega,hnx.symm,hT⟩,rfl,rfl,rfl⟩,?_⟩
   ·first|omega|(simp only[List.length_cons];omega)|(dsimp only;omega)
   ·refine jl7 ?_
    exact jps
 ·have hke:k=n:=by simp at ht;omega
  rw[hke]at hs
  have hon:=hT.on
  have hne:∀r∈s.out,0<r.length∧nth r 0≤1000:=fun r hr=>by
   have hl:0<r.length:=List.length_pos_iff.2 (hT.ne r hr)
   have:=hT.lt (nth r 0) (List.mem_append_right _ (List.mem_flatten.2 ⟨r,hr,za3 hl⟩))
   exact⟨hl,by omega⟩
  refine zat (hK10 _ _ ?_)
  refine zba hp (τ':=frL [(4,.d (.val (.slice none 0 0))),(10,.op 1 0)]) (H':=[.cells (avs (fs2 (s.out.map nsD))),.cells [.os 1 0 0 s.out.length]]) ?_ ?_
  ·refine Rt.trans (Rt.gc (keep:=[11,6]) (by decide) (by decide) (by simp[fzH,gcH])) ?_
   refine jl7 ?_
   exact jps
  refine zaj hp zam hc rfl fun K20 hK20=>?_
  refine zfp ?_
  refine je6 (S:=[.cells (avs (fs2 (s.out.map nsD)))]) (T:=[.cells [.os 1 0 0 s.out.length]]) (jg5 s.out.length s.out rfl (by omega) hne) rfl (by first|rfl|(simp[AV.allIs,AV.allI,za9,za0,za1,okI,ltI,zar,zbq,zjx];done)|(intro o ho;simp at ho;done)) (fun t=>zdm (by first|rfl|(simp[AV.allIs,AV.allI,za9,za0,za1,okI,ltI,zar,zbq,zjx];done)|(intro o ho;simp at ho;done)) t) (by first|rfl|(simp[AV.allIs,AV.allI,za9,za0,za1,okI,ltI,zar,zbq,zjx];done)|(intro o ho;simp at ho;done)) (by first|rfl|(simp[AV.allIs,AV.allI,za9,za0,za1,okI,ltI,zar,zbq,zjx];done)|(intro o ho;simp at ho;done)) (by first|rfl|(simp[AV.allIs,AV.allI,za9,za0,za1,okI,ltI,zar,zbq,zjx];done)|(intro o ho;simp at ho;done)) ?_
  rintro _ _ ⟨L,h1,h2,rfl,rfl⟩
  refine⟨rfl,?_⟩
  have hll:=h1.length_eq
  refine zfp ?_
  refine hK20 _ _ ?_
  refine szq hp (fun _ hZ=>zfp hZ) ?_
  refine zaq ?_
  show closeA _ _=_
  simp (disch:=first|assumption|omega|(simp only[r_z,zad,zak,List.length_map]<;>omega)|decide) only[r_c,Nat.reduceAdd,D.fix,↓reduceIte,Nat.reduceEqDiff,gD,zan,zhz,zkx,zhs,zky,zkz,zd0,zcu,zcv,zb3,zb4]
  have hu:=jbj h1 h2 hT.ne (List.nodup_append.1 hT.nd).2.1
  rw[hR,←hs,←hu,h1.length_eq];simp only[zpd]
end Go.Proofs.Ytfolbdkbpmgjgaa
