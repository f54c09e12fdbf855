/- Components: walked. -/
import Derived.Test.YtfolbdkbpmgjgaaQr
import Derived.Test.YtfolbdkbpmgjgaaJe
set_option linter.unusedVariables false
set_option linter.unusedSimpArgs false
set_option maxRecDepth 100000
set_option maxHeartbeats 4000000
namespace Go.Proofs.Ytfolbdkbpmgjgaa
open Go Go.RowKit
theorem jjb:(((((type_of% @zg1)∧(type_of% @zg2))∧((type_of% @zit)∧(type_of% @zji)))∧(((type_of% @zc5)∧(type_of% @zc6))∧((type_of% @zdg)∧((type_of% @zdv)∧(type_of% @zmp)))))∧((((type_of% @zx4)∧(type_of% @jhn))∧((type_of% @jho)∧((type_of% @zeo)∧(type_of% @zfj))))∧(((type_of% @jhk)∧(type_of% @jfq))∧((type_of% @zx8)∧((type_of% @zx9)∧(type_of% @jhr)))))):=⟨⟨⟨⟨@zg1,@zg2⟩,⟨@zit,@zji⟩⟩,⟨⟨@zc5,@zc6⟩,⟨@zdg,⟨@zdv,@zmp⟩⟩⟩⟩,⟨⟨⟨@zx4,@jhn⟩,⟨@jho,⟨@zeo,@zfj⟩⟩⟩,⟨⟨@jhk,@jfq⟩,⟨@zx8,⟨@zx9,@jhr⟩⟩⟩⟩⟩
def tsI(n:Nat):Ts:=⟨0,List.replicate n 0,List.replicate n 0,List.replicate n false,[],[]⟩
def jjc(nx:List (List Nat))(n:Nat)(s:Ts)(v:Nat):Ts:=if nth s.num v=0 then zhk nx n v s else s
def zr4(nx:List (List Nat))(n k:Nat):Ts:=(List.range k).foldl (jjc nx n) (tsI n)
theorem zwb(nx:List (List Nat))(n k:Nat):zr4 nx n (k+1)=jjc nx n (zr4 nx n k) k:=by rw[zr4,List.range_succ,List.foldl_append];rfl
theorem zwc{α:Type}[Inhabited α]{n k:Nat}{x:α}(h:k<n):nth (List.replicate n x) k=x:=by rw[za0 (by simpa using h)];simp
theorem jjd(n:Nat):TI n (tsI n):=by
 refine⟨by simp[tsI],by simp[tsI],by simp[tsI],fun w hw=>by simp[tsI]at hw,by simp[tsI],fun w hw=>?_,fun w hw=>?_,fun r hr=>by simp[tsI]at hr,by simp[tsI]⟩
 ·show nth (List.replicate n 0) w≠0↔_
  rw[zwc hw];simp[tsI]
 ·show nth (List.replicate n false) w=true↔_
  rw[zwc hw];simp[tsI]
theorem jbo(n:Nat)(s:Ts):unn n s≤n:=Nat.le_trans (List.length_filter_le _ _) (by simp)
def hdR(a b:List Nat):Bool:=decide (nth a 0≤nth b 0)
def zze(L:List (List Nat)):List (List Nat):=L.mergeSort hdR
theorem znc:∀{L:List (List Nat)},L.flatten.Nodup→∀{a b:List Nat},a∈L→b∈L→∀{x:Nat},x∈a→x∈b→a=b
 |[],_,a,b,ha,_,_,_,_=>by cases ha
 |r::L,h,a,b,ha,hb,x,xa,xb=>by
  rw[List.flatten_cons,List.nodup_append]at h
  obtain⟨_,h2,h3⟩:=h
  rcases List.mem_cons.1 ha with e1|ha<;>rcases List.mem_cons.1 hb with e2|hb
  ·rw[e1,e2]
  ·exact absurd rfl (h3 x (e1▸xa) x (List.mem_flatten.2 ⟨b,hb,xb⟩))
  ·exact absurd rfl (h3 x (e2▸xb) x (List.mem_flatten.2 ⟨a,ha,xa⟩))
  ·exact znc h2 ha hb xa xb
theorem zwd(L:List (List Nat)):(zze L).Pairwise fun a b=>hdR a b=true:=
 List.pairwise_mergeSort (fun a b c h1 h2=>by simp only[hdR,decide_eq_true_eq]at *;omega) (fun a b=>by simp only[hdR,Bool.or_eq_true,decide_eq_true_eq];omega) L
theorem zja(L:List (List Nat)):(zze L).Perm L:=List.mergeSort_perm _ _
theorem zzf{L out:List (List Nat)}(hp:L.Perm out)(hs:SoB L L.length)(hne:∀r∈out,r≠[])(hnd:out.flatten.Nodup):L=zze out:=by
 refine List.Perm.eq_of_pairwise (le:=fun a b=>hdR a b=true) (fun a b ha hb h1 h2=>?_) ?_ (zwd out) (hp.trans (zja out).symm)
 ·simp only[hdR,decide_eq_true_eq]at h1 h2
  have ha':=hp.mem_iff.1 ha
  have hb':=(zja out).mem_iff.1 hb
  have la:0<a.length:=List.length_pos_iff.2 (hne a ha')
  have lb:0<b.length:=List.length_pos_iff.2 (hne b hb')
  exact znc hnd ha' hb' (za9 la) (by rw[show nth a 0=nth b 0 by omega];exact za9 lb)
 ·rw[List.pairwise_iff_getElem]
  intro i j hi hj hij
  have:=hs i j hij hj
  rw[za0 hi,za0 hj]at this
  exact decide_eq_true this
def jje(n:Nat)(es:List Ed):List (List Nat):=zze (zr4 (za5 n es) n n).out
theorem zhc{f:Fn}{fi ca:List AV}:zbw (.clo f fi ca)=some [.clo f fi ca]:=rfl
theorem jjf(n:Nat):(List.replicate n false).map oD=List.replicate n (oD false):=List.map_replicate
theorem jem{p q:Prop}(hq:q)(h:p=q:=by
 conv=>lhs;simp -dsimp -implicitDefEqProofs (disch:=first|assumption|omega|(simp only[r_z,zaf,zad,List.length_map]<;>omega)|decide) only[r_r,↓reduceIte,Nat.reduceEqDiff,Nat.reduceAdd,D.fix,Int.reduceToNat,Nat.reduceMul,Nat.reduceBNe,Nat.reduceBEq,gD,zai,zhc,zj3,zg7,zj4,zj5,zdp,zch,zci,zbx,zby]):p:=h.mpr hq
theorem zfb{p q:Prop}(hq:q)(h:p=q:=by
 conv=>lhs;simp -dsimp -implicitDefEqProofs (disch:=first|assumption|omega|(simp only[r_z,zaf,zad,List.length_map]<;>omega)|decide) only[r_r,↓reduceIte,Nat.reduceEqDiff,Nat.reduceAdd,D.fix,Int.reduceToNat,Nat.reduceMul,Nat.reduceBNe,Nat.reduceBEq,gD,zai,zhc,zj3,zg7,zj4,zj5,zdp,zch,zci,zbx,zby,jjb]):p:=h.mpr hq
theorem jjg{m:List Nat}{τ τ':Fr}{H H':zaa}(h2:H=H')(h:zgq τ τ':=by
 repeat (first|exact zaj _|refine zac ?_ (by first|rfl|(simp[r_f,zaf,zad,List.length_map];done)|simp[r_f,zaf,zad,List.length_map, *]))):Rt m τ H τ' H':=Rt.end h h2
theorem jn4{p q:Prop}(hq:q)(h:p=q:=by
 conv=>lhs;simp only[r_g,Nat.reduceAdd,↓reduceIte,Nat.reduceEqDiff,gD,zai,zhc,zj3,zg7,zj4,zj5,zdp,zch,zci,zbx,zby]):p:=h.mpr hq
theorem jl3{p:Prop}(h:p:=by
 first|rfl|(simp only[r_g,Nat.reduceAdd,↓reduceIte,Nat.reduceEqDiff,gD,zai,zhc,zj3,zg7,zj4,zj5,zdp,zch,zci,zbx,zby];first|done|rfl)):p:=h
theorem zwe(n:Nat)(es:List Ed)(h:Gr n es)(hn12:n≤12):zar Try.prog 27 [iD (n:Int),zan es] (.d (zai (jje n es))):=by
 have hb:=h.b
 have hel:=h.l
 have hgr:=zi4 h
 have hR:jje n es=zze (zr4 (za5 n es) n n).out:=rfl
 have hnl:(za5 n es).length=n:=zbp n es
 have hpl:(zbe n es).length=n:=zb8 n es
 have hnr:∀u,u<n→(nth (za5 n es) u).length≤100000:=fun u hu=>(h.next (st:=u) hu).r u
 have hni:∀u,u<n→∀w∈nth (za5 n es) u,w<n:=h.two.ni
 generalize za5 n es=nx at hgr hR hnl hnr hni
 generalize zbe n es=pv at hgr hpl
 refine zay (fn:=Try.f27) (by kernel_rfl) Try.func27 rfl (Nat.le_of_ble_eq_true rfl) fun c hc hp=>?_
 refine zav (τ':=frL [(0,.d (iD (n:Int))),(1,.d (zan es))]) (by repeat (first|exact zaj _|refine zac ?_ (by first|rfl|(simp[r_f,zaf,zad,List.length_map];done)|simp[r_f,zaf,zad,List.length_map, *]))) ?_
 refine szq hp (fun _ hZ=>jem hZ) ?_
 refine zag hp zam hc rfl fun K2 hK2=>?_
 refine zfb ?_
 refine zbj (hgr) rfl ?_
 refine zfb ?_
 refine hK2 _ _ ?_
 refine zu0 zam hc mixed rfl (q:=4) (by kernel_rfl) [(0,0),(1,0),(4,2),(5,3),(6,4),(2,1),(3,1),(7,4)] (by kernel_rfl) fun K3 hK3=>?_
 refine zfb ?_
 refine hK3 _ _ ?_
 refine szq hp (fun _ hZ=>zfb hZ) ?_
 refine szq hp (fun _ hZ=>zfb hZ) ?_
 refine szq hp (fun _ hZ=>zfb hZ) ?_
 refine szq hp (fun _ hZ=>zfb hZ) ?_
 refine szq hp (fun _ hZ=>zfb hZ) ?_
 refine szq hp (fun _ hZ=>zfb hZ) ?_
 refine zab fun K10 hK10=>?_
 refine szq hp (fun _ hZ=>jem hZ) ?_
 refine zae ?_
 refine zaq hp (fun τ' H' mm=>∃(k:Nat) (s:Ts),(k≤n∧s=zr4 nx n k∧TI n s)∧mm=n - k∧H'=[.cells [.d (iD ((s.c:Nat):Int))],.cells [.os 1 7 0 n],.cells [.os 1 8 0 n],.cells [.os 1 9 0 n],.cells [.os 1 10 0 s.stk.length],.cells [.clo (.func 46) [] [.op 0 0,.op 1 0,.op 2 0,.op 3 0,.op 4 0,.d (.fp [zai nx,zai pv] 0),.op 5 0,.op 6 0]],.cells [.os 1 11 0 s.out.length],.cells (avs (nsD s.num)),.cells (avs (nsD s.low)),.cells (avs (s.opn.map oD)),.cells (avs (nsD s.stk)),.cells (avs (fs2 (s.out.map nsD)))]∧τ'=frL [(4,.d (.val (.slice none 0 0))),(6,.op 1 0),(10,.op 6 0),(12,.op 5 0),(24,.d (iD (n:Int))),(25,.d (iD (k:Int)))]) (n) ?_ ⟨0,tsI n,⟨Nat.zero_le _,rfl,jjd n⟩,rfl,rfl,rfl⟩ ?_
 ·refine Rt.trans (Rt.nilc 7 0 1 rfl rfl) ?_
  refine Rt.trans (Rt.nilc 8 0 1 rfl rfl) ?_
  refine Rt.trans (Rt.fz (id:=0) (l:=[zai nx,zai pv]) rfl) ?_
  refine Rt.trans (Rt.gc (keep:=[9,3,4,6,7,10,8,1,2,5,11,12]) (by decide) (by decide) (by simp[fzH,gcH])) ?_
  refine jjg ?_
  refine jn4 ?_;simp only[tsI,zi6,jjf];rfl
 rintro τ' H' mm ⟨k,s,⟨hk,hs,hT⟩,rfl,rfl,rfl⟩
 refine szq hp (fun _ hZ=>zfb hZ) ?_
 refine zab fun K13 hK13=>?_
 refine zal rfl (fun ht=>?_) (fun ht=>?_)
 ·have hkn:k<n:=by simp at ht;omega
  have hsn:=hT.nl
  have hg1:(nsD s.num)[k]? =some (iD ((nth s.num k:Nat):Int)):=za7 (by omega)
  refine zah (hK13 _ _ ?_)
  refine zab fun K14 hK14=>?_
  refine zae ?_
  refine szq hp (fun _ hZ=>jem hZ) ?_
  refine zag hp zam hc rfl fun K16 hK16=>?_
  simp -dsimp -implicitDefEqProofs (disch:=first|assumption|omega|(simp only[r_z,zaf,zad,List.length_map]<;>omega)|decide) only[r_r,↓reduceIte,Nat.reduceEqDiff,Nat.reduceAdd,D.fix,Int.reduceToNat,Nat.reduceMul,Nat.reduceBNe,Nat.reduceBEq,gD,zai,zhc,zj3,zg7,zj4,zj5,zdp,zch,zci,zbx,zby,hg1,jjb]
  refine hK16 _ _ ?_
  refine zal rfl (fun ht=>?_) (fun ht=>?_)
  ·have h1:nth s.num k=0:=by rw[beq_iff_eq]at ht;omega
   have hvp:jbd n n k s:=⟨hT,hkn,h1,jbo n s⟩
   have k1:=(zvk hni n k s hvp).1
   have hnx:zr4 nx n (k+1)=zhk nx n k s:=by rw[zwb,←hs,jjc,if_pos h1]
   refine zbg hp (τ':=frL [(4,.d (.val (.slice none 0 0))),(6,.op 1 0),(10,.op 6 0),(12,.op 5 0),(24,.d (iD (n:Int))),(25,.d (iD (k:Int))),(13,.d (iD (k:Int)))]) (H':=[.cells [.d (iD ((s.c:Nat):Int))],.cells [.os 1 7 0 n],.cells [.os 1 8 0 n],.cells [.os 1 9 0 n],.cells [.os 1 10 0 s.stk.length],.cells [.clo (.func 46) [] [.op 0 0,.op 1 0,.op 2 0,.op 3 0,.op 4 0,.d (.fp [zai nx,zai pv] 0),.op 5 0,.op 6 0]],.cells [.os 1 11 0 s.out.length],.cells (avs (nsD s.num)),.cells (avs (nsD s.low)),.cells (avs (s.opn.map oD)),.cells (avs (nsD s.stk)),.cells (avs (fs2 (s.out.map nsD)))]) ?_ ?_
   ·refine jjg ?_
    exact jl3
   refine zbc hp zam hc rfl fun K17 hK17=>?_
   refine zfb ?_
   refine jaj (S:=[.cells [.d (iD ((s.c:Nat):Int))],.cells [.os 1 7 0 n],.cells [.os 1 8 0 n],.cells [.os 1 9 0 n],.cells [.os 1 10 0 s.stk.length],.cells [.clo (.func 46) [] [.op 0 0,.op 1 0,.op 2 0,.op 3 0,.op 4 0,.d (.fp [zai nx,zai pv] 0),.op 5 0,.op 6 0]],.cells [.os 1 11 0 s.out.length],.cells (avs (nsD s.num)),.cells (avs (nsD s.low)),.cells (avs (s.opn.map oD)),.cells (avs (nsD s.stk)),.cells (avs (fs2 (s.out.map nsD)))]) (T:=[]) (zwa (pv:=pv) (by omega) hnl hni hnr n k s hvp) rfl (by first|rfl|(simp[AV.allIs,AV.allI,za3,zat,zau,okI,ltI,zao,zbk,zi9];done)|(intro o ho;simp at ho;done)) (fun t=>zc9 (by first|rfl|(simp[AV.allIs,AV.allI,za3,zat,zau,okI,ltI,zao,zbk,zi9];done)|(intro o ho;simp at ho;done)) t) (by first|rfl|(simp[AV.allIs,AV.allI,za3,zat,zau,okI,ltI,zao,zbk,zi9];done)|(intro o ho;simp at ho;done)) (by first|rfl|(simp[AV.allIs,AV.allI,za3,zat,zau,okI,ltI,zao,zbk,zi9];done)|(intro o ho;simp at ho;done)) (by first|rfl|(simp[AV.allIs,AV.allI,za3,zat,zau,okI,ltI,zao,zbk,zi9];done)|(intro o ho;simp at ho;done)) ?_
   rintro _ _ ⟨t',ht',rfl,rfl⟩
   refine⟨rfl,?_⟩
   rw[←ht']at k1 hnx;clear ht'
   unfold zi9
   refine zfb ?_
   refine hK17 _ _ (hK14 _ _ ?_)
   refine zbc hp zam hc rfl fun K18 hK18=>?_
   refine zfb ?_
   refine hK18 _ _ ⟨_,_,_,?_,⟨k+1,t',⟨by omega,hnx.symm,k1⟩,rfl,rfl,rfl⟩,?_⟩
   ·first|omega|(simp only[List.length_cons];omega)|(dsimp only;omega)
   ·refine jjg ?_
    refine jn4 ?_;rfl
  ·have h1:nth s.num k≠0:=fun e=>by rw[e]at ht;cases ht
   have hnx:zr4 nx n (k+1)=s:=by rw[zwb,←hs,jjc,if_neg h1]
   refine zah (hK14 _ _ ?_)
   refine zbc hp zam hc rfl fun K19 hK19=>?_
   refine zfb ?_
   refine hK19 _ _ ⟨_,_,_,?_,⟨k+1,s,⟨by omega,hnx.symm,hT⟩,rfl,rfl,rfl⟩,?_⟩
   ·first|omega|(simp only[List.length_cons];omega)|(dsimp only;omega)
   ·refine jjg ?_
    exact jl3
 ·have hke:k=n:=by simp at ht;omega
  rw[hke]at hs
  have hon:=hT.on
  have hne:∀r∈s.out,0<r.length∧nth r 0≤1000:=fun r hr=>by
   have hl:0<r.length:=List.length_pos_iff.2 (hT.ne r hr)
   have:=hT.lt (nth r 0) (List.mem_append_right _ (List.mem_flatten.2 ⟨r,hr,za9 hl⟩))
   exact⟨hl,by omega⟩
  refine zaz (hK10 _ _ ?_)
  refine zbg hp (τ':=frL [(4,.d (.val (.slice none 0 0))),(10,.op 1 0)]) (H':=[.cells (avs (fs2 (s.out.map nsD))),.cells [.os 1 0 0 s.out.length]]) ?_ ?_
  ·refine Rt.trans (Rt.gc (keep:=[11,6]) (by decide) (by decide) (by simp[fzH,gcH])) ?_
   refine jjg ?_
   exact jl3
  refine zag hp zam hc rfl fun K20 hK20=>?_
  refine zfb ?_
  refine jcj (S:=[.cells (avs (fs2 (s.out.map nsD)))]) (T:=[.cells [.os 1 0 0 s.out.length]]) (jel s.out.length s.out rfl (by omega) hne) rfl (by first|rfl|(simp[AV.allIs,AV.allI,za3,zat,zau,okI,ltI,zao,zbk,zi9];done)|(intro o ho;simp at ho;done)) (fun t=>zc9 (by first|rfl|(simp[AV.allIs,AV.allI,za3,zat,zau,okI,ltI,zao,zbk,zi9];done)|(intro o ho;simp at ho;done)) t) (by first|rfl|(simp[AV.allIs,AV.allI,za3,zat,zau,okI,ltI,zao,zbk,zi9];done)|(intro o ho;simp at ho;done)) (by first|rfl|(simp[AV.allIs,AV.allI,za3,zat,zau,okI,ltI,zao,zbk,zi9];done)|(intro o ho;simp at ho;done)) (by first|rfl|(simp[AV.allIs,AV.allI,za3,zat,zau,okI,ltI,zao,zbk,zi9];done)|(intro o ho;simp at ho;done)) ?_
  rintro _ _ ⟨L,h1,h2,rfl,rfl⟩
  refine⟨rfl,?_⟩
  have hll:=h1.length_eq
  refine zfb ?_
  refine hK20 _ _ ?_
  refine szq hp (fun _ hZ=>zfb hZ) ?_
  refine zas ?_
  show closeA _ _=_
  simp (disch:=first|assumption|omega|(simp only[r_z,zaf,zad,List.length_map]<;>omega)|decide) only[r_c,Nat.reduceAdd,D.fix,↓reduceIte,Nat.reduceEqDiff,gD,zai,zhc,zj3,zg7,zj4,zj5,zdp,zch,zci,zbx,zby]
  have hu:=zzf h1 h2 hT.ne (List.nodup_append.1 hT.nd).2.1
  rw[hR,←hs,←hu,h1.length_eq];simp only[zu8]
end Go.Proofs.Ytfolbdkbpmgjgaa
