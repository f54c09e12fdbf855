/- Components$1, the visit of a node: one visit, where the inner ones do what they should. Printed by gen/mkjc.py. -/
import Derived.Test.YtfolbdkbpmgjgaaQr
import Derived.Test.YtfolbdkbpmgjgaaJb
import Derived.Test.YtfolbdkbpmgjgaaKm
set_option linter.unusedVariables false
set_option linter.unusedSimpArgs false
set_option maxRecDepth 100000
set_option maxHeartbeats 4000000
namespace Go.Proofs.Ytfolbdkbpmgjgaa
open Go Go.RowKit
theorem zwx:(((((type_of% @zgp)∧(type_of% @zgq))∧((type_of% @zc7)∧(type_of% @zc8)))∧(((type_of% @zdj)∧(type_of% @zyv))∧((type_of% @jh9)∧((type_of% @jia)∧(type_of% @jn0)))))∧((((type_of% @jn1)∧(type_of% @zdv))∧((type_of% @zdc)∧(type_of% @zer)))∧(((type_of% @zfj)∧(type_of% @zes))∧((type_of% @zyz)∧((type_of% @zy0)∧(type_of% @zr9)))))):=⟨⟨⟨⟨@zgp,@zgq⟩,⟨@zc7,@zc8⟩⟩,⟨⟨@zdj,@zyv⟩,⟨@jh9,⟨@jia,@jn0⟩⟩⟩⟩,⟨⟨⟨@jn1,@zdv⟩,⟨@zdc,@zer⟩⟩,⟨⟨@zfj,@zes⟩,⟨@zyz,⟨@zy0,@zr9⟩⟩⟩⟩⟩
def zjg(n:Nat)(nx pv:List (List Nat))(s:Ts):zaa:=[.cells [.d (iD ((s.c:Nat):Int))],.cells [.os 1 7 0 n],.cells [.os 1 8 0 n],.cells [.os 1 9 0 n],.cells [.os 1 10 0 s.stk.length],.cells [.clo (.func 46) [] [.op 0 0,.op 1 0,.op 2 0,.op 3 0,.op 4 0,.d (.fp [zai nx,zai pv] 0),.op 5 0,.op 6 0]],.cells [.os 1 11 0 s.out.length],.cells (avs (nsD s.num)),.cells (avs (nsD s.low)),.cells (avs (s.opn.map oD)),.cells (avs (nsD s.stk)),.cells (avs (fs2 (s.out.map nsD)))]
def jmn(n:Nat)(nx pv:List (List Nat))(t:Ts)(x:AV)(S':zaa):Prop:=∃t',t'=t∧x= .tup []∧S'=zjg n nx pv t'
theorem jjt(l:List Bool)(k:Nat)(b:Bool):(l.map oD).set k (oD b)=(l.set k b).map oD:=List.map_set.symm
theorem zwy(l:List Bool)(k:Nat)(b:Bool):(l.map oD).set k (.val (.bool b))=(l.set k b).map oD:=jjt l k b
theorem jju{l:List Bool}{k:Nat}(h:k<l.length):(l.map oD)[k]? =some (oD (nth l k)):=zbt h
theorem jmo(a b:Nat):min (a:Int) (b:Int)=((min a b:Nat):Int):=by omega
theorem zz0(ls:List (List Nat))(l:List Nat):fs2 (ls.map nsD)++[.fs (nsD l) l.length]=fs2 ((ls++[l]).map nsD):=by
 unfold fs2;rw[List.map_append,List.map_append];simp[zae]
theorem je0{P:Program}{c:Cx}{H:zaa}{code:Code}{QQ:Exit→Fr→zaa→Prop}{a0 a1 a2 a3 a4 a5 a6 a7 a8:AV}(h:AWp P c code QQ (frL [(0,a0),(1,a1),(2,a2),(3,a3),(4,a4),(5,a5),(6,a6),(7,a7),(8,a8)]) H):AWp P c code QQ (zdf [a0,a1,a2,a3,a4,a5,a6,a7,a8]) H:=zau (zac (zac (zac (zac (zac (zac (zac (zac (zac (zah _) rfl) rfl) rfl) rfl) rfl) rfl) rfl) rfl) rfl) h
theorem je1(l:List Nat)(x:Nat)(r:List Nat):nth (l++x::r) l.length=x:=by unfold nth;simp[List.getD_eq_getElem?_getD]
theorem je2(l:List Nat)(k:Nat):(nsD l).take k=nsD (l.take k):=by unfold nsD zl;rw[List.map_take,List.map_take]
theorem jjv{H:zaa}{id m:Nat}{R:List Nat}(hid:H[id]? =some (.cells (avs (nsD R))))(hl:R.length≤1000000)(hm:R.length=m):IcS Try.prog 45 [.os 1 id 0 m] H fun x H'=>x= .tup []∧H'=H.set id (.cells (avs (nsD (zet R)))):=by
 have:=zq2 (H:=H) (id:=id) (m:=m) (l:=zl R) hid (by rw[za5];exact hl) (by rw[za5];exact hm)
 rw[←zra]at this
 exact this
theorem znf(l:List Nat):(zet l).length=l.length:=(zdl l).length_eq
theorem zls{p q r:Prop}(e:r)(hq:q)(h:r→p=q:=by
 intro hY
 conv=>lhs;simp -dsimp -implicitDefEqProofs (disch:=first|assumption|omega|(simp only[r_z,zae,zag,List.length_map]<;>omega)|decide) only[r_r,↓reduceIte,Nat.reduceEqDiff,Nat.reduceAdd,D.fix,Int.reduceToNat,Nat.reduceMul,Nat.reduceBNe,Nat.reduceBEq,zai,zwx,hY]):p:=(h e).mpr hq
theorem zfn{p q:Prop}(hq:q)(h:p=q:=by
 conv=>lhs;simp -dsimp -implicitDefEqProofs (disch:=first|assumption|omega|(simp only[r_z,zae,zag,List.length_map]<;>omega)|decide) only[r_r,↓reduceIte,Nat.reduceEqDiff,Nat.reduceAdd,D.fix,Int.reduceToNat,Nat.reduceMul,Nat.reduceBNe,Nat.reduceBEq,zai,zwx]):p:=h.mpr hq
theorem jle(k:List Nat){m:List Nat}{τ τ1:Fr}{H H1:zaa}(h:Rt m (fun t=>gcV k (τ t)) (gcH k H) τ1 H1)(a:∀i∈m,k[i]? =some i:=by decide)(b:k.Nodup:=by decide)(c:∀i∈k,i<H.length:=by
 simp[fzH,gcH]):Rt m τ H τ1 H1:=Rt.trans (Rt.gc a b c) h
theorem zwz{m:List Nat}{τ τ':Fr}{H H':zaa}(h2:H=H')(h:zgm τ τ':=by
 repeat (first|exact zah _|refine zac ?_ (by first|rfl|(simp[r_f,zae,zag,List.length_map];done)|simp[r_f,zae,zag,List.length_map, *]))):Rt m τ H τ' H':=Rt.end h h2
theorem jjw{p q r:Prop}(e:r)(hq:q)(h:r→p=q:=by
 intro hY
 conv=>lhs;simp -dsimp -implicitDefEqProofs (disch:=first|assumption|omega|(simp only[r_z,zae,zag,List.length_map]<;>omega)|decide) only[r_r,↓reduceIte,Nat.reduceEqDiff,Nat.reduceAdd,D.fix,Int.reduceToNat,Nat.reduceMul,Nat.reduceBNe,Nat.reduceBEq,zai,jmo,zga,zwx,hY]):p:=(h e).mpr hq
theorem jjx{p q:Prop}(hq:q)(h:p=q:=by
 conv=>lhs;simp only[r_g,Nat.reduceAdd,↓reduceIte,Nat.reduceEqDiff,zai]):p:=h.mpr hq
theorem jcc{p:Prop}(h:p:=by
 first|rfl|(simp only[r_g,Nat.reduceAdd,↓reduceIte,Nat.reduceEqDiff,zai];first|done|rfl)):p:=h
theorem zss(n f v:Nat)(nx pv:List (List Nat))(s:Ts)(hn:n≤1000)(hxl:nx.length=n)(hni:∀u,u<n→∀w∈nth nx u,w<n)(hnr:∀u,u<n→(nth nx u).length≤100000)(hP:jb5 n (f+1) v s)(ih:∀w s,jb5 n f w s→ScS Try.prog [0,1,2,3,4,5,6] 46 ([.d (iD (w:Int))]++[.op 0 0,.op 1 0,.op 2 0,.op 3 0,.op 4 0,.d (.fp [zai nx,zai pv] 0),.op 5 0,.op 6 0]) (zjg n nx pv s) (jmn n nx pv (zhr nx f w s))):ScS Try.prog [0,1,2,3,4,5,6] 46 [.d (iD (v:Int)),.op 0 0,.op 1 0,.op 2 0,.op 3 0,.op 4 0,.d (.fp [zai nx,zai pv] 0),.op 5 0,.op 6 0] (zjg n nx pv s) (jmn n nx pv (zhr nx (f+1) v s)):=by
 obtain⟨hTI,hvn,h0,hun⟩:=hP
 have hup:=zlm hTI.nl hvn h0
 have hTp:=zot hTI hvn h0
 have hsc:=hTI.cn
 have hss:=hTI.sn
 have hso:=hTI.on
 have hnl:=hTI.nl
 have hll:=hTI.ll
 have hol:=hTI.ol
 have hc1:((s.c:Nat):Int)+1=((s.c+1:Nat):Int):=by omega
 have hg2:=zcu (nx:=nx) (v:=v) (by omega)
 have hgl:=hnr v hvn
 obtain⟨p,hp1⟩:∃p,p=zcw v s:=⟨_,rfl⟩
 have hq1:p.c=s.c+1:=by rw[hp1];rfl
 have hq2:p.num=s.num.set v (s.c+1):=by rw[hp1];rfl
 have hq3:p.low=s.low.set v (s.c+1):=by rw[hp1];rfl
 have hq4:p.opn=s.opn.set v true:=by rw[hp1];rfl
 have hq5:p.stk=s.stk++[v]:=by rw[hp1];rfl
 have hq6:p.out=s.out:=by rw[hp1];rfl
 have hfin:zhr nx (f+1) v s=jd9 s.stk.length v ((nth nx v).foldl (zh6 (zhr nx f) v) p):=by rw[hp1];rfl
 have hnp:nth p.num v≠0:=by rw[hq2,za2 (by omega)];omega
 rw[←hp1]at hup hTp
 clear hp1
 refine zf1 (fn:=Try.f46) (by kernel_rfl) Try.func46 rfl (Nat.le_of_ble_eq_true rfl) fun c hc hp=>?_
 refine je0 ?_
 refine zfi hp ?_
 unfold zjg
 refine szq hp (fun _ hZ=>zls hc1 hZ) ?_
 refine zkf zao hp hc mixed rfl [(0,[]),(1,[]),(2,[]),(3,[]),(4,[]),(5,[]),(6,[]),(7,[]),(8,[]),(9,[2,4,7]),(10,[]),(11,[4]),(12,[]),(13,[])] [[],[],[],[],[],[],[],[],[0,1,6],[0,1,6,8],[0,1,2,3,6,7,8,9],[0,1,2,3,6,7,8,9,10],[0,1,2,3,4,5,6,7,8,9,10,11],[0,1,2,3,4,5,6,7,8,9,10,11,12]] 0 (by kernel_rfl) fun K2 hK2=>?_
 simp -dsimp -implicitDefEqProofs (disch:=first|assumption|omega|(simp only[r_z,zae,zag,List.length_map]<;>omega)|decide) only[r_r,↓reduceIte,Nat.reduceEqDiff,Nat.reduceAdd,D.fix,Int.reduceToNat,Nat.reduceMul,Nat.reduceBNe,Nat.reduceBEq,r_w,zai,zga,zwy,←hq2,←hq3,←hq4,zwx]
 refine hK2 _ _ ?_
 refine szq hp (fun _ hZ=>zfn hZ) ?_
 refine zab fun K4 hK4=>?_
 refine zbc hp (τ':=frL [(0,.d (iD (v:Int))),(1,.op 0 0),(2,.op 1 0),(3,.op 2 0),(4,.op 3 0),(5,.op 4 0),(6,.d (.fp [zai nx,zai pv] 0)),(7,.op 5 0),(8,.op 6 0)]) (H':=[.cells [.d (iD ((p.c:Nat):Int))],.cells [.os 1 7 0 n],.cells [.os 1 8 0 n],.cells [.os 1 9 0 n],.cells [.os 1 10 0 p.stk.length],.cells [.clo (.func 46) [] [.op 0 0,.op 1 0,.op 2 0,.op 3 0,.op 4 0,.d (.fp [zai nx,zai pv] 0),.op 5 0,.op 6 0]],.cells [.os 1 11 0 p.out.length],.cells (avs (nsD p.num)),.cells (avs (nsD p.low)),.cells (avs (p.opn.map oD)),.cells (avs (nsD p.stk)),.cells (avs (fs2 (p.out.map nsD)))]) ?_ ?_
 ·refine jle [0,1,2,3,4,5,6,7,8,9,13,11] ?_
  refine zwz ?_
  refine jjx ?_;rw[hq1,hq5,hq6,hq2,hq3,hq4,←zjd,List.length_append];rfl
 refine szq hp (fun _ hZ=>zls hg2 hZ) ?_
 refine zaf ?_
 refine zas hp (fun τ' H' mm=>∃(j:Nat) (t:Ts),(j≤(nth nx v).length∧t=((nth nx v).take j).foldl (zh6 (zhr nx f) v) p∧TI n t∧TE p t∧unn n t≤f)∧mm=(nth nx v).length - j∧H'=[.cells [.d (iD ((t.c:Nat):Int))],.cells [.os 1 7 0 n],.cells [.os 1 8 0 n],.cells [.os 1 9 0 n],.cells [.os 1 10 0 t.stk.length],.cells [.clo (.func 46) [] [.op 0 0,.op 1 0,.op 2 0,.op 3 0,.op 4 0,.d (.fp [zai nx,zai pv] 0),.op 5 0,.op 6 0]],.cells [.os 1 11 0 t.out.length],.cells (avs (nsD t.num)),.cells (avs (nsD t.low)),.cells (avs (t.opn.map oD)),.cells (avs (nsD t.stk)),.cells (avs (fs2 (t.out.map nsD)))]∧τ'=frL [(0,.d (iD (v:Int))),(1,.op 0 0),(2,.op 1 0),(3,.op 2 0),(4,.op 3 0),(5,.op 4 0),(6,.d (.fp [zai nx,zai pv] 0)),(7,.op 5 0),(8,.op 6 0),(37,.d (.fs (nsD (nth nx v)) (nth nx v).length)),(38,.d (iD (((nth nx v).length:Nat):Int))),(39,.d (iD (j:Int)))]) ((nth nx v).length) ?_ ⟨0,p,⟨Nat.zero_le _,rfl,hTp,TE.refl p,by omega⟩,rfl,rfl,rfl⟩ ?_
 ·refine zwz ?_
  exact jcc
 rintro τ' H' mm ⟨j,t,⟨hj,htj,hT,hE,hu⟩,rfl,rfl,rfl⟩
 refine szq hp (fun _ hZ=>zfn hZ) ?_
 refine zab fun K7 hK7=>?_
 refine zam rfl (fun ht=>?_) (fun ht=>?_)
 ·have hjl:j<(nth nx v).length:=by simp at ht;omega
  obtain⟨w,hw⟩:∃w,w=nth (nth nx v) j:=⟨_,rfl⟩
  have hwn:w<n:=by rw[hw];exact hni v hvn _ (zbe hjl)
  have hg3:(nsD (nth nx v))[j]? =some (iD (w:Int)):=by rw[zbi hjl,hw]
  have htn:=hT.nl
  have htl:=hT.ll
  have hto:=hT.ol
  have hg4:(nsD t.num)[w]? =some (iD ((nth t.num w:Nat):Int)):=zbi (by omega)
  have hg5:(nsD t.low)[v]? =some (iD ((nth t.low v:Nat):Int)):=zbi (by omega)
  have hg6:(t.opn.map oD)[w]? =some (oD (nth t.opn w)):=jju (by omega)
  have hnxt:((nth nx v).take (j+1)).foldl (zh6 (zhr nx f) v) p=zh6 (zhr nx f) v t w:=by
   rw[zea hjl,List.foldl_append,←htj,←hw];rfl
  clear hw
  refine zak (hK7 _ _ ?_)
  refine zab fun K8 hK8=>?_
  refine zaf ?_
  refine szq hp (fun _ hZ=>zls hg3 hZ) ?_
  refine szq hp (fun _ hZ=>zls hg4 hZ) ?_
  refine zam rfl (fun ht=>?_) (fun ht=>?_)
  ·have h1:nth t.num w=0:=by rw[beq_iff_eq]at ht;omega
   have hvp:jb5 n f w t:=⟨hT,hwn,h1,hu⟩
   obtain⟨k1,k2,k3⟩:=zv9 hni f w t hvp
   have hW:zh6 (zhr nx f) v t w=zs2 v (nth (zhr nx f w t).low w) (zhr nx f w t):=by rw[zh6,if_pos h1]
   refine zbc hp (τ':=frL [(0,.d (iD (v:Int))),(1,.op 0 0),(2,.op 1 0),(3,.op 2 0),(4,.op 3 0),(5,.op 4 0),(6,.d (.fp [zai nx,zai pv] 0)),(7,.op 5 0),(8,.op 6 0),(37,.d (.fs (nsD (nth nx v)) (nth nx v).length)),(38,.d (iD (((nth nx v).length:Nat):Int))),(39,.d (iD (j:Int))),(11,.d (iD (w:Int)))]) (H':=[.cells [.d (iD ((t.c:Nat):Int))],.cells [.os 1 7 0 n],.cells [.os 1 8 0 n],.cells [.os 1 9 0 n],.cells [.os 1 10 0 t.stk.length],.cells [.clo (.func 46) [] [.op 0 0,.op 1 0,.op 2 0,.op 3 0,.op 4 0,.d (.fp [zai nx,zai pv] 0),.op 5 0,.op 6 0]],.cells [.os 1 11 0 t.out.length],.cells (avs (nsD t.num)),.cells (avs (nsD t.low)),.cells (avs (t.opn.map oD)),.cells (avs (nsD t.stk)),.cells (avs (fs2 (t.out.map nsD)))]) ?_ ?_
   ·refine zwz ?_
    exact jcc
   refine zad hp zao hc rfl fun K11 hK11=>?_
   refine zfn ?_
   refine jbc (S:=[.cells [.d (iD ((t.c:Nat):Int))],.cells [.os 1 7 0 n],.cells [.os 1 8 0 n],.cells [.os 1 9 0 n],.cells [.os 1 10 0 t.stk.length],.cells [.clo (.func 46) [] [.op 0 0,.op 1 0,.op 2 0,.op 3 0,.op 4 0,.d (.fp [zai nx,zai pv] 0),.op 5 0,.op 6 0]],.cells [.os 1 11 0 t.out.length],.cells (avs (nsD t.num)),.cells (avs (nsD t.low)),.cells (avs (t.opn.map oD)),.cells (avs (nsD t.stk)),.cells (avs (fs2 (t.out.map nsD)))]) (T:=[]) (ih w t hvp) rfl (by first|rfl|(simp[AV.allIs,AV.allI,za4,zav,zaw,okI,ltI,zap,zbl,zjg];done)|(intro o ho;simp at ho;done)) (fun t=>zdb (by first|rfl|(simp[AV.allIs,AV.allI,za4,zav,zaw,okI,ltI,zap,zbl,zjg];done)|(intro o ho;simp at ho;done)) t) (by first|rfl|(simp[AV.allIs,AV.allI,za4,zav,zaw,okI,ltI,zap,zbl,zjg];done)|(intro o ho;simp at ho;done)) (by first|rfl|(simp[AV.allIs,AV.allI,za4,zav,zaw,okI,ltI,zap,zbl,zjg];done)|(intro o ho;simp at ho;done)) (by first|rfl|(simp[AV.allIs,AV.allI,za4,zav,zaw,okI,ltI,zap,zbl,zjg];done)|(intro o ho;simp at ho;done)) ?_
   rintro _ _ ⟨t',ht',rfl,rfl⟩
   refine⟨rfl,?_⟩
   rw[←ht']at k1 k2 k3 hW;clear ht'
   have hml:=k1.ll
   have hmn:=k1.nl
   have hg7:(nsD t'.low)[v]? =some (iD ((nth t'.low v:Nat):Int)):=zbi (by omega)
   have hg8:(nsD t'.low)[w]? =some (iD ((nth t'.low w:Nat):Int)):=zbi (by omega)
   unfold zjg
   refine zfn ?_
   refine hK11 _ _ ?_
   refine ziw zao hc mixed rfl (q:=0) (by kernel_rfl) (by kernel_rfl) fun K12 hK12=>?_
   refine jjw (sza hg7 hg8) ?_
   refine hK12 _ _ (hK8 _ _ ?_)
   refine zbj hp zao hc rfl fun K13 hK13=>?_
   refine zfn ?_
   refine hK13 _ _ ⟨_,_,_,?_,⟨j+1,zs2 v (nth t'.low w) t',⟨by omega,by rw[hnxt,hW],zm9 k1,hE.trans k2.low,Nat.le_trans (zsk k2.low) hu⟩,rfl,rfl,rfl⟩,?_⟩
   ·first|omega|(simp only[List.length_cons];omega)|(dsimp only;omega)
   ·refine zwz ?_
    refine jjx ?_;rfl
  ·have h1:nth t.num w≠0:=fun e=>by rw[e]at ht;cases ht
   refine szq hp (fun _ hZ=>zls hg6 hZ) ?_
   refine zam rfl (fun ht=>?_) (fun ht=>?_)
   ·have hW:zh6 (zhr nx f) v t w=zs2 v (nth t.num w) t:=by rw[zh6,if_neg h1,if_pos ht]
    refine ziw zao hc mixed rfl (q:=0) (by kernel_rfl) (by kernel_rfl) fun K15 hK15=>?_
    refine jjw (sza hg5 hg4) ?_
    refine hK15 _ _ (hK8 _ _ ?_)
    refine zbj hp zao hc rfl fun K16 hK16=>?_
    refine zfn ?_
    refine hK16 _ _ ⟨_,_,_,?_,⟨j+1,zs2 v (nth t.num w) t,⟨by omega,by rw[hnxt,hW],zm9 hT,hE.low,Nat.le_trans (zsk (TE.refl t).low) hu⟩,rfl,rfl,rfl⟩,?_⟩
    ·first|omega|(simp only[List.length_cons];omega)|(dsimp only;omega)
    ·refine zwz ?_
     refine jjx ?_;rfl
   ·have hW:zh6 (zhr nx f) v t w=t:=by rw[zh6,if_neg h1,if_neg (by rw[ht];decide)]
    refine zak (hK8 _ _ ?_)
    refine zbj hp zao hc rfl fun K17 hK17=>?_
    refine zfn ?_
    refine hK17 _ _ ⟨_,_,_,?_,⟨j+1,t,⟨by omega,by rw[hnxt,hW],hT,hE,hu⟩,rfl,rfl,rfl⟩,?_⟩
    ·first|omega|(simp only[List.length_cons];omega)|(dsimp only;omega)
    ·refine zwz ?_
     exact jcc
 ·have hje:j=(nth nx v).length:=by simp at ht;omega
  rw[hje,List.take_length]at htj
  rw[←htj]at hfin
  have htn:=hT.nl
  have htl:=hT.ll
  have hto:=hT.ol
  have htc:=hT.cn
  have hts:=hT.sn
  have htt:=hT.on
  have hg4:(nsD t.num)[v]? =some (iD ((nth t.num v:Nat):Int)):=zbi (by omega)
  have hg5:(nsD t.low)[v]? =some (iD ((nth t.low v:Nat):Int)):=zbi (by omega)
  refine za0 (hK4 _ _ ?_)
  refine zab fun K18 hK18=>?_
  refine zbk zao hc mixed rfl (q:=0) (by kernel_rfl) (by kernel_rfl) fun K19 hK19=>?_
  refine zls (sza hg4 hg5) ?_
  refine hK19 _ _ ?_
  refine zam rfl (fun ht=>?_) (fun ht=>?_)
  ·have hlt:nth t.low v<nth t.num v:=by simp at ht;omega
   refine zar ?_
   try dsimp only[zcy,za8]
   refine⟨frL [],[.cells [.d (iD ((t.c:Nat):Int))],.cells [.os 1 7 0 n],.cells [.os 1 8 0 n],.cells [.os 1 9 0 n],.cells [.os 1 10 0 t.stk.length],.cells [.clo (.func 46) [] [.op 0 0,.op 1 0,.op 2 0,.op 3 0,.op 4 0,.d (.fp [zai nx,zai pv] 0),.op 5 0,.op 6 0]],.cells [.os 1 11 0 t.out.length],.cells (avs (nsD t.num)),.cells (avs (nsD t.low)),.cells (avs (t.opn.map oD)),.cells (avs (nsD t.stk)),.cells (avs (fs2 (t.out.map nsD)))],?_,?_⟩
   ·refine jle [0,1,2,3,4,5,6,7,8,9,10,11] ?_
    refine Rt.end (zah _) ?_
    exact jcc
   first|refine zdt rfl ?_|refine zc0 rfl ?_
   show ∃_,_
   exact⟨t,by rw[hfin,jd9,if_pos hlt],rfl,rfl⟩
  ·have hlt:¬nth t.low v<nth t.num v:=by simp at ht;omega
   rw[jd9,if_neg hlt]at hfin
   obtain⟨r,hr⟩:=hE.stk
   rw[hq5]at hr
   obtain⟨a,ha⟩:∃a,a=s.stk.length:=⟨_,rfl⟩
   rw[←ha]at hfin
   have hal:a<t.stk.length:=by rw[←hr,ha];simp
   have hva:nth t.stk a=v:=by rw[←hr,ha,List.append_assoc];exact je1 _ _ _
   have hvf:∀j,j<a→nth t.stk j≠v:=fun j hj e=>by
    have hnd:t.stk.Nodup:=(List.nodup_append.1 hT.nd).1
    rw[za1 (by omega)]at e hva
    exact List.pairwise_iff_getElem.1 hnd j a (by omega) hal hj (e.trans hva.symm)
   obtain⟨cl,hcl⟩:∃cl,cl=t.stk.drop a:=⟨_,rfl⟩
   have hcll:cl.length=t.stk.length - a:=by rw[hcl,List.length_drop]
   have hclt:(t.stk.drop a).take (t.stk.length - a)=cl:=by rw[←hcll,hcl,List.take_length]
   have hlt3:∀w∈cl,w<n:=fun w hw=>hT.lt w (List.mem_append_left _ (List.mem_of_mem_drop (hcl▸hw)))
   obtain⟨m,hm⟩:∃m,m=t.stk.length - a:=⟨_,rfl⟩
   have hmz:(((t.stk.length:Nat):Int) - (a:Int)).toNat=m:=by omega
   rw[←hm]at hclt hcll
   refine zak (hK18 _ _ ?_)
   refine zad hp zao hc rfl fun K20 hK20=>?_
   refine zfn ?_
   refine zfs (jmh hal hva hvf (by omega)) ?_ ?_
   ·simp (disch:=first|assumption|omega|(simp only[r_z,zae,zag,List.length_map]<;>omega)|decide) only[r_c,Nat.reduceAdd,D.fix,↓reduceIte,Nat.reduceEqDiff,zai,zht]
   refine zfn ?_
   refine hK20 _ _ ?_
   refine zbc hp (τ':=frL [(0,.d (iD (v:Int))),(1,.op 0 0),(2,.op 1 0),(3,.op 2 0),(4,.op 3 0),(5,.op 4 0),(6,.d (.fp [zai nx,zai pv] 0)),(7,.op 5 0),(8,.op 6 0),(12,.d (iD (a:Int)))]) (H':=[.cells [.d (iD ((t.c:Nat):Int))],.cells [.os 1 7 0 n],.cells [.os 1 8 0 n],.cells [.os 1 9 0 n],.cells [.os 1 10 0 t.stk.length],.cells [.clo (.func 46) [] [.op 0 0,.op 1 0,.op 2 0,.op 3 0,.op 4 0,.d (.fp [zai nx,zai pv] 0),.op 5 0,.op 6 0]],.cells [.os 1 11 0 t.out.length],.cells (avs (nsD t.num)),.cells (avs (nsD t.low)),.cells (avs (t.opn.map oD)),.cells (avs (nsD t.stk)),.cells (avs (fs2 (t.out.map nsD))),.free]) ?_ ?_
   ·refine Rt.trans (Rt.fr1) ?_
    refine zwz ?_
    exact jcc
   refine zad hp zao hc rfl fun K21 hK21=>?_
   refine zls hmz ?_
   refine zkm (zzs (id:=10) (id':=12) (off:=a) (n:=m) (R:=t.stk) rfl rfl (by omega) (by omega) (by omega)) ?_
   refine zls hmz ?_
   refine hK21 _ _ ?_
   refine szq hp (fun _ hZ=>zfn hZ) ?_
   refine zab fun K23 hK23=>?_
   refine zbc hp (τ':=frL [(0,.d (iD (v:Int))),(1,.op 0 0),(2,.op 1 0),(3,.op 2 0),(4,.op 3 0),(5,.op 4 0),(6,.d (.fp [zai nx,zai pv] 0)),(7,.op 5 0),(8,.op 6 0),(13,.os 1 12 0 m)]) (H':=[.cells [.d (iD ((t.c:Nat):Int))],.cells [.os 1 7 0 n],.cells [.os 1 8 0 n],.cells [.os 1 9 0 n],.cells [.os 1 10 0 a],.cells [.clo (.func 46) [] [.op 0 0,.op 1 0,.op 2 0,.op 3 0,.op 4 0,.d (.fp [zai nx,zai pv] 0),.op 5 0,.op 6 0]],.cells [.os 1 11 0 t.out.length],.cells (avs (nsD t.num)),.cells (avs (nsD t.low)),.cells (avs (t.opn.map oD)),.cells (avs (nsD (t.stk.take a))),.cells (avs (fs2 (t.out.map nsD))),.cells (avs (nsD cl))]) ?_ ?_
   ·refine Rt.trans (Rt.trim 10 a rfl) ?_
    refine zwz ?_
    refine jjx ?_;rw[hclt];simp only[zyl,je2];rfl
   refine szq hp (fun _ hZ=>zfn hZ) ?_
   refine zaf ?_
   refine zas hp (fun τ' H' mm=>∃(i:Nat) (o:List Bool),(i≤cl.length∧o=(cl.take i).foldl (fun o w=>o.set w false) t.opn∧o.length=n)∧mm=cl.length - i∧H'=[.cells [.d (iD ((t.c:Nat):Int))],.cells [.os 1 7 0 n],.cells [.os 1 8 0 n],.cells [.os 1 9 0 n],.cells [.os 1 10 0 a],.cells [.clo (.func 46) [] [.op 0 0,.op 1 0,.op 2 0,.op 3 0,.op 4 0,.d (.fp [zai nx,zai pv] 0),.op 5 0,.op 6 0]],.cells [.os 1 11 0 t.out.length],.cells (avs (nsD t.num)),.cells (avs (nsD t.low)),.cells (avs (o.map oD)),.cells (avs (nsD (t.stk.take a))),.cells (avs (fs2 (t.out.map nsD))),.cells (avs (nsD cl))]∧τ'=frL [(0,.d (iD (v:Int))),(1,.op 0 0),(2,.op 1 0),(3,.op 2 0),(4,.op 3 0),(5,.op 4 0),(6,.d (.fp [zai nx,zai pv] 0)),(7,.op 5 0),(8,.op 6 0),(13,.os 1 12 0 m),(99,.os 1 12 0 m),(100,.d (iD (m:Int))),(101,.d (iD (i:Int)))]) (cl.length) ?_ ⟨0,t.opn,⟨Nat.zero_le _,rfl,hto⟩,rfl,rfl,rfl⟩ ?_
   ·refine zwz ?_
    exact jcc
   rintro τ' H' mm ⟨i,o,⟨hi,hoi,hol2⟩,rfl,rfl,rfl⟩
   refine szq hp (fun _ hZ=>zfn hZ) ?_
   refine zab fun K26 hK26=>?_
   refine zam rfl (fun ht=>?_) (fun ht=>?_)
   ·have hil:i<cl.length:=by simp at ht;omega
    obtain⟨w,hw⟩:∃w,w=nth cl i:=⟨_,rfl⟩
    have hwn:w<n:=by rw[hw];exact hlt3 _ (zbe hil)
    have hg9:(nsD cl)[i]? =some (iD (w:Int)):=by rw[zbi hil,hw]
    have hon:o.set w false=(cl.take (i+1)).foldl (fun o w=>o.set w false) t.opn:=by
     rw[zea hil,List.foldl_append,←hoi,←hw];rfl
    clear hw
    refine zak (hK26 _ _ ?_)
    refine zab fun K27 hK27=>?_
    refine zaf ?_
    refine szq hp (fun _ hZ=>zls hg9 hZ) ?_
    refine zbj hp zao hc rfl fun K29 hK29=>?_
    simp -dsimp -implicitDefEqProofs (disch:=first|assumption|omega|(simp only[r_z,zae,zag,List.length_map]<;>omega)|decide) only[r_r,↓reduceIte,Nat.reduceEqDiff,Nat.reduceAdd,D.fix,Int.reduceToNat,Nat.reduceMul,Nat.reduceBNe,Nat.reduceBEq,zai,zwy,zwx]
    refine hK29 _ _ (hK27 _ _ ?_)
    refine zbj hp zao hc rfl fun K30 hK30=>?_
    refine zfn ?_
    refine hK30 _ _ ⟨_,_,_,?_,⟨i+1,o.set w false,⟨by omega,hon,by rw[List.length_set];exact hol2⟩,rfl,rfl,rfl⟩,?_⟩
    ·first|omega|(simp only[List.length_cons];omega)|(dsimp only;omega)
    ·refine zwz ?_
     exact jcc
   ·have hie:i=cl.length:=by simp at ht;omega
    rw[hie,List.take_length]at hoi
    replace hcl:=hcl.symm
    replace hm:=hm.symm
    replace ha:=ha.symm
    clear htj
    refine za0 (hK23 _ _ ?_)
    refine zad hp zao hc rfl fun K31 hK31=>?_
    refine zfn ?_
    have hfz:fzV 12 (nsD (zet cl)) (.os 1 12 0 m)= .d (.fs (nsD (zet cl)) m):=zke (zbq (by rw[zae,znf];omega))
    refine zkm (jjv (R:=cl) rfl (by omega) hcll) ?_
    refine zfn ?_
    refine hK31 _ _ ?_
    refine zbc hp (τ':=frL [(0,.d (iD (v:Int))),(1,.op 0 0),(2,.op 1 0),(3,.op 2 0),(4,.op 3 0),(5,.op 4 0),(6,.d (.fp [zai nx,zai pv] 0)),(7,.op 5 0),(8,.op 6 0),(13,.d (.fs (nsD (zet cl)) m))]) (H':=[.cells [.d (iD ((t.c:Nat):Int))],.cells [.os 1 7 0 n],.cells [.os 1 8 0 n],.cells [.os 1 9 0 n],.cells [.os 1 10 0 a],.cells [.clo (.func 46) [] [.op 0 0,.op 1 0,.op 2 0,.op 3 0,.op 4 0,.d (.fp [zai nx,zai pv] 0),.op 5 0,.op 6 0]],.cells [.os 1 11 0 t.out.length],.cells (avs (nsD t.num)),.cells (avs (nsD t.low)),.cells (avs (o.map oD)),.cells (avs (nsD (t.stk.take a))),.cells (avs (fs2 (t.out.map nsD)))]) ?_ ?_
    ·refine Rt.trans (Rt.fz (id:=12) (l:=(nsD (zet cl))) rfl) ?_
     refine jle [0,1,2,3,4,5,6,7,8,9,10,11] ?_
     refine zwz ?_
     exact jcc
    refine szs hp (fun _ hZ=>zfn hZ) ?_
    try dsimp only[zcy,za8]
    refine⟨frL [],[.cells [.d (iD ((t.c:Nat):Int))],.cells [.os 1 7 0 n],.cells [.os 1 8 0 n],.cells [.os 1 9 0 n],.cells [.os 1 10 0 a],.cells [.clo (.func 46) [] [.op 0 0,.op 1 0,.op 2 0,.op 3 0,.op 4 0,.d (.fp [zai nx,zai pv] 0),.op 5 0,.op 6 0]],.cells [.os 1 11 0 (t.out++[zet cl]).length],.cells (avs (nsD t.num)),.cells (avs (nsD t.low)),.cells (avs (o.map oD)),.cells (avs (nsD (t.stk.take a))),.cells (avs (fs2 ((t.out++[zet cl]).map nsD)))],?_,?_⟩
    ·refine jle [0,1,2,3,4,5,6,7,8,9,10,13] ?_
     refine Rt.end (zah _) ?_
     refine jjx ?_;rw[←zz0,znf,hcll,List.length_append];simp[avs];rfl
    first|refine zdt rfl ?_|refine zc0 rfl ?_
    show ∃_,_
    exact⟨jk7 a t,by rw[hfin],rfl,by rw[zjg,jk7,hcl,hoi,List.length_take,Nat.min_eq_left (Nat.le_of_lt hal)]⟩
end Go.Proofs.Ytfolbdkbpmgjgaa
