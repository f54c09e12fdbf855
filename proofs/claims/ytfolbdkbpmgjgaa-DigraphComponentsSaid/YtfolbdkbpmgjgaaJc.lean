/- Components$1, the visit of a node: one visit, where the inner ones do what they should. Printed by gen/mkjc.py. -/
import Derived.Test.YtfolbdkbpmgjgaaQr
import Derived.Test.YtfolbdkbpmgjgaaJb
import Derived.Test.YtfolbdkbpmgjgaaKm
set_option linter.unusedVariables false
set_option linter.unusedSimpArgs false
set_option maxRecDepth 100000
set_option maxHeartbeats 4000000
namespace Go.Proofs.Ytfolbdkbpmgjgaa
open Go Go.RowKit
theorem zv7:(((((type_of% @zg1)∧(type_of% @zg2))∧((type_of% @zc5)∧(type_of% @zc6)))∧(((type_of% @zdg)∧(type_of% @zx4))∧((type_of% @jhl)∧((type_of% @jhm)∧(type_of% @jne)))))∧((((type_of% @jnf)∧(type_of% @zdv))∧((type_of% @zda)∧(type_of% @zeo)))∧(((type_of% @zfj)∧(type_of% @zd4))∧((type_of% @zx8)∧((type_of% @zx9)∧(type_of% @zrl)))))):=⟨⟨⟨⟨@zg1,@zg2⟩,⟨@zc5,@zc6⟩⟩,⟨⟨@zdg,@zx4⟩,⟨@jhl,⟨@jhm,@jne⟩⟩⟩⟩,⟨⟨⟨@jnf,@zdv⟩,⟨@zda,@zeo⟩⟩,⟨⟨@zfj,@zd4⟩,⟨@zx8,⟨@zx9,@zrl⟩⟩⟩⟩⟩
def zi9(n:Nat)(nx pv:List (List Nat))(s:Ts):zaa:=[.cells [.d (iD ((s.c:Nat):Int))],.cells [.os 1 7 0 n],.cells [.os 1 8 0 n],.cells [.os 1 9 0 n],.cells [.os 1 10 0 s.stk.length],.cells [.clo (.func 46) [] [.op 0 0,.op 1 0,.op 2 0,.op 3 0,.op 4 0,.d (.fp [zai nx,zai pv] 0),.op 5 0,.op 6 0]],.cells [.os 1 11 0 s.out.length],.cells (avs (nsD s.num)),.cells (avs (nsD s.low)),.cells (avs (s.opn.map oD)),.cells (avs (nsD s.stk)),.cells (avs (fs2 (s.out.map nsD)))]
def jlx(n:Nat)(nx pv:List (List Nat))(t:Ts)(x:AV)(S':zaa):Prop:=∃t',t'=t∧x= .tup []∧S'=zi9 n nx pv t'
theorem ji5(l:List Bool)(k:Nat)(b:Bool):(l.map oD).set k (oD b)=(l.set k b).map oD:=List.map_set.symm
theorem zv8(l:List Bool)(k:Nat)(b:Bool):(l.map oD).set k (.val (.bool b))=(l.set k b).map oD:=ji5 l k b
theorem ji6{l:List Bool}{k:Nat}(h:k<l.length):(l.map oD)[k]? =some (oD (nth l k)):=zbs h
theorem jly(a b:Nat):min (a:Int) (b:Int)=((min a b:Nat):Int):=by omega
theorem zza(ls:List (List Nat))(l:List Nat):fs2 (ls.map nsD)++[.fs (nsD l) l.length]=fs2 ((ls++[l]).map nsD):=by
 unfold fs2;rw[List.map_append,List.map_append];simp[zaf]
theorem jec{P:Program}{c:Cx}{H:zaa}{code:Code}{QQ:Exit→Fr→zaa→Prop}{a0 a1 a2 a3 a4 a5 a6 a7 a8:AV}(h:AWp P c code QQ (frL [(0,a0),(1,a1),(2,a2),(3,a3),(4,a4),(5,a5),(6,a6),(7,a7),(8,a8)]) H):AWp P c code QQ (zdc [a0,a1,a2,a3,a4,a5,a6,a7,a8]) H:=zav (zac (zac (zac (zac (zac (zac (zac (zac (zac (zaj _) rfl) rfl) rfl) rfl) rfl) rfl) rfl) rfl) rfl) h
theorem jed(l:List Nat)(x:Nat)(r:List Nat):nth (l++x::r) l.length=x:=by unfold nth;simp[List.getD_eq_getElem?_getD]
theorem jee(l:List Nat)(k:Nat):(nsD l).take k=nsD (l.take k):=by unfold nsD zl;rw[List.map_take,List.map_take]
theorem ji7{H:zaa}{id m:Nat}{R:List Nat}(hid:H[id]? =some (.cells (avs (nsD R))))(hl:R.length≤1000000)(hm:R.length=m):IcS Try.prog 45 [.os 1 id 0 m] H fun x H'=>x= .tup []∧H'=H.set id (.cells (avs (nsD (zep R)))):=by
 have:=zqn (H:=H) (id:=id) (m:=m) (l:=zl R) hid (by rw[za6];exact hl) (by rw[za6];exact hm)
 rw[←zqr]at this
 exact this
theorem znb(l:List Nat):(zep l).length=l.length:=(zdk l).length_eq
theorem zlg{p q r:Prop}(e:r)(hq:q)(h:r→p=q:=by
 intro hY
 conv=>lhs;simp -dsimp -implicitDefEqProofs (disch:=first|assumption|omega|(simp only[r_z,zaf,zad,List.length_map]<;>omega)|decide) only[r_r,↓reduceIte,Nat.reduceEqDiff,Nat.reduceAdd,D.fix,Int.reduceToNat,Nat.reduceMul,Nat.reduceBNe,Nat.reduceBEq,zai,zv7,hY]):p:=(h e).mpr hq
theorem zfn{p q:Prop}(hq:q)(h:p=q:=by
 conv=>lhs;simp -dsimp -implicitDefEqProofs (disch:=first|assumption|omega|(simp only[r_z,zaf,zad,List.length_map]<;>omega)|decide) only[r_r,↓reduceIte,Nat.reduceEqDiff,Nat.reduceAdd,D.fix,Int.reduceToNat,Nat.reduceMul,Nat.reduceBNe,Nat.reduceBEq,zai,zv7]):p:=h.mpr hq
theorem jkn(k:List Nat){m:List Nat}{τ τ1:Fr}{H H1:zaa}(h:Rt m (fun t=>gcV k (τ t)) (gcH k H) τ1 H1)(a:∀i∈m,k[i]? =some i:=by decide)(b:k.Nodup:=by decide)(c:∀i∈k,i<H.length:=by
 simp[fzH,gcH]):Rt m τ H τ1 H1:=Rt.trans (Rt.gc a b c) h
theorem zv9{m:List Nat}{τ τ':Fr}{H H':zaa}(h2:H=H')(h:zgq τ τ':=by
 repeat (first|exact zaj _|refine zac ?_ (by first|rfl|(simp[r_f,zaf,zad,List.length_map];done)|simp[r_f,zaf,zad,List.length_map, *]))):Rt m τ H τ' H':=Rt.end h h2
theorem ji8{p q r:Prop}(e:r)(hq:q)(h:r→p=q:=by
 intro hY
 conv=>lhs;simp -dsimp -implicitDefEqProofs (disch:=first|assumption|omega|(simp only[r_z,zaf,zad,List.length_map]<;>omega)|decide) only[r_r,↓reduceIte,Nat.reduceEqDiff,Nat.reduceAdd,D.fix,Int.reduceToNat,Nat.reduceMul,Nat.reduceBNe,Nat.reduceBEq,zai,jly,ze9,zv7,hY]):p:=(h e).mpr hq
theorem ji9{p q:Prop}(hq:q)(h:p=q:=by
 conv=>lhs;simp only[r_g,Nat.reduceAdd,↓reduceIte,Nat.reduceEqDiff,zai]):p:=h.mpr hq
theorem jbl{p:Prop}(h:p:=by
 first|rfl|(simp only[r_g,Nat.reduceAdd,↓reduceIte,Nat.reduceEqDiff,zai];first|done|rfl)):p:=h
theorem zr3(n f v:Nat)(nx pv:List (List Nat))(s:Ts)(hn:n≤1000)(hxl:nx.length=n)(hni:∀u,u<n→∀w∈nth nx u,w<n)(hnr:∀u,u<n→(nth nx u).length≤100000)(hP:jbd n (f+1) v s)(ih:∀w s,jbd n f w s→ScS Try.prog [0,1,2,3,4,5,6] 46 ([.d (iD (w:Int))]++[.op 0 0,.op 1 0,.op 2 0,.op 3 0,.op 4 0,.d (.fp [zai nx,zai pv] 0),.op 5 0,.op 6 0]) (zi9 n nx pv s) (jlx n nx pv (zhk nx f w s))):ScS Try.prog [0,1,2,3,4,5,6] 46 [.d (iD (v:Int)),.op 0 0,.op 1 0,.op 2 0,.op 3 0,.op 4 0,.d (.fp [zai nx,zai pv] 0),.op 5 0,.op 6 0] (zi9 n nx pv s) (jlx n nx pv (zhk nx (f+1) v s)):=by
 obtain⟨hTI,hvn,h0,hun⟩:=hP
 have hup:=zla hTI.nl hvn h0
 have hTp:=zoj hTI hvn h0
 have hsc:=hTI.cn
 have hss:=hTI.sn
 have hso:=hTI.on
 have hnl:=hTI.nl
 have hll:=hTI.ll
 have hol:=hTI.ol
 have hc1:((s.c:Nat):Int)+1=((s.c+1:Nat):Int):=by omega
 have hg2:=zca (nx:=nx) (v:=v) (by omega)
 have hgl:=hnr v hvn
 obtain⟨p,hp1⟩:∃p,p=zcu v s:=⟨_,rfl⟩
 have hq1:p.c=s.c+1:=by rw[hp1];rfl
 have hq2:p.num=s.num.set v (s.c+1):=by rw[hp1];rfl
 have hq3:p.low=s.low.set v (s.c+1):=by rw[hp1];rfl
 have hq4:p.opn=s.opn.set v true:=by rw[hp1];rfl
 have hq5:p.stk=s.stk++[v]:=by rw[hp1];rfl
 have hq6:p.out=s.out:=by rw[hp1];rfl
 have hfin:zhk nx (f+1) v s=jdn s.stk.length v ((nth nx v).foldl (zhy (zhk nx f) v) p):=by rw[hp1];rfl
 have hnp:nth p.num v≠0:=by rw[hq2,za2 (by omega)];omega
 rw[←hp1]at hup hTp
 clear hp1
 refine zf1 (fn:=Try.f46) (by kernel_rfl) Try.func46 rfl (Nat.le_of_ble_eq_true rfl) fun c hc hp=>?_
 refine jec ?_
 refine zfi hp ?_
 unfold zi9
 refine szq hp (fun _ hZ=>zlg hc1 hZ) ?_
 refine zj1 zam hp hc mixed rfl [(0,[]),(1,[]),(2,[]),(3,[]),(4,[]),(5,[]),(6,[]),(7,[]),(8,[]),(9,[2,4,7]),(10,[]),(11,[4]),(12,[]),(13,[])] [[],[],[],[],[],[],[],[],[0,1,6],[0,1,6,8],[0,1,2,3,6,7,8,9],[0,1,2,3,6,7,8,9,10],[0,1,2,3,4,5,6,7,8,9,10,11],[0,1,2,3,4,5,6,7,8,9,10,11,12]] 0 (by kernel_rfl) fun K2 hK2=>?_
 simp -dsimp -implicitDefEqProofs (disch:=first|assumption|omega|(simp only[r_z,zaf,zad,List.length_map]<;>omega)|decide) only[r_r,↓reduceIte,Nat.reduceEqDiff,Nat.reduceAdd,D.fix,Int.reduceToNat,Nat.reduceMul,Nat.reduceBNe,Nat.reduceBEq,r_w,zai,ze9,zv8,←hq2,←hq3,←hq4,zv7]
 refine hK2 _ _ ?_
 refine szq hp (fun _ hZ=>zfn hZ) ?_
 refine zab fun K4 hK4=>?_
 refine zbg hp (τ':=frL [(0,.d (iD (v:Int))),(1,.op 0 0),(2,.op 1 0),(3,.op 2 0),(4,.op 3 0),(5,.op 4 0),(6,.d (.fp [zai nx,zai pv] 0)),(7,.op 5 0),(8,.op 6 0)]) (H':=[.cells [.d (iD ((p.c:Nat):Int))],.cells [.os 1 7 0 n],.cells [.os 1 8 0 n],.cells [.os 1 9 0 n],.cells [.os 1 10 0 p.stk.length],.cells [.clo (.func 46) [] [.op 0 0,.op 1 0,.op 2 0,.op 3 0,.op 4 0,.d (.fp [zai nx,zai pv] 0),.op 5 0,.op 6 0]],.cells [.os 1 11 0 p.out.length],.cells (avs (nsD p.num)),.cells (avs (nsD p.low)),.cells (avs (p.opn.map oD)),.cells (avs (nsD p.stk)),.cells (avs (fs2 (p.out.map nsD)))]) ?_ ?_
 ·refine jkn [0,1,2,3,4,5,6,7,8,9,13,11] ?_
  refine zv9 ?_
  refine ji9 ?_;rw[hq1,hq5,hq6,hq2,hq3,hq4,←zj9,List.length_append];rfl
 refine szq hp (fun _ hZ=>zlg hg2 hZ) ?_
 refine zae ?_
 refine zaq hp (fun τ' H' mm=>∃(j:Nat) (t:Ts),(j≤(nth nx v).length∧t=((nth nx v).take j).foldl (zhy (zhk nx f) v) p∧TI n t∧TE p t∧unn n t≤f)∧mm=(nth nx v).length - j∧H'=[.cells [.d (iD ((t.c:Nat):Int))],.cells [.os 1 7 0 n],.cells [.os 1 8 0 n],.cells [.os 1 9 0 n],.cells [.os 1 10 0 t.stk.length],.cells [.clo (.func 46) [] [.op 0 0,.op 1 0,.op 2 0,.op 3 0,.op 4 0,.d (.fp [zai nx,zai pv] 0),.op 5 0,.op 6 0]],.cells [.os 1 11 0 t.out.length],.cells (avs (nsD t.num)),.cells (avs (nsD t.low)),.cells (avs (t.opn.map oD)),.cells (avs (nsD t.stk)),.cells (avs (fs2 (t.out.map nsD)))]∧τ'=frL [(0,.d (iD (v:Int))),(1,.op 0 0),(2,.op 1 0),(3,.op 2 0),(4,.op 3 0),(5,.op 4 0),(6,.d (.fp [zai nx,zai pv] 0)),(7,.op 5 0),(8,.op 6 0),(37,.d (.fs (nsD (nth nx v)) (nth nx v).length)),(38,.d (iD (((nth nx v).length:Nat):Int))),(39,.d (iD (j:Int)))]) ((nth nx v).length) ?_ ⟨0,p,⟨Nat.zero_le _,rfl,hTp,TE.refl p,by omega⟩,rfl,rfl,rfl⟩ ?_
 ·refine zv9 ?_
  exact jbl
 rintro τ' H' mm ⟨j,t,⟨hj,htj,hT,hE,hu⟩,rfl,rfl,rfl⟩
 refine szq hp (fun _ hZ=>zfn hZ) ?_
 refine zab fun K7 hK7=>?_
 refine zal rfl (fun ht=>?_) (fun ht=>?_)
 ·have hjl:j<(nth nx v).length:=by simp at ht;omega
  obtain⟨w,hw⟩:∃w,w=nth (nth nx v) j:=⟨_,rfl⟩
  have hwn:w<n:=by rw[hw];exact hni v hvn _ (za9 hjl)
  have hg3:(nsD (nth nx v))[j]? =some (iD (w:Int)):=by rw[za7 hjl,hw]
  have htn:=hT.nl
  have htl:=hT.ll
  have hto:=hT.ol
  have hg4:(nsD t.num)[w]? =some (iD ((nth t.num w:Nat):Int)):=za7 (by omega)
  have hg5:(nsD t.low)[v]? =some (iD ((nth t.low v:Nat):Int)):=za7 (by omega)
  have hg6:(t.opn.map oD)[w]? =some (oD (nth t.opn w)):=ji6 (by omega)
  have hnxt:((nth nx v).take (j+1)).foldl (zhy (zhk nx f) v) p=zhy (zhk nx f) v t w:=by
   rw[zfa hjl,List.foldl_append,←htj,←hw];rfl
  clear hw
  refine zah (hK7 _ _ ?_)
  refine zab fun K8 hK8=>?_
  refine zae ?_
  refine szq hp (fun _ hZ=>zlg hg3 hZ) ?_
  refine szq hp (fun _ hZ=>zlg hg4 hZ) ?_
  refine zal rfl (fun ht=>?_) (fun ht=>?_)
  ·have h1:nth t.num w=0:=by rw[beq_iff_eq]at ht;omega
   have hvp:jbd n f w t:=⟨hT,hwn,h1,hu⟩
   obtain⟨k1,k2,k3⟩:=zvk hni f w t hvp
   have hW:zhy (zhk nx f) v t w=zsc v (nth (zhk nx f w t).low w) (zhk nx f w t):=by rw[zhy,if_pos h1]
   refine zbg hp (τ':=frL [(0,.d (iD (v:Int))),(1,.op 0 0),(2,.op 1 0),(3,.op 2 0),(4,.op 3 0),(5,.op 4 0),(6,.d (.fp [zai nx,zai pv] 0)),(7,.op 5 0),(8,.op 6 0),(37,.d (.fs (nsD (nth nx v)) (nth nx v).length)),(38,.d (iD (((nth nx v).length:Nat):Int))),(39,.d (iD (j:Int))),(11,.d (iD (w:Int)))]) (H':=[.cells [.d (iD ((t.c:Nat):Int))],.cells [.os 1 7 0 n],.cells [.os 1 8 0 n],.cells [.os 1 9 0 n],.cells [.os 1 10 0 t.stk.length],.cells [.clo (.func 46) [] [.op 0 0,.op 1 0,.op 2 0,.op 3 0,.op 4 0,.d (.fp [zai nx,zai pv] 0),.op 5 0,.op 6 0]],.cells [.os 1 11 0 t.out.length],.cells (avs (nsD t.num)),.cells (avs (nsD t.low)),.cells (avs (t.opn.map oD)),.cells (avs (nsD t.stk)),.cells (avs (fs2 (t.out.map nsD)))]) ?_ ?_
   ·refine zv9 ?_
    exact jbl
   refine zag hp zam hc rfl fun K11 hK11=>?_
   refine zfn ?_
   refine jaj (S:=[.cells [.d (iD ((t.c:Nat):Int))],.cells [.os 1 7 0 n],.cells [.os 1 8 0 n],.cells [.os 1 9 0 n],.cells [.os 1 10 0 t.stk.length],.cells [.clo (.func 46) [] [.op 0 0,.op 1 0,.op 2 0,.op 3 0,.op 4 0,.d (.fp [zai nx,zai pv] 0),.op 5 0,.op 6 0]],.cells [.os 1 11 0 t.out.length],.cells (avs (nsD t.num)),.cells (avs (nsD t.low)),.cells (avs (t.opn.map oD)),.cells (avs (nsD t.stk)),.cells (avs (fs2 (t.out.map nsD)))]) (T:=[]) (ih w t hvp) rfl (by first|rfl|(simp[AV.allIs,AV.allI,za3,zat,zau,okI,ltI,zao,zbk,zi9];done)|(intro o ho;simp at ho;done)) (fun t=>zc9 (by first|rfl|(simp[AV.allIs,AV.allI,za3,zat,zau,okI,ltI,zao,zbk,zi9];done)|(intro o ho;simp at ho;done)) t) (by first|rfl|(simp[AV.allIs,AV.allI,za3,zat,zau,okI,ltI,zao,zbk,zi9];done)|(intro o ho;simp at ho;done)) (by first|rfl|(simp[AV.allIs,AV.allI,za3,zat,zau,okI,ltI,zao,zbk,zi9];done)|(intro o ho;simp at ho;done)) (by first|rfl|(simp[AV.allIs,AV.allI,za3,zat,zau,okI,ltI,zao,zbk,zi9];done)|(intro o ho;simp at ho;done)) ?_
   rintro _ _ ⟨t',ht',rfl,rfl⟩
   refine⟨rfl,?_⟩
   rw[←ht']at k1 k2 k3 hW;clear ht'
   have hml:=k1.ll
   have hmn:=k1.nl
   have hg7:(nsD t'.low)[v]? =some (iD ((nth t'.low v:Nat):Int)):=za7 (by omega)
   have hg8:(nsD t'.low)[w]? =some (iD ((nth t'.low w:Nat):Int)):=za7 (by omega)
   unfold zi9
   refine zfn ?_
   refine hK11 _ _ ?_
   refine zjx zam hc mixed rfl (q:=0) (by kernel_rfl) (by kernel_rfl) fun K12 hK12=>?_
   refine ji8 (sza hg7 hg8) ?_
   refine hK12 _ _ (hK8 _ _ ?_)
   refine zbc hp zam hc rfl fun K13 hK13=>?_
   refine zfn ?_
   refine hK13 _ _ ⟨_,_,_,?_,⟨j+1,zsc v (nth t'.low w) t',⟨by omega,by rw[hnxt,hW],zm5 k1,hE.trans k2.low,Nat.le_trans (zrw k2.low) hu⟩,rfl,rfl,rfl⟩,?_⟩
   ·first|omega|(simp only[List.length_cons];omega)|(dsimp only;omega)
   ·refine zv9 ?_
    refine ji9 ?_;rfl
  ·have h1:nth t.num w≠0:=fun e=>by rw[e]at ht;cases ht
   refine szq hp (fun _ hZ=>zlg hg6 hZ) ?_
   refine zal rfl (fun ht=>?_) (fun ht=>?_)
   ·have hW:zhy (zhk nx f) v t w=zsc v (nth t.num w) t:=by rw[zhy,if_neg h1,if_pos ht]
    refine zjx zam hc mixed rfl (q:=0) (by kernel_rfl) (by kernel_rfl) fun K15 hK15=>?_
    refine ji8 (sza hg5 hg4) ?_
    refine hK15 _ _ (hK8 _ _ ?_)
    refine zbc hp zam hc rfl fun K16 hK16=>?_
    refine zfn ?_
    refine hK16 _ _ ⟨_,_,_,?_,⟨j+1,zsc v (nth t.num w) t,⟨by omega,by rw[hnxt,hW],zm5 hT,hE.low,Nat.le_trans (zrw (TE.refl t).low) hu⟩,rfl,rfl,rfl⟩,?_⟩
    ·first|omega|(simp only[List.length_cons];omega)|(dsimp only;omega)
    ·refine zv9 ?_
     refine ji9 ?_;rfl
   ·have hW:zhy (zhk nx f) v t w=t:=by rw[zhy,if_neg h1,if_neg (by rw[ht];decide)]
    refine zah (hK8 _ _ ?_)
    refine zbc hp zam hc rfl fun K17 hK17=>?_
    refine zfn ?_
    refine hK17 _ _ ⟨_,_,_,?_,⟨j+1,t,⟨by omega,by rw[hnxt,hW],hT,hE,hu⟩,rfl,rfl,rfl⟩,?_⟩
    ·first|omega|(simp only[List.length_cons];omega)|(dsimp only;omega)
    ·refine zv9 ?_
     exact jbl
 ·have hje:j=(nth nx v).length:=by simp at ht;omega
  rw[hje,List.take_length]at htj
  rw[←htj]at hfin
  have htn:=hT.nl
  have htl:=hT.ll
  have hto:=hT.ol
  have htc:=hT.cn
  have hts:=hT.sn
  have htt:=hT.on
  have hg4:(nsD t.num)[v]? =some (iD ((nth t.num v:Nat):Int)):=za7 (by omega)
  have hg5:(nsD t.low)[v]? =some (iD ((nth t.low v:Nat):Int)):=za7 (by omega)
  refine zaz (hK4 _ _ ?_)
  refine zab fun K18 hK18=>?_
  refine zba zam hc mixed rfl (q:=0) (by kernel_rfl) (by kernel_rfl) fun K19 hK19=>?_
  refine zlg (sza hg4 hg5) ?_
  refine hK19 _ _ ?_
  refine zal rfl (fun ht=>?_) (fun ht=>?_)
  ·have hlt:nth t.low v<nth t.num v:=by simp at ht;omega
   refine zas ?_
   try dsimp only[zc4,za8]
   refine⟨frL [],[.cells [.d (iD ((t.c:Nat):Int))],.cells [.os 1 7 0 n],.cells [.os 1 8 0 n],.cells [.os 1 9 0 n],.cells [.os 1 10 0 t.stk.length],.cells [.clo (.func 46) [] [.op 0 0,.op 1 0,.op 2 0,.op 3 0,.op 4 0,.d (.fp [zai nx,zai pv] 0),.op 5 0,.op 6 0]],.cells [.os 1 11 0 t.out.length],.cells (avs (nsD t.num)),.cells (avs (nsD t.low)),.cells (avs (t.opn.map oD)),.cells (avs (nsD t.stk)),.cells (avs (fs2 (t.out.map nsD)))],?_,?_⟩
   ·refine jkn [0,1,2,3,4,5,6,7,8,9,10,11] ?_
    refine Rt.end (zaj _) ?_
    exact jbl
   first|refine zds rfl ?_|refine zcx rfl ?_
   show ∃_,_
   exact⟨t,by rw[hfin,jdn,if_pos hlt],rfl,rfl⟩
  ·have hlt:¬nth t.low v<nth t.num v:=by simp at ht;omega
   rw[jdn,if_neg hlt]at hfin
   obtain⟨r,hr⟩:=hE.stk
   rw[hq5]at hr
   obtain⟨a,ha⟩:∃a,a=s.stk.length:=⟨_,rfl⟩
   rw[←ha]at hfin
   have hal:a<t.stk.length:=by rw[←hr,ha];simp
   have hva:nth t.stk a=v:=by rw[←hr,ha,List.append_assoc];exact jed _ _ _
   have hvf:∀j,j<a→nth t.stk j≠v:=fun j hj e=>by
    have hnd:t.stk.Nodup:=(List.nodup_append.1 hT.nd).1
    rw[za0 (by omega)]at e hva
    exact List.pairwise_iff_getElem.1 hnd j a (by omega) hal hj (e.trans hva.symm)
   obtain⟨cl,hcl⟩:∃cl,cl=t.stk.drop a:=⟨_,rfl⟩
   have hcll:cl.length=t.stk.length - a:=by rw[hcl,List.length_drop]
   have hclt:(t.stk.drop a).take (t.stk.length - a)=cl:=by rw[←hcll,hcl,List.take_length]
   have hlt3:∀w∈cl,w<n:=fun w hw=>hT.lt w (List.mem_append_left _ (List.mem_of_mem_drop (hcl▸hw)))
   obtain⟨m,hm⟩:∃m,m=t.stk.length - a:=⟨_,rfl⟩
   have hmz:(((t.stk.length:Nat):Int) - (a:Int)).toNat=m:=by omega
   rw[←hm]at hclt hcll
   refine zah (hK18 _ _ ?_)
   refine zag hp zam hc rfl fun K20 hK20=>?_
   refine zfn ?_
   refine zfs (jlr hal hva hvf (by omega)) ?_ ?_
   ·simp (disch:=first|assumption|omega|(simp only[r_z,zaf,zad,List.length_map]<;>omega)|decide) only[r_c,Nat.reduceAdd,D.fix,↓reduceIte,Nat.reduceEqDiff,zai,zhl]
   refine zfn ?_
   refine hK20 _ _ ?_
   refine zbg hp (τ':=frL [(0,.d (iD (v:Int))),(1,.op 0 0),(2,.op 1 0),(3,.op 2 0),(4,.op 3 0),(5,.op 4 0),(6,.d (.fp [zai nx,zai pv] 0)),(7,.op 5 0),(8,.op 6 0),(12,.d (iD (a:Int)))]) (H':=[.cells [.d (iD ((t.c:Nat):Int))],.cells [.os 1 7 0 n],.cells [.os 1 8 0 n],.cells [.os 1 9 0 n],.cells [.os 1 10 0 t.stk.length],.cells [.clo (.func 46) [] [.op 0 0,.op 1 0,.op 2 0,.op 3 0,.op 4 0,.d (.fp [zai nx,zai pv] 0),.op 5 0,.op 6 0]],.cells [.os 1 11 0 t.out.length],.cells (avs (nsD t.num)),.cells (avs (nsD t.low)),.cells (avs (t.opn.map oD)),.cells (avs (nsD t.stk)),.cells (avs (fs2 (t.out.map nsD))),.free]) ?_ ?_
   ·refine Rt.trans (Rt.fr1) ?_
    refine zv9 ?_
    exact jbl
   refine zag hp zam hc rfl fun K21 hK21=>?_
   refine zlg hmz ?_
   refine zj8 (zy2 (id:=10) (id':=12) (off:=a) (n:=m) (R:=t.stk) rfl rfl (by omega) (by omega) (by omega)) ?_
   refine zlg hmz ?_
   refine hK21 _ _ ?_
   refine szq hp (fun _ hZ=>zfn hZ) ?_
   refine zab fun K23 hK23=>?_
   refine zbg hp (τ':=frL [(0,.d (iD (v:Int))),(1,.op 0 0),(2,.op 1 0),(3,.op 2 0),(4,.op 3 0),(5,.op 4 0),(6,.d (.fp [zai nx,zai pv] 0)),(7,.op 5 0),(8,.op 6 0),(13,.os 1 12 0 m)]) (H':=[.cells [.d (iD ((t.c:Nat):Int))],.cells [.os 1 7 0 n],.cells [.os 1 8 0 n],.cells [.os 1 9 0 n],.cells [.os 1 10 0 a],.cells [.clo (.func 46) [] [.op 0 0,.op 1 0,.op 2 0,.op 3 0,.op 4 0,.d (.fp [zai nx,zai pv] 0),.op 5 0,.op 6 0]],.cells [.os 1 11 0 t.out.length],.cells (avs (nsD t.num)),.cells (avs (nsD t.low)),.cells (avs (t.opn.map oD)),.cells (avs (nsD (t.stk.take a))),.cells (avs (fs2 (t.out.map nsD))),.cells (avs (nsD cl))]) ?_ ?_
   ·refine Rt.trans (Rt.trim 10 a rfl) ?_
    refine zv9 ?_
    refine ji9 ?_;rw[hclt];simp only[zxw,jee];rfl
   refine szq hp (fun _ hZ=>zfn hZ) ?_
   refine zae ?_
   refine zaq hp (fun τ' H' mm=>∃(i:Nat) (o:List Bool),(i≤cl.length∧o=(cl.take i).foldl (fun o w=>o.set w false) t.opn∧o.length=n)∧mm=cl.length - i∧H'=[.cells [.d (iD ((t.c:Nat):Int))],.cells [.os 1 7 0 n],.cells [.os 1 8 0 n],.cells [.os 1 9 0 n],.cells [.os 1 10 0 a],.cells [.clo (.func 46) [] [.op 0 0,.op 1 0,.op 2 0,.op 3 0,.op 4 0,.d (.fp [zai nx,zai pv] 0),.op 5 0,.op 6 0]],.cells [.os 1 11 0 t.out.length],.cells (avs (nsD t.num)),.cells (avs (nsD t.low)),.cells (avs (o.map oD)),.cells (avs (nsD (t.stk.take a))),.cells (avs (fs2 (t.out.map nsD))),.cells (avs (nsD cl))]∧τ'=frL [(0,.d (iD (v:Int))),(1,.op 0 0),(2,.op 1 0),(3,.op 2 0),(4,.op 3 0),(5,.op 4 0),(6,.d (.fp [zai nx,zai pv] 0)),(7,.op 5 0),(8,.op 6 0),(13,.os 1 12 0 m),(99,.os 1 12 0 m),(100,.d (iD (m:Int))),(101,.d (iD (i:Int)))]) (cl.length) ?_ ⟨0,t.opn,⟨Nat.zero_le _,rfl,hto⟩,rfl,rfl,rfl⟩ ?_
   ·refine zv9 ?_
    exact jbl
   rintro τ' H' mm ⟨i,o,⟨hi,hoi,hol2⟩,rfl,rfl,rfl⟩
   refine szq hp (fun _ hZ=>zfn hZ) ?_
   refine zab fun K26 hK26=>?_
   refine zal rfl (fun ht=>?_) (fun ht=>?_)
   ·have hil:i<cl.length:=by simp at ht;omega
    obtain⟨w,hw⟩:∃w,w=nth cl i:=⟨_,rfl⟩
    have hwn:w<n:=by rw[hw];exact hlt3 _ (za9 hil)
    have hg9:(nsD cl)[i]? =some (iD (w:Int)):=by rw[za7 hil,hw]
    have hon:o.set w false=(cl.take (i+1)).foldl (fun o w=>o.set w false) t.opn:=by
     rw[zfa hil,List.foldl_append,←hoi,←hw];rfl
    clear hw
    refine zah (hK26 _ _ ?_)
    refine zab fun K27 hK27=>?_
    refine zae ?_
    refine szq hp (fun _ hZ=>zlg hg9 hZ) ?_
    refine zbc hp zam hc rfl fun K29 hK29=>?_
    simp -dsimp -implicitDefEqProofs (disch:=first|assumption|omega|(simp only[r_z,zaf,zad,List.length_map]<;>omega)|decide) only[r_r,↓reduceIte,Nat.reduceEqDiff,Nat.reduceAdd,D.fix,Int.reduceToNat,Nat.reduceMul,Nat.reduceBNe,Nat.reduceBEq,zai,zv8,zv7]
    refine hK29 _ _ (hK27 _ _ ?_)
    refine zbc hp zam hc rfl fun K30 hK30=>?_
    refine zfn ?_
    refine hK30 _ _ ⟨_,_,_,?_,⟨i+1,o.set w false,⟨by omega,hon,by rw[List.length_set];exact hol2⟩,rfl,rfl,rfl⟩,?_⟩
    ·first|omega|(simp only[List.length_cons];omega)|(dsimp only;omega)
    ·refine zv9 ?_
     exact jbl
   ·have hie:i=cl.length:=by simp at ht;omega
    rw[hie,List.take_length]at hoi
    replace hcl:=hcl.symm
    replace hm:=hm.symm
    replace ha:=ha.symm
    clear htj
    refine zaz (hK23 _ _ ?_)
    refine zag hp zam hc rfl fun K31 hK31=>?_
    refine zfn ?_
    have hfz:fzV 12 (nsD (zep cl)) (.os 1 12 0 m)= .d (.fs (nsD (zep cl)) m):=zir (zbn (by rw[zaf,znb];omega))
    refine zj8 (ji7 (R:=cl) rfl (by omega) hcll) ?_
    refine zfn ?_
    refine hK31 _ _ ?_
    refine zbg hp (τ':=frL [(0,.d (iD (v:Int))),(1,.op 0 0),(2,.op 1 0),(3,.op 2 0),(4,.op 3 0),(5,.op 4 0),(6,.d (.fp [zai nx,zai pv] 0)),(7,.op 5 0),(8,.op 6 0),(13,.d (.fs (nsD (zep cl)) m))]) (H':=[.cells [.d (iD ((t.c:Nat):Int))],.cells [.os 1 7 0 n],.cells [.os 1 8 0 n],.cells [.os 1 9 0 n],.cells [.os 1 10 0 a],.cells [.clo (.func 46) [] [.op 0 0,.op 1 0,.op 2 0,.op 3 0,.op 4 0,.d (.fp [zai nx,zai pv] 0),.op 5 0,.op 6 0]],.cells [.os 1 11 0 t.out.length],.cells (avs (nsD t.num)),.cells (avs (nsD t.low)),.cells (avs (o.map oD)),.cells (avs (nsD (t.stk.take a))),.cells (avs (fs2 (t.out.map nsD)))]) ?_ ?_
    ·refine Rt.trans (Rt.fz (id:=12) (l:=(nsD (zep cl))) rfl) ?_
     refine jkn [0,1,2,3,4,5,6,7,8,9,10,11] ?_
     refine zv9 ?_
     exact jbl
    refine szs hp (fun _ hZ=>zfn hZ) ?_
    try dsimp only[zc4,za8]
    refine⟨frL [],[.cells [.d (iD ((t.c:Nat):Int))],.cells [.os 1 7 0 n],.cells [.os 1 8 0 n],.cells [.os 1 9 0 n],.cells [.os 1 10 0 a],.cells [.clo (.func 46) [] [.op 0 0,.op 1 0,.op 2 0,.op 3 0,.op 4 0,.d (.fp [zai nx,zai pv] 0),.op 5 0,.op 6 0]],.cells [.os 1 11 0 (t.out++[zep cl]).length],.cells (avs (nsD t.num)),.cells (avs (nsD t.low)),.cells (avs (o.map oD)),.cells (avs (nsD (t.stk.take a))),.cells (avs (fs2 ((t.out++[zep cl]).map nsD)))],?_,?_⟩
    ·refine jkn [0,1,2,3,4,5,6,7,8,9,10,13] ?_
     refine Rt.end (zaj _) ?_
     refine ji9 ?_;rw[←zza,znb,hcll,List.length_append];simp[avs];rfl
    first|refine zds rfl ?_|refine zcx rfl ?_
    show ∃_,_
    exact⟨jkg a t,by rw[hfin],rfl,by rw[zi9,jkg,hcl,hoi,List.length_take,Nat.min_eq_left (Nat.le_of_lt hal)]⟩
end Go.Proofs.Ytfolbdkbpmgjgaa
