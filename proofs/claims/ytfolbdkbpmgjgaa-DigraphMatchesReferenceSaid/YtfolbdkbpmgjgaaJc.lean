/- Components$1, the visit of a node: one visit, where the inner ones do what they should. Printed by gen/mkjc.py. -/
import Derived.Test.YtfolbdkbpmgjgaaQr
import Derived.Test.YtfolbdkbpmgjgaaJb
import Derived.Test.YtfolbdkbpmgjgaaKm
set_option linter.unusedVariables false
set_option linter.unusedSimpArgs false
set_option maxRecDepth 100000
set_option maxHeartbeats 4000000
namespace Go.Proofs.Ytfolbdkbpmgjgaa
open Go Go.RowKit
theorem zx0:(((((type_of% @zea)∧(type_of% @zeb))∧((type_of% @zcy)∧(type_of% @zcz)))∧(((type_of% @zb8)∧(type_of% @jaa))∧((type_of% @jke)∧((type_of% @znr)∧(type_of% @jdi)))))∧((((type_of% @jdj)∧(type_of% @zcl))∧((type_of% @zdn)∧(type_of% @ze3)))∧(((type_of% @zfx)∧(type_of% @zeh))∧((type_of% @jae)∧((type_of% @jaf)∧(type_of% @znq)))))):=⟨⟨⟨⟨@zea,@zeb⟩,⟨@zcy,@zcz⟩⟩,⟨⟨@zb8,@jaa⟩,⟨@jke,⟨@znr,@jdi⟩⟩⟩⟩,⟨⟨⟨@jdj,@zcl⟩,⟨@zdn,@ze3⟩⟩,⟨⟨@zfx,@zeh⟩,⟨@jae,⟨@jaf,@znq⟩⟩⟩⟩⟩
def zjx(n:Nat)(nx pv:List (List Nat))(s:Ts):zaa:=[.cells [.d (iD ((s.c:Nat):Int))],.cells [.os 1 7 0 n],.cells [.os 1 8 0 n],.cells [.os 1 9 0 n],.cells [.os 1 10 0 s.stk.length],.cells [.clo (.func 46) [] [.op 0 0,.op 1 0,.op 2 0,.op 3 0,.op 4 0,.d (.fp [zan nx,zan pv] 0),.op 5 0,.op 6 0]],.cells [.os 1 11 0 s.out.length],.cells (avs (nsD s.num)),.cells (avs (nsD s.low)),.cells (avs (s.opn.map oD)),.cells (avs (nsD s.stk)),.cells (avs (fs2 (s.out.map nsD)))]
def jpm(n:Nat)(nx pv:List (List Nat))(t:Ts)(x:AV)(S':zaa):Prop:=∃t',t'=t∧x= .tup []∧S'=zjx n nx pv t'
theorem jd5(l:List Bool)(k:Nat)(b:Bool):(l.map oD).set k (oD b)=(l.set k b).map oD:=List.map_set.symm
theorem zhw(l:List Bool)(k:Nat)(b:Bool):(l.map oD).set k (.val (.bool b))=(l.set k b).map oD:=jd5 l k b
theorem jly{l:List Bool}{k:Nat}(h:k<l.length):(l.map oD)[k]? =some (oD (nth l k)):=zbk h
theorem jpn(a b:Nat):min (a:Int) (b:Int)=((min a b:Nat):Int):=by omega
theorem zme(ls:List (List Nat))(l:List Nat):fs2 (ls.map nsD)++[.fs (nsD l) l.length]=fs2 ((ls++[l]).map nsD):=by
 unfold fs2;rw[List.map_append,List.map_append];simp[zad]
theorem jgw{P:Program}{c:Cx}{H:zaa}{code:Code}{QQ:Exit→Fr→zaa→Prop}{a0 a1 a2 a3 a4 a5 a6 a7 a8:AV}(h:AWp P c code QQ (frL [(0,a0),(1,a1),(2,a2),(3,a3),(4,a4),(5,a5),(6,a6),(7,a7),(8,a8)]) H):AWp P c code QQ (zdp [a0,a1,a2,a3,a4,a5,a6,a7,a8]) H:=zaw (zaf (zaf (zaf (zaf (zaf (zaf (zaf (zaf (zaf (zal _) rfl) rfl) rfl) rfl) rfl) rfl) rfl) rfl) rfl) h
theorem jgx(l:List Nat)(x:Nat)(r:List Nat):nth (l++x::r) l.length=x:=by unfold nth;simp[List.getD_eq_getElem?_getD]
theorem jgy(l:List Nat)(k:Nat):(nsD l).take k=nsD (l.take k):=by unfold nsD zl;rw[List.map_take,List.map_take]
theorem jlz{H:zaa}{id m:Nat}{R:List Nat}(hid:H[id]? =some (.cells (avs (nsD R))))(hl:R.length≤1000000)(hm:R.length=m):IcS Try.prog 45 [.os 1 id 0 m] H fun x H'=>x= .tup []∧H'=H.set id (.cells (avs (nsD (ze4 R)))):=by
 have:=zru (H:=H) (id:=id) (m:=m) (l:=zl R) hid (by rw[zbe];exact hl) (by rw[zbe];exact hm)
 rw[←zry]at this
 exact this
theorem zoc(l:List Nat):(ze4 l).length=l.length:=(zdu l).length_eq
theorem zmf{p q r:Prop}(e:r)(hq:q)(h:r→p=q:=by
 intro hY
 conv=>lhs;simp -dsimp -implicitDefEqProofs (disch:=first|assumption|omega|(simp only[r_z,zad,zak,List.length_map]<;>omega)|decide) only[r_r,↓reduceIte,Nat.reduceEqDiff,Nat.reduceAdd,D.fix,Int.reduceToNat,Nat.reduceMul,Nat.reduceBNe,Nat.reduceBEq,zan,zx0,hY]):p:=(h e).mpr hq
theorem zf0{p q:Prop}(hq:q)(h:p=q:=by
 conv=>lhs;simp -dsimp -implicitDefEqProofs (disch:=first|assumption|omega|(simp only[r_z,zad,zak,List.length_map]<;>omega)|decide) only[r_r,↓reduceIte,Nat.reduceEqDiff,Nat.reduceAdd,D.fix,Int.reduceToNat,Nat.reduceMul,Nat.reduceBNe,Nat.reduceBEq,zan,zx0]):p:=h.mpr hq
theorem joc(k:List Nat){m:List Nat}{τ τ1:Fr}{H H1:zaa}(h:Rt m (fun t=>gcV k (τ t)) (gcH k H) τ1 H1)(a:∀i∈m,k[i]? =some i:=by decide)(b:k.Nodup:=by decide)(c:∀i∈k,i<H.length:=by
 simp[fzH,gcH]):Rt m τ H τ1 H1:=Rt.trans (Rt.gc a b c) h
theorem zx1{m:List Nat}{τ τ':Fr}{H H':zaa}(h2:H=H')(h:zez τ τ':=by
 repeat (first|exact zal _|refine zaf ?_ (by first|rfl|(simp[r_f,zad,zak,List.length_map];done)|simp[r_f,zad,zak,List.length_map, *]))):Rt m τ H τ' H':=Rt.end h h2
theorem jl0{p q r:Prop}(e:r)(hq:q)(h:r→p=q:=by
 intro hY
 conv=>lhs;simp -dsimp -implicitDefEqProofs (disch:=first|assumption|omega|(simp only[r_z,zad,zak,List.length_map]<;>omega)|decide) only[r_r,↓reduceIte,Nat.reduceEqDiff,Nat.reduceAdd,D.fix,Int.reduceToNat,Nat.reduceMul,Nat.reduceBNe,Nat.reduceBEq,zan,jpn,zex,zx0,hY]):p:=(h e).mpr hq
theorem jl1{p q:Prop}(hq:q)(h:p=q:=by
 conv=>lhs;simp only[r_g,Nat.reduceAdd,↓reduceIte,Nat.reduceEqDiff,zan]):p:=h.mpr hq
theorem jd6{p:Prop}(h:p:=by
 first|rfl|(simp only[r_g,Nat.reduceAdd,↓reduceIte,Nat.reduceEqDiff,zan];first|done|rfl)):p:=h
theorem ztn(n f v:Nat)(nx pv:List (List Nat))(s:Ts)(hn:n≤1000)(hxl:nx.length=n)(hni:∀u,u<n→∀w∈nth nx u,w<n)(hnr:∀u,u<n→(nth nx u).length≤100000)(hP:jdz n (f+1) v s)(ih:∀w s,jdz n f w s→ScS Try.prog [0,1,2,3,4,5,6] 46 ([.d (iD (w:Int))]++[.op 0 0,.op 1 0,.op 2 0,.op 3 0,.op 4 0,.d (.fp [zan nx,zan pv] 0),.op 5 0,.op 6 0]) (zjx n nx pv s) (jpm n nx pv (zh7 nx f w s))):ScS Try.prog [0,1,2,3,4,5,6] 46 [.d (iD (v:Int)),.op 0 0,.op 1 0,.op 2 0,.op 3 0,.op 4 0,.d (.fp [zan nx,zan pv] 0),.op 5 0,.op 6 0] (zjx n nx pv s) (jpm n nx pv (zh7 nx (f+1) v s)):=by
 obtain⟨hTI,hvn,h0,hun⟩:=hP
 have hup:=zl6 hTI.nl hvn h0
 have hTp:=zpm hTI hvn h0
 have hsc:=hTI.cn
 have hss:=hTI.sn
 have hso:=hTI.on
 have hnl:=hTI.nl
 have hll:=hTI.ll
 have hol:=hTI.ol
 have hc1:((s.c:Nat):Int)+1=((s.c+1:Nat):Int):=by omega
 have hg2:=zcm (nx:=nx) (v:=v) (by omega)
 have hgl:=hnr v hvn
 obtain⟨p,hp1⟩:∃p,p=zc8 v s:=⟨_,rfl⟩
 have hq1:p.c=s.c+1:=by rw[hp1];rfl
 have hq2:p.num=s.num.set v (s.c+1):=by rw[hp1];rfl
 have hq3:p.low=s.low.set v (s.c+1):=by rw[hp1];rfl
 have hq4:p.opn=s.opn.set v true:=by rw[hp1];rfl
 have hq5:p.stk=s.stk++[v]:=by rw[hp1];rfl
 have hq6:p.out=s.out:=by rw[hp1];rfl
 have hfin:zh7 nx (f+1) v s=jf6 s.stk.length v ((nth nx v).foldl (zir (zh7 nx f) v) p):=by rw[hp1];rfl
 have hnp:nth p.num v≠0:=by rw[hq2,zaz (by omega)];omega
 rw[←hp1]at hup hTp
 clear hp1
 refine zgf (fn:=Try.f46) (by kernel_rfl) Try.func46 rfl (Nat.le_of_ble_eq_true rfl) fun c hc hp=>?_
 refine jgw ?_
 refine zfw hp ?_
 unfold zjx
 refine szq hp (fun _ hZ=>zmf hc1 hZ) ?_
 refine zkv zam hp hc mixed rfl [(0,[]),(1,[]),(2,[]),(3,[]),(4,[]),(5,[]),(6,[]),(7,[]),(8,[]),(9,[2,4,7]),(10,[]),(11,[4]),(12,[]),(13,[])] [[],[],[],[],[],[],[],[],[0,1,6],[0,1,6,8],[0,1,2,3,6,7,8,9],[0,1,2,3,6,7,8,9,10],[0,1,2,3,4,5,6,7,8,9,10,11],[0,1,2,3,4,5,6,7,8,9,10,11,12]] 0 (by kernel_rfl) fun K2 hK2=>?_
 simp -dsimp -implicitDefEqProofs (disch:=first|assumption|omega|(simp only[r_z,zad,zak,List.length_map]<;>omega)|decide) only[r_r,↓reduceIte,Nat.reduceEqDiff,Nat.reduceAdd,D.fix,Int.reduceToNat,Nat.reduceMul,Nat.reduceBNe,Nat.reduceBEq,r_w,zan,zex,zhw,←hq2,←hq3,←hq4,zx0]
 refine hK2 _ _ ?_
 refine szq hp (fun _ hZ=>zf0 hZ) ?_
 refine zab fun K4 hK4=>?_
 refine zba hp (τ':=frL [(0,.d (iD (v:Int))),(1,.op 0 0),(2,.op 1 0),(3,.op 2 0),(4,.op 3 0),(5,.op 4 0),(6,.d (.fp [zan nx,zan pv] 0)),(7,.op 5 0),(8,.op 6 0)]) (H':=[.cells [.d (iD ((p.c:Nat):Int))],.cells [.os 1 7 0 n],.cells [.os 1 8 0 n],.cells [.os 1 9 0 n],.cells [.os 1 10 0 p.stk.length],.cells [.clo (.func 46) [] [.op 0 0,.op 1 0,.op 2 0,.op 3 0,.op 4 0,.d (.fp [zan nx,zan pv] 0),.op 5 0,.op 6 0]],.cells [.os 1 11 0 p.out.length],.cells (avs (nsD p.num)),.cells (avs (nsD p.low)),.cells (avs (p.opn.map oD)),.cells (avs (nsD p.stk)),.cells (avs (fs2 (p.out.map nsD)))]) ?_ ?_
 ·refine joc [0,1,2,3,4,5,6,7,8,9,13,11] ?_
  refine zx1 ?_
  refine jl1 ?_;rw[hq1,hq5,hq6,hq2,hq3,hq4,←zf8,List.length_append];rfl
 refine szq hp (fun _ hZ=>zmf hg2 hZ) ?_
 refine zae ?_
 refine zao hp (fun τ' H' mm=>∃(j:Nat) (t:Ts),(j≤(nth nx v).length∧t=((nth nx v).take j).foldl (zir (zh7 nx f) v) p∧TI n t∧TE p t∧unn n t≤f)∧mm=(nth nx v).length - j∧H'=[.cells [.d (iD ((t.c:Nat):Int))],.cells [.os 1 7 0 n],.cells [.os 1 8 0 n],.cells [.os 1 9 0 n],.cells [.os 1 10 0 t.stk.length],.cells [.clo (.func 46) [] [.op 0 0,.op 1 0,.op 2 0,.op 3 0,.op 4 0,.d (.fp [zan nx,zan pv] 0),.op 5 0,.op 6 0]],.cells [.os 1 11 0 t.out.length],.cells (avs (nsD t.num)),.cells (avs (nsD t.low)),.cells (avs (t.opn.map oD)),.cells (avs (nsD t.stk)),.cells (avs (fs2 (t.out.map nsD)))]∧τ'=frL [(0,.d (iD (v:Int))),(1,.op 0 0),(2,.op 1 0),(3,.op 2 0),(4,.op 3 0),(5,.op 4 0),(6,.d (.fp [zan nx,zan pv] 0)),(7,.op 5 0),(8,.op 6 0),(37,.d (.fs (nsD (nth nx v)) (nth nx v).length)),(38,.d (iD (((nth nx v).length:Nat):Int))),(39,.d (iD (j:Int)))]) ((nth nx v).length) ?_ ⟨0,p,⟨Nat.zero_le _,rfl,hTp,TE.refl p,by omega⟩,rfl,rfl,rfl⟩ ?_
 ·refine zx1 ?_
  exact jd6
 rintro τ' H' mm ⟨j,t,⟨hj,htj,hT,hE,hu⟩,rfl,rfl,rfl⟩
 refine szq hp (fun _ hZ=>zf0 hZ) ?_
 refine zab fun K7 hK7=>?_
 refine zai rfl (fun ht=>?_) (fun ht=>?_)
 ·have hjl:j<(nth nx v).length:=by simp at ht;omega
  obtain⟨w,hw⟩:∃w,w=nth (nth nx v) j:=⟨_,rfl⟩
  have hwn:w<n:=by rw[hw];exact hni v hvn _ (za3 hjl)
  have hg3:(nsD (nth nx v))[j]? =some (iD (w:Int)):=by rw[zbf hjl,hw]
  have htn:=hT.nl
  have htl:=hT.ll
  have hto:=hT.ol
  have hg4:(nsD t.num)[w]? =some (iD ((nth t.num w:Nat):Int)):=zbf (by omega)
  have hg5:(nsD t.low)[v]? =some (iD ((nth t.low v:Nat):Int)):=zbf (by omega)
  have hg6:(t.opn.map oD)[w]? =some (oD (nth t.opn w)):=jly (by omega)
  have hnxt:((nth nx v).take (j+1)).foldl (zir (zh7 nx f) v) p=zir (zh7 nx f) v t w:=by
   rw[zfo hjl,List.foldl_append,←htj,←hw];rfl
  clear hw
  refine zah (hK7 _ _ ?_)
  refine zab fun K8 hK8=>?_
  refine zae ?_
  refine szq hp (fun _ hZ=>zmf hg3 hZ) ?_
  refine szq hp (fun _ hZ=>zmf hg4 hZ) ?_
  refine zai rfl (fun ht=>?_) (fun ht=>?_)
  ·have h1:nth t.num w=0:=by rw[beq_iff_eq]at ht;omega
   have hvp:jdz n f w t:=⟨hT,hwn,h1,hu⟩
   obtain⟨k1,k2,k3⟩:=zxc hni f w t hvp
   have hW:zir (zh7 nx f) v t w=zt4 v (nth (zh7 nx f w t).low w) (zh7 nx f w t):=by rw[zir,if_pos h1]
   refine zba hp (τ':=frL [(0,.d (iD (v:Int))),(1,.op 0 0),(2,.op 1 0),(3,.op 2 0),(4,.op 3 0),(5,.op 4 0),(6,.d (.fp [zan nx,zan pv] 0)),(7,.op 5 0),(8,.op 6 0),(37,.d (.fs (nsD (nth nx v)) (nth nx v).length)),(38,.d (iD (((nth nx v).length:Nat):Int))),(39,.d (iD (j:Int))),(11,.d (iD (w:Int)))]) (H':=[.cells [.d (iD ((t.c:Nat):Int))],.cells [.os 1 7 0 n],.cells [.os 1 8 0 n],.cells [.os 1 9 0 n],.cells [.os 1 10 0 t.stk.length],.cells [.clo (.func 46) [] [.op 0 0,.op 1 0,.op 2 0,.op 3 0,.op 4 0,.d (.fp [zan nx,zan pv] 0),.op 5 0,.op 6 0]],.cells [.os 1 11 0 t.out.length],.cells (avs (nsD t.num)),.cells (avs (nsD t.low)),.cells (avs (t.opn.map oD)),.cells (avs (nsD t.stk)),.cells (avs (fs2 (t.out.map nsD)))]) ?_ ?_
   ·refine zx1 ?_
    exact jd6
   refine zaj hp zam hc rfl fun K11 hK11=>?_
   refine zf0 ?_
   refine jc4 (S:=[.cells [.d (iD ((t.c:Nat):Int))],.cells [.os 1 7 0 n],.cells [.os 1 8 0 n],.cells [.os 1 9 0 n],.cells [.os 1 10 0 t.stk.length],.cells [.clo (.func 46) [] [.op 0 0,.op 1 0,.op 2 0,.op 3 0,.op 4 0,.d (.fp [zan nx,zan pv] 0),.op 5 0,.op 6 0]],.cells [.os 1 11 0 t.out.length],.cells (avs (nsD t.num)),.cells (avs (nsD t.low)),.cells (avs (t.opn.map oD)),.cells (avs (nsD t.stk)),.cells (avs (fs2 (t.out.map nsD)))]) (T:=[]) (ih w t hvp) rfl (by first|rfl|(simp[AV.allIs,AV.allI,za9,za0,za1,okI,ltI,zar,zbq,zjx];done)|(intro o ho;simp at ho;done)) (fun t=>zdm (by first|rfl|(simp[AV.allIs,AV.allI,za9,za0,za1,okI,ltI,zar,zbq,zjx];done)|(intro o ho;simp at ho;done)) t) (by first|rfl|(simp[AV.allIs,AV.allI,za9,za0,za1,okI,ltI,zar,zbq,zjx];done)|(intro o ho;simp at ho;done)) (by first|rfl|(simp[AV.allIs,AV.allI,za9,za0,za1,okI,ltI,zar,zbq,zjx];done)|(intro o ho;simp at ho;done)) (by first|rfl|(simp[AV.allIs,AV.allI,za9,za0,za1,okI,ltI,zar,zbq,zjx];done)|(intro o ho;simp at ho;done)) ?_
   rintro _ _ ⟨t',ht',rfl,rfl⟩
   refine⟨rfl,?_⟩
   rw[←ht']at k1 k2 k3 hW;clear ht'
   have hml:=k1.ll
   have hmn:=k1.nl
   have hg7:(nsD t'.low)[v]? =some (iD ((nth t'.low v:Nat):Int)):=zbf (by omega)
   have hg8:(nsD t'.low)[w]? =some (iD ((nth t'.low w:Nat):Int)):=zbf (by omega)
   unfold zjx
   refine zf0 ?_
   refine hK11 _ _ ?_
   refine zjf zam hc mixed rfl (q:=0) (by kernel_rfl) (by kernel_rfl) fun K12 hK12=>?_
   refine jl0 (sza hg7 hg8) ?_
   refine hK12 _ _ (hK8 _ _ ?_)
   refine za6 hp zam hc rfl fun K13 hK13=>?_
   refine zf0 ?_
   refine hK13 _ _ ⟨_,_,_,?_,⟨j+1,zt4 v (nth t'.low w) t',⟨by omega,by rw[hnxt,hW],zn6 k1,hE.trans k2.low,Nat.le_trans (ztf k2.low) hu⟩,rfl,rfl,rfl⟩,?_⟩
   ·first|omega|(simp only[List.length_cons];omega)|(dsimp only;omega)
   ·refine zx1 ?_
    refine jl1 ?_;rfl
  ·have h1:nth t.num w≠0:=fun e=>by rw[e]at ht;cases ht
   refine szq hp (fun _ hZ=>zmf hg6 hZ) ?_
   refine zai rfl (fun ht=>?_) (fun ht=>?_)
   ·have hW:zir (zh7 nx f) v t w=zt4 v (nth t.num w) t:=by rw[zir,if_neg h1,if_pos ht]
    refine zjf zam hc mixed rfl (q:=0) (by kernel_rfl) (by kernel_rfl) fun K15 hK15=>?_
    refine jl0 (sza hg5 hg4) ?_
    refine hK15 _ _ (hK8 _ _ ?_)
    refine za6 hp zam hc rfl fun K16 hK16=>?_
    refine zf0 ?_
    refine hK16 _ _ ⟨_,_,_,?_,⟨j+1,zt4 v (nth t.num w) t,⟨by omega,by rw[hnxt,hW],zn6 hT,hE.low,Nat.le_trans (ztf (TE.refl t).low) hu⟩,rfl,rfl,rfl⟩,?_⟩
    ·first|omega|(simp only[List.length_cons];omega)|(dsimp only;omega)
    ·refine zx1 ?_
     refine jl1 ?_;rfl
   ·have hW:zir (zh7 nx f) v t w=t:=by rw[zir,if_neg h1,if_neg (by rw[ht];decide)]
    refine zah (hK8 _ _ ?_)
    refine za6 hp zam hc rfl fun K17 hK17=>?_
    refine zf0 ?_
    refine hK17 _ _ ⟨_,_,_,?_,⟨j+1,t,⟨by omega,by rw[hnxt,hW],hT,hE,hu⟩,rfl,rfl,rfl⟩,?_⟩
    ·first|omega|(simp only[List.length_cons];omega)|(dsimp only;omega)
    ·refine zx1 ?_
     exact jd6
 ·have hje:j=(nth nx v).length:=by simp at ht;omega
  rw[hje,List.take_length]at htj
  rw[←htj]at hfin
  have htn:=hT.nl
  have htl:=hT.ll
  have hto:=hT.ol
  have htc:=hT.cn
  have hts:=hT.sn
  have htt:=hT.on
  have hg4:(nsD t.num)[v]? =some (iD ((nth t.num v:Nat):Int)):=zbf (by omega)
  have hg5:(nsD t.low)[v]? =some (iD ((nth t.low v:Nat):Int)):=zbf (by omega)
  refine zat (hK4 _ _ ?_)
  refine zab fun K18 hK18=>?_
  refine zbj zam hc mixed rfl (q:=0) (by kernel_rfl) (by kernel_rfl) fun K19 hK19=>?_
  refine zmf (sza hg4 hg5) ?_
  refine hK19 _ _ ?_
  refine zai rfl (fun ht=>?_) (fun ht=>?_)
  ·have hlt:nth t.low v<nth t.num v:=by simp at ht;omega
   refine zaq ?_
   try dsimp only[zcq,za7]
   refine⟨frL [],[.cells [.d (iD ((t.c:Nat):Int))],.cells [.os 1 7 0 n],.cells [.os 1 8 0 n],.cells [.os 1 9 0 n],.cells [.os 1 10 0 t.stk.length],.cells [.clo (.func 46) [] [.op 0 0,.op 1 0,.op 2 0,.op 3 0,.op 4 0,.d (.fp [zan nx,zan pv] 0),.op 5 0,.op 6 0]],.cells [.os 1 11 0 t.out.length],.cells (avs (nsD t.num)),.cells (avs (nsD t.low)),.cells (avs (t.opn.map oD)),.cells (avs (nsD t.stk)),.cells (avs (fs2 (t.out.map nsD)))],?_,?_⟩
   ·refine joc [0,1,2,3,4,5,6,7,8,9,10,11] ?_
    refine Rt.end (zal _) ?_
    exact jd6
   first|refine zd3 rfl ?_|refine zdc rfl ?_
   show ∃_,_
   exact⟨t,by rw[hfin,jf6,if_pos hlt],rfl,rfl⟩
  ·have hlt:¬nth t.low v<nth t.num v:=by simp at ht;omega
   rw[jf6,if_neg hlt]at hfin
   obtain⟨r,hr⟩:=hE.stk
   rw[hq5]at hr
   obtain⟨a,ha⟩:∃a,a=s.stk.length:=⟨_,rfl⟩
   rw[←ha]at hfin
   have hal:a<t.stk.length:=by rw[←hr,ha];simp
   have hva:nth t.stk a=v:=by rw[←hr,ha,List.append_assoc];exact jgx _ _ _
   have hvf:∀j,j<a→nth t.stk j≠v:=fun j hj e=>by
    have hnd:t.stk.Nodup:=(List.nodup_append.1 hT.nd).1
    rw[za5 (by omega)]at e hva
    exact List.pairwise_iff_getElem.1 hnd j a (by omega) hal hj (e.trans hva.symm)
   obtain⟨cl,hcl⟩:∃cl,cl=t.stk.drop a:=⟨_,rfl⟩
   have hcll:cl.length=t.stk.length - a:=by rw[hcl,List.length_drop]
   have hclt:(t.stk.drop a).take (t.stk.length - a)=cl:=by rw[←hcll,hcl,List.take_length]
   have hlt3:∀w∈cl,w<n:=fun w hw=>hT.lt w (List.mem_append_left _ (List.mem_of_mem_drop (hcl▸hw)))
   obtain⟨m,hm⟩:∃m,m=t.stk.length - a:=⟨_,rfl⟩
   have hmz:(((t.stk.length:Nat):Int) - (a:Int)).toNat=m:=by omega
   rw[←hm]at hclt hcll
   refine zah (hK18 _ _ ?_)
   refine zaj hp zam hc rfl fun K20 hK20=>?_
   refine zf0 ?_
   refine zfe (jpg hal hva hvf (by omega)) ?_ ?_
   ·simp (disch:=first|assumption|omega|(simp only[r_z,zad,zak,List.length_map]<;>omega)|decide) only[r_c,Nat.reduceAdd,D.fix,↓reduceIte,Nat.reduceEqDiff,zan,ze2]
   refine zf0 ?_
   refine hK20 _ _ ?_
   refine zba hp (τ':=frL [(0,.d (iD (v:Int))),(1,.op 0 0),(2,.op 1 0),(3,.op 2 0),(4,.op 3 0),(5,.op 4 0),(6,.d (.fp [zan nx,zan pv] 0)),(7,.op 5 0),(8,.op 6 0),(12,.d (iD (a:Int)))]) (H':=[.cells [.d (iD ((t.c:Nat):Int))],.cells [.os 1 7 0 n],.cells [.os 1 8 0 n],.cells [.os 1 9 0 n],.cells [.os 1 10 0 t.stk.length],.cells [.clo (.func 46) [] [.op 0 0,.op 1 0,.op 2 0,.op 3 0,.op 4 0,.d (.fp [zan nx,zan pv] 0),.op 5 0,.op 6 0]],.cells [.os 1 11 0 t.out.length],.cells (avs (nsD t.num)),.cells (avs (nsD t.low)),.cells (avs (t.opn.map oD)),.cells (avs (nsD t.stk)),.cells (avs (fs2 (t.out.map nsD))),.free]) ?_ ?_
   ·refine Rt.trans (Rt.fr1) ?_
    refine zx1 ?_
    exact jd6
   refine zaj hp zam hc rfl fun K21 hK21=>?_
   refine zmf hmz ?_
   refine zk2 (ja7 (id:=10) (id':=12) (off:=a) (n:=m) (R:=t.stk) rfl rfl (by omega) (by omega) (by omega)) ?_
   refine zmf hmz ?_
   refine hK21 _ _ ?_
   refine szq hp (fun _ hZ=>zf0 hZ) ?_
   refine zab fun K23 hK23=>?_
   refine zba hp (τ':=frL [(0,.d (iD (v:Int))),(1,.op 0 0),(2,.op 1 0),(3,.op 2 0),(4,.op 3 0),(5,.op 4 0),(6,.d (.fp [zan nx,zan pv] 0)),(7,.op 5 0),(8,.op 6 0),(13,.os 1 12 0 m)]) (H':=[.cells [.d (iD ((t.c:Nat):Int))],.cells [.os 1 7 0 n],.cells [.os 1 8 0 n],.cells [.os 1 9 0 n],.cells [.os 1 10 0 a],.cells [.clo (.func 46) [] [.op 0 0,.op 1 0,.op 2 0,.op 3 0,.op 4 0,.d (.fp [zan nx,zan pv] 0),.op 5 0,.op 6 0]],.cells [.os 1 11 0 t.out.length],.cells (avs (nsD t.num)),.cells (avs (nsD t.low)),.cells (avs (t.opn.map oD)),.cells (avs (nsD (t.stk.take a))),.cells (avs (fs2 (t.out.map nsD))),.cells (avs (nsD cl))]) ?_ ?_
   ·refine Rt.trans (Rt.trim 10 a rfl) ?_
    refine zx1 ?_
    refine jl1 ?_;rw[hclt];simp only[zz2,jgy];rfl
   refine szq hp (fun _ hZ=>zf0 hZ) ?_
   refine zae ?_
   refine zao hp (fun τ' H' mm=>∃(i:Nat) (o:List Bool),(i≤cl.length∧o=(cl.take i).foldl (fun o w=>o.set w false) t.opn∧o.length=n)∧mm=cl.length - i∧H'=[.cells [.d (iD ((t.c:Nat):Int))],.cells [.os 1 7 0 n],.cells [.os 1 8 0 n],.cells [.os 1 9 0 n],.cells [.os 1 10 0 a],.cells [.clo (.func 46) [] [.op 0 0,.op 1 0,.op 2 0,.op 3 0,.op 4 0,.d (.fp [zan nx,zan pv] 0),.op 5 0,.op 6 0]],.cells [.os 1 11 0 t.out.length],.cells (avs (nsD t.num)),.cells (avs (nsD t.low)),.cells (avs (o.map oD)),.cells (avs (nsD (t.stk.take a))),.cells (avs (fs2 (t.out.map nsD))),.cells (avs (nsD cl))]∧τ'=frL [(0,.d (iD (v:Int))),(1,.op 0 0),(2,.op 1 0),(3,.op 2 0),(4,.op 3 0),(5,.op 4 0),(6,.d (.fp [zan nx,zan pv] 0)),(7,.op 5 0),(8,.op 6 0),(13,.os 1 12 0 m),(99,.os 1 12 0 m),(100,.d (iD (m:Int))),(101,.d (iD (i:Int)))]) (cl.length) ?_ ⟨0,t.opn,⟨Nat.zero_le _,rfl,hto⟩,rfl,rfl,rfl⟩ ?_
   ·refine zx1 ?_
    exact jd6
   rintro τ' H' mm ⟨i,o,⟨hi,hoi,hol2⟩,rfl,rfl,rfl⟩
   refine szq hp (fun _ hZ=>zf0 hZ) ?_
   refine zab fun K26 hK26=>?_
   refine zai rfl (fun ht=>?_) (fun ht=>?_)
   ·have hil:i<cl.length:=by simp at ht;omega
    obtain⟨w,hw⟩:∃w,w=nth cl i:=⟨_,rfl⟩
    have hwn:w<n:=by rw[hw];exact hlt3 _ (za3 hil)
    have hg9:(nsD cl)[i]? =some (iD (w:Int)):=by rw[zbf hil,hw]
    have hon:o.set w false=(cl.take (i+1)).foldl (fun o w=>o.set w false) t.opn:=by
     rw[zfo hil,List.foldl_append,←hoi,←hw];rfl
    clear hw
    refine zah (hK26 _ _ ?_)
    refine zab fun K27 hK27=>?_
    refine zae ?_
    refine szq hp (fun _ hZ=>zmf hg9 hZ) ?_
    refine za6 hp zam hc rfl fun K29 hK29=>?_
    simp -dsimp -implicitDefEqProofs (disch:=first|assumption|omega|(simp only[r_z,zad,zak,List.length_map]<;>omega)|decide) only[r_r,↓reduceIte,Nat.reduceEqDiff,Nat.reduceAdd,D.fix,Int.reduceToNat,Nat.reduceMul,Nat.reduceBNe,Nat.reduceBEq,zan,zhw,zx0]
    refine hK29 _ _ (hK27 _ _ ?_)
    refine za6 hp zam hc rfl fun K30 hK30=>?_
    refine zf0 ?_
    refine hK30 _ _ ⟨_,_,_,?_,⟨i+1,o.set w false,⟨by omega,hon,by rw[List.length_set];exact hol2⟩,rfl,rfl,rfl⟩,?_⟩
    ·first|omega|(simp only[List.length_cons];omega)|(dsimp only;omega)
    ·refine zx1 ?_
     exact jd6
   ·have hie:i=cl.length:=by simp at ht;omega
    rw[hie,List.take_length]at hoi
    replace hcl:=hcl.symm
    replace hm:=hm.symm
    replace ha:=ha.symm
    clear htj
    refine zat (hK23 _ _ ?_)
    refine zaj hp zam hc rfl fun K31 hK31=>?_
    refine zf0 ?_
    have hfz:fzV 12 (nsD (ze4 cl)) (.os 1 12 0 m)= .d (.fs (nsD (ze4 cl)) m):=zji (zbt (by rw[zad,zoc];omega))
    refine zk2 (jlz (R:=cl) rfl (by omega) hcll) ?_
    refine zf0 ?_
    refine hK31 _ _ ?_
    refine zba hp (τ':=frL [(0,.d (iD (v:Int))),(1,.op 0 0),(2,.op 1 0),(3,.op 2 0),(4,.op 3 0),(5,.op 4 0),(6,.d (.fp [zan nx,zan pv] 0)),(7,.op 5 0),(8,.op 6 0),(13,.d (.fs (nsD (ze4 cl)) m))]) (H':=[.cells [.d (iD ((t.c:Nat):Int))],.cells [.os 1 7 0 n],.cells [.os 1 8 0 n],.cells [.os 1 9 0 n],.cells [.os 1 10 0 a],.cells [.clo (.func 46) [] [.op 0 0,.op 1 0,.op 2 0,.op 3 0,.op 4 0,.d (.fp [zan nx,zan pv] 0),.op 5 0,.op 6 0]],.cells [.os 1 11 0 t.out.length],.cells (avs (nsD t.num)),.cells (avs (nsD t.low)),.cells (avs (o.map oD)),.cells (avs (nsD (t.stk.take a))),.cells (avs (fs2 (t.out.map nsD)))]) ?_ ?_
    ·refine Rt.trans (Rt.fz (id:=12) (l:=(nsD (ze4 cl))) rfl) ?_
     refine joc [0,1,2,3,4,5,6,7,8,9,10,11] ?_
     refine zx1 ?_
     exact jd6
    refine szs hp (fun _ hZ=>zf0 hZ) ?_
    try dsimp only[zcq,za7]
    refine⟨frL [],[.cells [.d (iD ((t.c:Nat):Int))],.cells [.os 1 7 0 n],.cells [.os 1 8 0 n],.cells [.os 1 9 0 n],.cells [.os 1 10 0 a],.cells [.clo (.func 46) [] [.op 0 0,.op 1 0,.op 2 0,.op 3 0,.op 4 0,.d (.fp [zan nx,zan pv] 0),.op 5 0,.op 6 0]],.cells [.os 1 11 0 (t.out++[ze4 cl]).length],.cells (avs (nsD t.num)),.cells (avs (nsD t.low)),.cells (avs (o.map oD)),.cells (avs (nsD (t.stk.take a))),.cells (avs (fs2 ((t.out++[ze4 cl]).map nsD)))],?_,?_⟩
    ·refine joc [0,1,2,3,4,5,6,7,8,9,10,13] ?_
     refine Rt.end (zal _) ?_
     refine jl1 ?_;rw[←zme,zoc,hcll,List.length_append];simp[avs];rfl
    first|refine zd3 rfl ?_|refine zdc rfl ?_
    show ∃_,_
    exact⟨jn5 a t,by rw[hfin],rfl,by rw[zjx,jn5,hcl,hoi,List.length_take,Nat.min_eq_left (Nat.le_of_lt hal)]⟩
end Go.Proofs.Ytfolbdkbpmgjgaa
