/- The search from a node hands its nodes, with their distances, to a function of the caller. -/
import Derived.Test.YtfolbdkbpmgjgaaQr
import Derived.Test.YtfolbdkbpmgjgaaKe
set_option linter.unusedVariables false
set_option linter.unusedSimpArgs false
set_option maxRecDepth 100000
set_option maxHeartbeats 4000000
namespace Go.Proofs.Ytfolbdkbpmgjgaa
open Go Go.RowKit
theorem jlc:((((type_of% @ze3)∧(type_of% @zfx))∧((type_of% @zeh)∧(type_of% @zcy)))∧(((type_of% @zcz)∧(type_of% @zb8))∧((type_of% @zcl)∧((type_of% @zea)∧(type_of% @zeb))))):=⟨⟨⟨@ze3,@zfx⟩,⟨@zeh,@zcy⟩⟩,⟨⟨@zcz,@zb8⟩,⟨@zcl,⟨@zea,@zeb⟩⟩⟩⟩
def bS(nx:List (List Nat))(st k:Nat):Bf:=zfm nx k (zb6 nx.length st)
theorem jld(nx:List (List Nat)):∀(k:Nat) (s:Bf),zfm nx (k+1) s=zfl nx (zfm nx k s)
 |0,_=>rfl
 |k+1,s=>by rw[zfm,jld nx k (zfl nx s)];rfl
theorem jn6(nx:List (List Nat))(st k:Nat):bS nx st (k+1)=zfl nx (bS nx st k):=jld nx k _
theorem jau{d K:Nat}{s:Bf}{w:Nat}(hd:d≤K)(h:∀x,nth s.far x≤K)(x:Nat):nth (zd2 d s w).far x≤K:=by
 unfold zd2
 split
 ·show nth (s.far.set w d) x≤K
  by_cases e:w=x
  ·subst e
   by_cases hw:w<s.far.length
   ·rw[zaz hw];exact hd
   ·rw[List.set_eq_of_length_le (by omega)];exact h w
  ·rw[zax e];exact h x
 ·exact h x
theorem zl7{d K:Nat}(hd:d≤K):∀(r:List Nat) (s:Bf),(∀x,nth s.far x≤K)→∀x,nth (zdj d s r).far x≤K
 |[],_,h,x=>h x
 |w::r,s,h,x=>zl7 hd r _ (jau hd h) x
theorem zti(nx:List (List Nat))(st:Nat):∀k x,nth (bS nx st k).far x≤k+1
 |0,x=>by
  show nth ((List.replicate nx.length 0).set st 1) x≤1
  unfold nth
  rw[List.getD_eq_getElem?_getD,List.getElem?_set]
  split
  ·split<;>simp
  ·rw[List.getElem?_replicate];split<;>simp
 |k+1,x=>by
  rw[jn6,zfl]
  have ih:=zti nx st k
  split
  ·have:=ih x;omega
  ·exact zl7 (K:=k+1+1) (by have:=ih (nth (bS nx st k).far 0);rename_i v q e;have:=ih v;omega) _ _ (fun y=>by have:=ih y;show nth (bS nx st k).far y≤_;omega) x
theorem jf7(d:Nat)(s:Bf){r:List Nat}{j:Nat}(h:j<r.length):zdj d s (r.take (j+1))=zd2 d (zdj d s (r.take j)) (nth r j):=by
 unfold zdj;rw[zlq h,List.foldl_append];rfl
theorem zn8(d:Nat)(s:Bf):zdj d s []=s:=rfl
theorem jav(d:Nat)(s:Bf)(w:Nat):(zd2 d s w).far.length=s.far.length:=by unfold zd2;split<;>simp
theorem zr0(d:Nat):∀(r:List Nat) (s:Bf),(zdj d s r).far.length=s.far.length
 |[],_=>rfl
 |w::r,s=>by rw[show zdj d s (w::r)=zdj d (zd2 d s w) r from rfl,zr0 d r,jav]
theorem zbf{l:List Nat}{k:Nat}(h:k<l.length):(nsD l)[k]? =some (iD ((nth l k:Nat):Int)):=by
 rw[nsD,zbk (by rw[zbe];exact h),zjt]
theorem zxg(l:List Nat)(k x:Nat):(nsD l).set k (iD (x:Int))=nsD (l.set k x):=by rw[nsD,map_set,jk9];rfl
theorem zf8(l:List Nat)(x:Nat):nsD l++[iD (x:Int)]=nsD (l++[x]):=by rw[nsD,nsD,zw6,List.map_append];rfl
theorem jf8(l:List Nat)(k:Nat):(nsD l).drop k=nsD (l.drop k):=by rw[nsD,←List.map_drop,zw7];rfl
theorem zh8(n:Nat):nsD (List.replicate n 0)=List.replicate n (iD 0):=by rw[nsD,jla,List.map_replicate]
theorem jaw{l:List Nat}{p v:Nat}{q:List Nat}(h:l.drop p=v::q):p<l.length∧nth l p=v∧l.drop (p+1)=q:=by
 have hp:p<l.length:=by
  by_cases e:p<l.length
  ·exact e
  ·rw[List.drop_of_length_le (by omega)]at h;cases h
 rw[List.drop_eq_getElem_cons hp]at h
 injection h with h1 h2
 exact⟨hp,by rw[za5 hp];exact h1,h2⟩
theorem zl8{p q:Prop}(hq:q)(h:p=q:=by
 conv=>lhs;simp -dsimp -implicitDefEqProofs (disch:=first|assumption|omega|(simp only[r_z,zad,zak]<;>omega)|decide) only[r_r,↓reduceIte,Nat.reduceEqDiff,Nat.reduceAdd,D.fix,Int.reduceToNat,Nat.reduceMul,Nat.reduceBNe,Nat.reduceBEq,zan,jlc]):p:=h.mpr hq
theorem jle{m:List Nat}{τ τ':Fr}{H H':zaa}(h2:H=H')(h:zez τ τ':=by
 repeat (first|exact zal _|refine zaf ?_ (by first|rfl|(simp[r_f,zad,zak,zn8,List.take_zero];done)|simp[r_f,zad,zak,zn8,List.take_zero, *]))):Rt m τ H τ' H':=Rt.end h h2
theorem zpo{p q r:Prop}(e:r)(hq:q)(h:r→p=q:=by
 intro hY
 conv=>lhs;simp -dsimp -implicitDefEqProofs (disch:=first|assumption|omega|(simp only[r_z,zad,zak]<;>omega)|decide) only[r_r,↓reduceIte,Nat.reduceEqDiff,Nat.reduceAdd,D.fix,Int.reduceToNat,Nat.reduceMul,Nat.reduceBNe,Nat.reduceBEq,zan,jlc,hY]):p:=(h e).mpr hq
theorem jlf{p q:Prop}(hq:q)(h:p=q:=by
 conv=>lhs;simp only[r_g,Nat.reduceAdd,↓reduceIte,Nat.reduceEqDiff,zan]):p:=h.mpr hq
theorem jf9(nx:List (List Nat))(st:Nat)(hn:∀u,u<nx.length→∀x∈nth nx u,x<nx.length)(hs:st<nx.length)(hb:nx.length≤1000)(hrl:∀u,(nth nx u).length≤100000){l:Nat}{o0:Bool→AObj}{o1 o2 o3:Nat→AObj}{bo:Nat→Bool}(h0:∀b,(o0 b).allI (ltI 4)=true)(h1:∀k,(o1 k).allI (ltI 4)=true)(h2:∀k,(o2 k).allI (ltI 4)=true)(h3:∀k,(o3 k).allI (ltI 4)=true)(hY:∀k v q,(bS nx st k).q=v::q→(∀j,j<k→bo j=true)→YsS Try.prog [1] l [.d (iD (v:Int)),.d (iD (((nth (bS nx st k).far v:Nat):Int) - 1))] [o0 true,o1 k,o2 k,o3 k] fun x H'=>x= .d (.val (.bool (bo k)))∧H'=[o0 (bo k),o1 (k+1),o2 (k+1),o3 (k+1)]):ScS Try.prog [1] 57 [.d (.val (.func (.yield l) #[] #[])),.d (.fp [zan nx] 0),.d (.fp [iD (st:Int)] 0)] ([o0 true,o1 0,o2 0,o3 0]) (fun _ S'=>∃k,(∀j,j<k→bo j=true∧(bS nx st j).q≠[])∧(((bS nx st k).q=[]∧S'=[o0 true,o1 k,o2 k,o3 k])∨((bS nx st k).q≠[]∧bo k=false∧S'=[o0 false,o1 (k+1),o2 (k+1),o3 (k+1)]))):=by
 have g0:∀b l,gcO (0::1::2::3::l) (o0 b)=o0 b:=fun b l=>gc4 (h0 b) l
 have g1:∀k l,gcO (0::1::2::3::l) (o1 k)=o1 k:=fun k l=>gc4 (h1 k) l
 have g2:∀k l,gcO (0::1::2::3::l) (o2 k)=o2 k:=fun k l=>gc4 (h2 k) l
 have g3:∀k l,gcO (0::1::2::3::l) (o3 k)=o3 k:=fun k l=>gc4 (h3 k) l
 refine zgf (fn:=Try.f57) (by kernel_rfl) Try.func57 rfl (Nat.le_of_ble_eq_true rfl) fun c hc hp=>?_
 refine jfb ?_
 refine zfw hp ?_
 refine szq hp (fun _ hZ=>zl8 hZ) ?_
 refine szq hp (fun _ hZ=>zl8 hZ) ?_
 refine szq hp (fun _ hZ=>zl8 hZ) ?_
 refine zae ?_
 refine zao hp (fun τ' H' mm=>∃(k:Nat) (Q:List Nat) (p:Nat) (z:Nat),((∀j,j<k→bo j=true∧(bS nx st j).q≠[])∧Q.drop p=(bS nx st k).q∧p+z=Q.length∧Q.length≤1000∧k≤nx.length∧z=(bS nx st k).q.length)∧mm=nx.length - k∧H'=[o0 true,o1 k,o2 k,o3 k,.cells (avs (nsD (bS nx st k).far)),.cells (avs (nsD Q))]∧τ'=frL [(0,.d (.val (.func (.yield l) #[] #[]))),(1,.d (.fp [zan nx] 0)),(2,.d (.fp [iD (st:Int)] 0)),(4,.os 1 4 0 nx.length),(5,.os 1 5 p z)]) (nx.length) ?_ ⟨0,[st],0,1,⟨fun j hj=>absurd hj (Nat.not_lt_zero _),rfl,rfl,by simp,Nat.zero_le _,rfl⟩,rfl,rfl,rfl⟩ ?_
 ·refine jle ?_
  rw[show nsD (bS nx st 0).far=(List.replicate nx.length (iD 0)).set st (iD 1) from by rw[←zh8];exact(zxg _ st 1).symm];rfl
 rintro τ' H' mm ⟨k,Q,p,z,⟨hk,hQ,hpl,hQl,hkn,hz⟩,rfl,rfl,rfl⟩
 refine zab fun K4 hK4=>?_
 refine szq hp (fun _ hZ=>zl8 hZ) ?_
 refine zai rfl (fun ht=>?_) (fun ht=>?_)
 ·have hq0:(bS nx st k).q≠[]:=fun e=>by rw[hz,e]at ht;simp at ht
  obtain⟨s,hsk⟩:∃s,s=bS nx st k:=⟨_,rfl⟩
  have hbc:BfC nx st s:=by rw[hsk];exact zpg hn k (zjn hs)
  have hfl:∀x,nth s.far x≤k+1:=by rw[hsk];exact zti nx st k
  rw[←hsk]at hQ hz hq0
  obtain⟨v,q,hvq⟩:∃v q,s.q=v::q:=by cases e:s.q with|nil=>exact absurd e hq0|cons v q=>exact⟨v,q,rfl⟩
  have hol:s.out.length=k:=by
   have:=zpi (next:=nx) k (zb6 nx.length st)
   rw[show zfm nx k (zb6 nx.length st)=s from hsk.symm]at this
   rcases this with h|h
   ·exact absurd h hq0
   ·simpa[zb6]using h
  have hkl:k<nx.length:=by have:=zjo hbc;rw[List.length_append,hol,hvq,List.length_cons]at this;omega
  have hv:v<nx.length:=hbc.i.lt v (by rw[hvq];simp)
  have hfn:s.far.length=nx.length:=hbc.i.len
  rw[hvq]at hQ hz
  rw[←hsk,hz,List.length_cons]
  obtain⟨hp1,hp2,hp3⟩:=jaw hQ
  have hg1:(nsD Q)[p]? =some (iD (v:Int)):=by rw[zbf hp1,hp2]
  have hg2:(nsD s.far)[v]? =some (iD ((nth s.far v:Nat):Int)):=zbf (by omega)
  have hy:=hY k v q (by rw[←hsk];exact hvq) fun j hj=>(hk j hj).1
  rw[←hsk]at hy
  have hfv:=hfl v
  refine zah (hK4 _ _ ?_)
  refine zae ?_
  refine szq hp (fun _ hZ=>zpo hg1 hZ) ?_
  refine szq hp (fun _ hZ=>zl8 hZ) ?_
  refine zab fun K8 hK8=>?_
  refine zaj hp zam hc rfl fun K9 hK9=>?_
  refine zpo hg2 ?_
  refine jo2 (S:=[o0 true,o1 k,o2 k,o3 k]) (T:=[.cells (avs (nsD s.far)),.cells (avs (nsD Q))]) (hy) rfl (by first|rfl|(simp[AV.allIs,AV.allI,za9,za0,za1,okI,ltI,zar,zbq,h0,h1,h2,h3];done)|(intro o ho;simp at ho;done)) (fun t=>zdm (by first|rfl|(simp[AV.allIs,AV.allI,za9,za0,za1,okI,ltI,zar,zbq,h0,h1,h2,h3];done)|(intro o ho;simp at ho;done)) t) (by first|rfl|(simp[AV.allIs,AV.allI,za9,za0,za1,okI,ltI,zar,zbq,h0,h1,h2,h3];done)|(intro o ho;simp at ho;done)) (by first|rfl|(simp[AV.allIs,AV.allI,za9,za0,za1,okI,ltI,zar,zbq,h0,h1,h2,h3];done)|(intro o ho;simp at ho;done)) (by first|rfl|(simp[AV.allIs,AV.allI,za9,za0,za1,okI,ltI,zar,zbq,h0,h1,h2,h3];done)|(intro o ho;simp at ho;done)) ?_
  rintro _ _ ⟨rfl,rfl⟩
  refine⟨rfl,?_⟩
  refine zpo hg2 ?_
  refine hK9 _ _ ?_
  refine zai rfl (fun ht=>?_) (fun ht=>?_)
  ·have hbf:bo k=false:=by cases hbk:bo k with|false=>rfl|true=>rw[hbk]at ht;cases ht
   rw[hbf]
   refine zaq ?_
   try dsimp only[zcq,za7]
   refine⟨frL [],[o0 false,o1 (k+1),o2 (k+1),o3 (k+1)],?_,?_⟩
   ·refine Rt.trans (Rt.gc (keep:=[0,1,2,3]) (by decide) (by decide) (by simp[fzH,gcH])) ?_
    refine Rt.end (zal _) ?_
    refine jlf ?_;simp only[g0,g1,g2,g3]
   first|refine zd3 rfl ?_|refine zdc rfl ?_
   show ∃_,_
   exact⟨k,hk,.inr ⟨by rw[←hsk];exact hq0,hbf,rfl⟩⟩
  ·have hbt:bo k=true:=by cases hbk:bo k with|true=>rfl|false=>rw[hbk]at ht;cases ht
   rw[hbt]
   have hg3:=zcm hv
   obtain⟨row,hrow⟩:∃row,row=nth nx v:=⟨_,rfl⟩
   have hrw:∀x∈row,x<nx.length:=fun x hx=>hn v hv x (by rw[←hrow];exact hx)
   have hrl':row.length≤100000:=by rw[hrow];exact hrl v
   rw[←hrow]at hg3
   obtain⟨s0,hs0⟩:∃s0:Bf,s0=⟨s.far,q,s.out++[v]⟩:=⟨_,rfl⟩
   obtain⟨d,hd⟩:∃d,d=nth s.far v+1:=⟨_,rfl⟩
   have hnz:nth s.far v≠0:=(hbc.i.far v hv).2 (by rw[hvq];simp)
   have hdd:(((nth s.far v:Nat):Int)+1)=(d:Int):=by rw[hd];omega
   have hst:bS nx st (k+1)=zdj d s0 row:=by
    rw[jn6,←hsk,zfl,hvq,hd,hs0,hrow]
   have hfvj:∀j,nth (zdj d s0 (row.take j)).far v=nth s.far v:=fun j=>by
    rw[zjr]
    ·rw[hs0]
    ·rw[hs0];exact hnz
   have hflj:∀j,(zdj d s0 (row.take j)).far.length=nx.length:=fun j=>by rw[zr0,hs0];exact hfn
   have hfxj:∀j x,nth (zdj d s0 (row.take j)).far x≤k+2:=fun j=>zl7 (by omega) _ _ (fun x=>by rw[hs0];have:=hfl x;show nth s.far x≤_;omega)
   have hbm:∀j,BfM nx st v (row.take j) (zdj d s0 (row.take j)):=fun j=>by
    have:=zpf (d:=d) hn (by omega) (row.take j) [] s0 (by rw[hs0];exact jf3 hbc hvq) (fun w hw=>by rw[←hrow];exact List.mem_of_mem_take hw)
    simpa using this
   refine zah (hK8 _ _ ?_)
   refine szq hp (fun _ hZ=>zpo hg3 hZ) ?_
   refine zae ?_
   refine zao hp (fun τ' H' mm=>∃(j:Nat) (Q:List Nat) (p:Nat) (z:Nat),(j≤row.length∧Q.drop p=(zdj d s0 (row.take j)).q∧p+z=Q.length∧Q.length≤1000∧z=(zdj d s0 (row.take j)).q.length)∧mm=row.length - j∧H'=[o0 true,o1 (k+1),o2 (k+1),o3 (k+1),.cells (avs (nsD (zdj d s0 (row.take j)).far)),.cells (avs (nsD Q))]∧τ'=frL [(0,.d (.val (.func (.yield l) #[] #[]))),(1,.d (.fp [zan nx] 0)),(2,.d (.fp [iD (st:Int)] 0)),(4,.os 1 4 0 nx.length),(5,.os 1 5 p z),(6,.d (iD (v:Int))),(37,.d (.fs (nsD row) row.length)),(38,.d (iD (row.length:Int))),(39,.d (iD (j:Int)))]) (row.length) ?_ ⟨0,Q,p+1,q.length,⟨Nat.zero_le _,by rw[hp3,hs0];rfl,by rw[hz,List.length_cons]at hpl;omega,hQl,by rw[hs0];rfl⟩,rfl,rfl,rfl⟩ ?_
   ·refine jle ?_
    rw[hs0];rfl
   rintro τ' H' mm ⟨j,Q,p,z,⟨hj,hQ,hpl,hQl,hzz⟩,rfl,rfl,rfl⟩
   refine szq hp (fun _ hZ=>zl8 hZ) ?_
   refine zab fun K12 hK12=>?_
   refine zai rfl (fun ht=>?_) (fun ht=>?_)
   ·have hjl:j<row.length:=by simp at ht;omega
    have hps:=jf7 d s0 hjl
    obtain⟨sj,hsj⟩:∃sj,sj=zdj d s0 (row.take j):=⟨_,rfl⟩
    obtain⟨w,hw⟩:∃w,w=nth row j:=⟨_,rfl⟩
    have hwn:w<nx.length:=hrw w (by rw[hw];exact za3 hjl)
    have e1:=hfvj j
    have e2:=hflj j
    have e3:=hfxj j
    have e4:=hbm j
    rw[←hsj]at hQ hzz hps e1 e2 e3 e4
    rw[←hsj]
    rw[←hw]at hps
    have hfw:=e3 w
    have hql:=zjo (s:=sj) (next:=nx) (start:=st)
    have hg4:(nsD row)[j]? =some (iD (w:Int)):=by rw[zbf hjl,hw]
    have hg5:(nsD sj.far)[w]? =some (iD ((nth sj.far w:Nat):Int)):=zbf (by omega)
    have hg6:(nsD sj.far)[v]? =some (iD ((nth s.far v:Nat):Int)):=by rw[zbf (by omega),e1]
    have hg7:(nsD sj.far).set w (.val (.int .i64 (d:Int)))=nsD (sj.far.set w d):=zxg _ _ _
    refine zah (hK12 _ _ ?_)
    refine zab fun K13 hK13=>?_
    refine zae ?_
    refine szq hp (fun _ hZ=>zpo hg4 hZ) ?_
    refine szq hp (fun _ hZ=>zpo hg5 hZ) ?_
    refine zai rfl (fun ht=>?_) (fun ht=>?_)
    ·have hz:nth sj.far w=0:=by simp at ht;omega
     have hpw:zd2 d sj w=⟨sj.far.set w d,sj.q++[w],sj.out⟩:=if_pos hz
     have hql:sj.q.length+1≤nx.length:=by
      have hnm:w∉sj.out++sj.q:=fun m=>((e4.i.far w hwn).2 m) hz
      have h1:=zcr (n:=nx.length) (l:=w::(sj.out++sj.q)) (List.nodup_cons.2 ⟨hnm,e4.i.nd⟩) fun x hx=>(List.mem_cons.1 hx).elim (fun e=>e▸hwn) (e4.i.lt x)
      simp at h1;omega
     refine szq hp (fun _ hZ=>zpo (sza hg6 (sza hdd hg7)) hZ) ?_
     refine szs hp (fun _ hZ=>zl8 hZ) (hK13 _ _ ?_)
     refine za6 hp zam hc rfl fun K18 hK18=>?_
     refine zl8 ?_
     refine hK18 _ _ ⟨_,_,_,?_,⟨j+1,sj.q++[w],0,z+1,⟨by omega,by rw[hps,hpw];rfl,by rw[List.length_append,hzz];simp,by rw[List.length_append,List.length_singleton];omega,by rw[hps,hpw,List.length_append,hzz];rfl⟩,rfl,rfl,rfl⟩,?_⟩
     ·first|omega|(simp only[List.length_cons];omega)|(dsimp only;omega)
     ·refine Rt.trans (Rt.gc (keep:=[0,1,2,3,4,7]) (by decide) (by decide) (by simp[fzH,gcH])) ?_
      refine jle ?_
      refine jlf ?_;simp only[g0,g1,g2,g3];rw[hps,hpw,jf8,hQ,show(D.val (.int .i64 (w:Int)))=iD (w:Int) from rfl,zf8]
    ·have hz:nth sj.far w≠0:=fun e=>by rw[e]at ht;simp at ht
     have hpw:zd2 d sj w=sj:=if_neg hz
     refine zah (hK13 _ _ ?_)
     refine za6 hp zam hc rfl fun K19 hK19=>?_
     refine zl8 ?_
     refine hK19 _ _ ⟨_,_,_,?_,⟨j+1,Q,p,z,⟨by omega,by rw[hps,hpw];exact hQ,hpl,hQl,by rw[hps,hpw];exact hzz⟩,rfl,rfl,rfl⟩,?_⟩
     ·first|omega|(simp only[List.length_cons];omega)|(dsimp only;omega)
     ·refine jle ?_
      refine jlf ?_;rw[hps,hpw]
   ·have hje:j=row.length:=by simp at ht;omega
    rw[hje,List.take_length]at hQ hzz
    rw[hje,List.take_length]
    refine zat ⟨_,_,_,?_,⟨k+1,Q,p,z,⟨fun i hi=>(Nat.lt_or_eq_of_le (Nat.le_of_lt_succ hi)).elim (hk i) (fun e=>by rw[e,←hsk];exact⟨hbt,hq0⟩),by rw[hst];exact hQ,hpl,hQl,by omega,by rw[hst];exact hzz⟩,rfl,rfl,rfl⟩,?_⟩
    ·first|omega|(simp only[List.length_cons];omega)|(dsimp only;omega)
    ·refine jle ?_
     refine jlf ?_;rw[hst]
 ·have hq0:(bS nx st k).q=[]:=by
   cases e:(bS nx st k).q with
   |nil=>rfl
   |cons v q=>rw[hz,e]at ht;simp at ht
  refine zat ?_
  try dsimp only[zcq,za7]
  refine⟨frL [],[o0 true,o1 k,o2 k,o3 k],?_,?_⟩
  ·refine Rt.trans (Rt.gc (keep:=[0,1,2,3]) (by decide) (by decide) (by simp[fzH,gcH])) ?_
   refine Rt.end (zal _) ?_
   refine jlf ?_;simp only[g0,g1,g2,g3]
  first|refine zd3 rfl ?_|refine zdc rfl ?_
  show ∃_,_
  exact⟨k,hk,.inl ⟨hq0,rfl⟩⟩
end Go.Proofs.Ytfolbdkbpmgjgaa
