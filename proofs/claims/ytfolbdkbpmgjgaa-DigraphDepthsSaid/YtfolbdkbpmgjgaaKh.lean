/- A loop over the nodes that a search finds: its rounds, what comes behind it. -/
import Derived.Test.YtfolbdkbpmgjgaaQr
import Derived.Test.YtfolbdkbpmgjgaaKf
set_option linter.unusedVariables false
set_option linter.unusedSimpArgs false
set_option maxRecDepth 100000
set_option maxHeartbeats 4000000
namespace Go.Proofs.Ytfolbdkbpmgjgaa
open Go Go.RowKit
theorem jl8:(type_of% @zep):=@zep
theorem zv5(nx:List (List Nat))(st:Nat):zas Try.prog 43 [zam nx,iD (st:Int)] (.d (.clo (.func 57) [] [.fp [zam nx] 0,.fp [iD (st:Int)] 0])):=by
 refine zay (fn:=Try.f43) (by kernel_rfl) Try.func43 rfl (Nat.le_of_ble_eq_true rfl) fun c hc hp=>?_
 refine zat (τ':=frL [(0,.d (zam nx)),(1,.d (iD (st:Int)))]) (by repeat (first|exact zaj _|refine zac ?_ (by first|rfl|(simp[r_f,zah];done)|simp[r_f,zah, *]))) ?_
 refine zaf hp zao hc rfl fun K1 hK1=>?_
 simp -dsimp -implicitDefEqProofs (disch:=first|assumption|omega|(simp only[r_z,zah]<;>omega)|decide) only[r_r,↓reduceIte,Nat.reduceEqDiff,Nat.reduceAdd,D.fix,Int.reduceToNat,Nat.reduceMul,Nat.reduceBNe,Nat.reduceBEq,zam,jl8]
 refine hK1 _ _ ?_
 refine zaf hp zao hc rfl fun K2 hK2=>?_
 simp -dsimp -implicitDefEqProofs (disch:=first|assumption|omega|(simp only[r_z,zah]<;>omega)|decide) only[r_r,↓reduceIte,Nat.reduceEqDiff,Nat.reduceAdd,D.fix,Int.reduceToNat,Nat.reduceMul,Nat.reduceBNe,Nat.reduceBEq,zam]
 refine hK2 _ _ ?_
 refine zar ?_
 show closeA _ _=_
 simp (disch:=first|assumption|omega|(simp only[r_z,zah]<;>omega)|decide) only[r_c,Nat.reduceAdd,D.fix,↓reduceIte,Nat.reduceEqDiff,zam]
def is1(i:Nat):Bool:=decide (i=1)
mutual
theorem zzf{p q:Nat→Bool}(h:∀i,p i=true→q i=true):∀x:AV,x.allI p=true→x.allI q=true
 | .any,_=>rfl
 | .d _,_=>rfl
 | .os _ i _ _,k=>h i k
 | .op i _,k=>h i k
 | .om i,k=>h i k
 | .agg cs,k=>zd6 h cs k
 | .tup cs,k=>zd6 h cs k
 | .clo _ fi ca,k=>by
  rw[AV.allI,Bool.and_eq_true]at k ⊢
  exact⟨zd6 h fi k.1,zd6 h ca k.2⟩
theorem zd6{p q:Nat→Bool}(h:∀i,p i=true→q i=true):∀l:List AV,AV.allIs p l=true→AV.allIs q l=true
 |[],_=>rfl
 |x::l,k=>by
  rw[AV.allIs,Bool.and_eq_true]at k ⊢
  exact⟨zzf h x k.1,zd6 h l k.2⟩
end
theorem ji1(l:List AV)(h:AV.allIs is1 l=true):AV.allIs (ltI 4) l=true:=zd6 (fun i hi=>by simp[is1]at hi;subst hi;rfl) l h
theorem jo3{o:AObj}(h:o.allI is1=true)(l:List Nat):gcO (0::1::l) o=o:=jbw (fun i hi=>by simp[is1]at hi;subst hi;rfl) h
structure GrN (nx:List (List Nat)) (st:Nat):Prop where
 n:∀u,u<nx.length→∀x∈nth nx u,x<nx.length
 s:st<nx.length
 b:nx.length≤1000
 r:∀u,(nth nx u).length≤100000
theorem zot{τ:Fr}{k:Nat}(j:Nat)(x:AV)(h:((List.range k).map τ)[j]? =some x):τ j=x:=by
 rw[List.getElem?_map]at h
 obtain⟨i,hi,rfl⟩:=Option.map_eq_some_iff.1 h
 obtain⟨h1,h2⟩:=List.getElem?_eq_some_iff.1 hi
 rw[List.getElem_range]at h2;rw[h2]
def RoQ(b:Bool)(lq:AObj)(S:zaa):Exit→Fr→zaa→Prop:=fun e τ H=>∃τ1 H1,Rt [1] τ H τ1 H1∧H1=lq::S∧((e= .normal∧b=true)∨(e= .ret∧b=false))
theorem zlp{c:Cx}{τ:Fr}{g:Operand}{ps:Array Tmp}{assign body:Code}{Q:Exit→Fr→zaa→Prop}{n:Nat}{fr:List AV}{T:zaa}{sm:List Nat}{nx:List (List Nat)}{st:Nat}{o1 o2 o3:Nat→AObj}{bo:Nat→Bool}
  (ht:Top c) (hc0:Kp c sm) (hnt:c.nt=n) (hm:sm.all (okI [1] 4)=true) (hτ:∀t,(τ t).allI (okI [1] 4)=true) (hT:∀o∈T,o.allI (okI [1] 4)=true)
  (hg:zal τ g= .d (.clo (.func 57) [] [.fp [zam nx] 0,.fp [iD (st:Int)] 0])) (hfr:∀j x,fr[j]? =some x→τ j=x) (hfj:AV.allIs is1 fr=true) (h1:∀k,(o1 k).allI (ltI 4)=true) (h2:∀k,(o2 k).allI (ltI 4)=true) (h3:∀k,(o3 k).allI (ltI 4)=true)
  (hps:ps.size=2) (hpl:∀p∈ps.toList,p<n) (hN:GrN nx st)
  (hround:∀(lp lq:AObj),lp.allI is1=true→lq.allI is1=true→∀(k v:Nat) (q:List Nat),(bS nx st k).q=v::q→(∀j,j<k→bo j=true)→∀c:Cx,c.nt=n→Kp c [1]→
   AWp Try.prog c assign (zc8 (fun τ' H'=>H'=[lp,o1 k,o2 k,o3 k]∧AWp Try.prog c body (RoQ (bo k) lq [o1 (k+1),o2 (k+1),o3 (k+1)]) τ' [lq,o1 k,o2 k,o3 k]) fun _ _ _=>False) (zvc fr ps [.d (iD (v:Int)),.d (iD (((nth (bS nx st k).far v:Nat):Int) - 1))]) [lp,o1 k,o2 k,o3 k])
  (hend:∀k,(∀j,j<k→bo j=true∧(bS nx st j).q≠[])→(bS nx st k).q=[]→Q .normal τ (.dead::o1 k::o2 k::o3 k::T))
  (hret:∀k,(∀j,j<k→bo j=true∧(bS nx st j).q≠[])→(bS nx st k).q≠[]→bo k=false→Q .ret τ (.dead::o1 (k+1)::o2 (k+1)::o3 (k+1)::T)):
  AWp Try.prog c (.rangeFunc g ps assign body) Q τ (.free::o1 0::o2 0::o3 0::T):=by
 have hfi:=ji1 fr hfj
 refine zr5 (m:=[1]) (S:=[o1 0,o2 0,o3 0]) (T:=T) (gf:=57) (ca:=[.d (.fp [zam nx] 0),.d (.fp [iD (st:Int)] 0)]) (fr:=fr) ht hc0 hnt rfl hm hτ (fun o ho=>by
  simp only[List.mem_cons,List.not_mem_nil,or_false]at ho
  rcases ho with rfl|rfl|rfl
  ·exact h1 0
  ·exact h2 0
  ·exact h3 0) hT (by rw[hg];rfl) rfl hfr hfi fun l r hp has hbo hn=>?_
 obtain⟨lo,hlo⟩:∃lo:Bool→AObj,lo=fun b=>if b=true then .loop l (rst r .ready none) fr else .loop l (rst r .done (some .ret)) fr:=⟨_,rfl⟩
 have hl1:lo true= .loop l (rst r .ready none) fr:=by rw[hlo];rfl
 have hl2:lo false= .loop l (rst r .done (some .ret)) fr:=by rw[hlo];rfl
 have hl0:∀b,(lo b).allI (ltI 4)=true:=fun b=>by cases b with|true=>rw[hl1];exact hfi|false=>rw[hl2];exact hfi
 have hs:=jd9 nx st hN.n hN.s hN.b hN.r (l:=l) (o0:=lo) (o1:=o1) (o2:=o2) (o3:=o3) (bo:=bo) hl0 h1 h2 h3 (fun k v q hq hk=>by
  rw[hl1]
  refine jl1 (n:=n) hn hp (by rw[hps];rfl) hpl fun c2 hc2 hp2=>?_
  rw[has,hbo]
  refine zb3 (hround (.loop l (rst r .ready none) fr) (.loop l (rst r .busy none) fr) hfj hfj k v q hq hk c2 hc2 hp2) fun e τ' H' hh=>?_
  cases e with
  |normal=>
   obtain⟨e1,hb⟩:=hh
   rw[e1]
   refine⟨fr,rfl,zfj hp2 (zb3 hb fun e2 τ2 H2 ⟨τ3,H3,hr,e3,e4⟩=>⟨τ3,H3,hr,?_⟩)⟩
   rw[e3]
   rcases e4 with⟨e4,e5⟩|⟨e4,e5⟩
   ·rw[e4]
    exact⟨r,.busy,none,fr,rfl,by rw[e5],by rw[e5,hl1];rfl⟩
   ·rw[e4]
    exact⟨r,.busy,none,fr,rfl,by rw[e5],by rw[e5,hl2];rfl⟩
  |_=>exact hh.elim)
 rw[hl1]at hs
 refine ScS.mono hs fun x S' hS'=>?_
 obtain⟨k,hk,hq⟩:=hS'
 rcases hq with⟨hq,e⟩|⟨hq,hb,e⟩
 ·rw[e]
  exact⟨rfl,.ready,none,fr,rfl,by simp,hend k hk hq⟩
 ·rw[e,hl2]
  exact⟨rfl,.done,some .ret,fr,rfl,by simp,hret k hk hq hb⟩
theorem zjg(nx:List (List Nat))(m:Nat):∀(k:Nat) (s:Bf),ze8 nx (k+m) s=ze8 nx m (ze8 nx k s)
 |0,s=>by rw[Nat.zero_add];rfl
 |k+1,s=>by rw[show k+1+m=(k+m)+1 by omega,ze8,zjg nx m k];rfl
theorem zv6{nx:List (List Nat)}{st k:Nat}(h:GrN nx st)(hk:∀j,j<k→(bS nx st j).q≠[])(hq:(bS nx st k).q=[]):bS nx st k=zfl nx st:=by
 by_cases e:k≤nx.length
 ·rw[zfl,show nx.length=k+(nx.length - k) by omega,zjg,show ze8 nx k (zb0 (k+(nx.length - k)) st)=bS nx st k by rw[show k+(nx.length - k)=nx.length by omega];rfl,zh9 _ hq]
 ·exact absurd (zsc h.n h.s) (hk nx.length (by omega))
theorem zv7{nx:List (List Nat)}{st k v:Nat}{q:List Nat}(hq:(bS nx st k).q=v::q):(bS nx st (k+1)).out=(bS nx st k).out++[v]:=by rw[jk4,zli,hq];rfl
theorem zv8{nx:List (List Nat)}{st k:Nat}(h:GrN nx st):(bS nx st k).out.length≤nx.length:=by
 have:=zi8 (zoj h.n k (zi7 h.s))
 rw[List.length_append]at this
 show(ze8 nx k (zb0 nx.length st)).out.length≤_
 omega
/- Reach: what can be reached, sorted. -/
theorem ji2:(((type_of% @zcw)∧(type_of% @zcx))∧((type_of% @zmz)∧((type_of% @zu8)∧(type_of% @zdk)))):=⟨⟨@zcw,@zcx⟩,⟨@zmz,⟨@zu8,@zdk⟩⟩⟩
theorem jb2{l:List Nat}{n:Nat}(h:l.Pairwise (·<·))(hl:∀x∈l,x<n):l.length≤n:=zct (h.imp fun h=>Nat.ne_of_lt h) hl
theorem zq4{nx:List (List Nat)}{u:Nat}(h:¬u<nx.length):nth nx u=[]:=by unfold nth;rw[List.getD_eq_getElem?_getD,List.getElem?_eq_none (by omega)];rfl
theorem Gr.next{n st:Nat}{es:List Ed}(h:Gr n es)(hs:st<n):GrN (za1 n es) st:=by
 have hb:=h.b
 refine⟨fun u hu x hx=>by rw[zba]at hu ⊢;exact h.two.ni u hu x hx,by rw[zba];exact hs,by rw[zba];exact hb,fun u=>?_⟩
 by_cases hu:u<n
 ·have:=jb2 (zoo (es:=es) hu) (h.two.ni u hu);omega
 ·rw[zq4 (by rw[zba];exact hu)];simp
theorem Gr.prev{n st:Nat}{es:List Ed}(h:Gr n es)(hs:st<n):GrN (za9 n es) st:=by
 have hb:=h.b
 refine⟨fun u hu x hx=>by rw[zb9]at hu ⊢;exact h.two.pi u hu x hx,by rw[zb9];exact hs,by rw[zb9];exact hb,fun u=>?_⟩
 by_cases hu:u<n
 ·have:=jb2 (zop (es:=es) hu) (h.two.pi u hu);omega
 ·rw[zq4 (by rw[zb9];exact hu)];simp
def zv9(nx:List (List Nat))(st:Nat):List Int:=zb1 (zl (zfl nx st).out)
def zjh(n:Nat)(es:List Ed)(st:Int):List Int:=if 0≤st∧st<(n:Int)then zv9 (za1 n es) st.toNat else[]
theorem jea{p q:Prop}(hq:q)(h:p=q:=by
 conv=>lhs;simp -dsimp -implicitDefEqProofs (disch:=first|assumption|omega|(simp only[r_z,zbq,za5,zad]<;>omega)|decide) only[r_r,↓reduceIte,Nat.reduceEqDiff,Nat.reduceAdd,D.fix,Int.reduceToNat,Nat.reduceMul,Nat.reduceBNe,Nat.reduceBEq,intsD]):p:=h.mpr hq
theorem znd{p q:Prop}(hq:q)(h:p=q:=by
 conv=>lhs;simp -dsimp -implicitDefEqProofs (disch:=first|assumption|omega|(simp only[r_z,zbq,za5,zad]<;>omega)|decide) only[r_r,↓reduceIte,Nat.reduceEqDiff,Nat.reduceAdd,D.fix,Int.reduceToNat,Nat.reduceMul,Nat.reduceBNe,Nat.reduceBEq,intsD,ji2]):p:=h.mpr hq
theorem jk5{m:List Nat}{τ τ':Fr}{H H':zaa}(h2:H=H')(h:zgb τ τ':=by
 repeat (first|exact zaj _|refine zac ?_ (by first|rfl|(simp[r_f,zbq,za5,zad];done)|simp[r_f,zbq,za5,zad, *]))):Rt m τ H τ' H':=Rt.end h h2
theorem ji3{p q r:Prop}(e:r)(hq:q)(h:r→p=q:=by
 intro hY
 conv=>lhs;simp -dsimp -implicitDefEqProofs (disch:=first|assumption|omega|(simp only[r_z,zbq,za5,zad]<;>omega)|decide) only[r_r,↓reduceIte,Nat.reduceEqDiff,Nat.reduceAdd,D.fix,Int.reduceToNat,Nat.reduceMul,Nat.reduceBNe,Nat.reduceBEq,intsD,ji2,hY]):p:=(h e).mpr hq
theorem jn5{p q:Prop}(hq:q)(h:p=q:=by
 conv=>lhs;simp (disch:=first|assumption|omega|(simp only[r_z,zbq,za5,zad]<;>omega)|decide) only[r_c,Nat.reduceAdd,D.fix,↓reduceIte,Nat.reduceEqDiff,intsD]):p:=h.mpr hq
theorem jl9{p:Prop}(h:p:=by
 first|rfl|(simp only[r_g,Nat.reduceAdd,↓reduceIte,Nat.reduceEqDiff,intsD];first|done|rfl)):p:=h
theorem zwa(n:Nat)(es:List Ed)(h:Gr n es)(st:Int):zas Try.prog 24 [iD (n:Int),zan es,iD st] (.d (intsD (zjh n es st))):=by
 have hb:=h.b
 have hel:=h.l
 refine zfh (fn:=Try.f24) (by kernel_rfl) Try.func24 rfl (Nat.le_of_ble_eq_true rfl) fun c hc hp hTop=>?_
 refine zat (τ':=frL [(0,.d (iD (n:Int))),(1,.d (zan es)),(2,.d (iD st))]) (by repeat (first|exact zaj _|refine zac ?_ (by first|rfl|(simp[r_f,zbq,za5,zad];done)|simp[r_f,zbq,za5,zad, *]))) ?_
 refine szq hp (fun _ hZ=>jea hZ) ?_
 refine zab fun K2 hK2=>?_
 refine zaf hp zao hc rfl fun K3 hK3=>?_
 have hJ3:∀τ' H',(∃τ1 H1,∃(b:Bool),(b=true↔¬(0≤st∧st<(n:Int)))∧H1=[]∧τ1=frL [(0,.d (iD (n:Int))),(1,.d (zan es)),(2,.d (iD st)),(6,.d (.val (.slice none 0 0))),(15,.d (oD b))]∧Rt [] τ' H' τ1 H1)→K3 τ' H':=by
  rintro τ' H' ⟨_,_,b,hbb,rfl,rfl,hrt⟩
  refine hK3 _ _ (zbe hp hrt ?_)
  clear hrt
  refine zai rfl (fun ht=>?_) (fun ht=>?_)
  ·have hc0:¬(0≤st∧st<(n:Int)):=hbb.1 ht
   refine szq hp (fun _ hZ=>jea hZ) ?_
   refine zar ?_
   show closeA _ _=_
   refine jn5 ?_
   simp[zjh,hc0];done
  ·have hc0:0≤st∧st<(n:Int):=Classical.byContradiction fun hh=>by rw[hbb.2 hh]at ht;cases ht
   obtain⟨s,hs⟩:∃s:Nat,st=(s:Int):=⟨st.toNat,by omega⟩
   subst hs
   have hsn:s<n:=by omega
   obtain⟨nx,hnx⟩:∃nx,nx=za1 n es:=⟨_,rfl⟩
   have hN:GrN nx s:=by rw[hnx];exact h.next hsn
   refine zag (hK2 _ _ ?_)
   refine szq hp (fun _ hZ=>znd hZ) ?_
   refine zab fun K6 hK6=>?_
   refine zaf hp zao hc rfl fun K7 hK7=>?_
   refine znd ?_
   refine zbj (zjd h) rfl ?_
   refine znd ?_
   refine zbj (zv5 (za1 n es) s) rfl ?_
   refine znd ?_
   refine hK7 _ _ ?_
   refine zae ?_
   refine zbe hp (τ':=frL [(7,.op 1 0),(21,.d (.clo (.func 57) [] [.fp [zam nx] 0,.fp [iD (s:Int)] 0]))]) (H':=[.free,.cells [.os 1 2 0 0],.cells [],.free]) ?_ ?_
   ·refine Rt.trans (Rt.nilc 0 0 1 rfl rfl) ?_
    refine Rt.trans (Rt.fr1) ?_
    refine Rt.trans (Rt.fr1) ?_
    refine Rt.trans (Rt.gc (keep:=[2,0,1,3]) (by decide) (by decide) (by simp[fzH,gcH])) ?_
    refine jk5 ?_
    exact jl9
   refine zlp (n:=Try.f24.ntmps) (T:=[]) (o1:=fun k=>.cells [.os 1 2 0 (bS nx s k).out.length]) (o2:=fun k=>.cells (avs (nsD (bS nx s k).out))) (o3:=fun _=>.free) (bo:=fun _=>true) (nx:=nx) (st:=s) (fr:=[.any,.any,.any,.any,.any,.any,.any,.op 1 0]) hTop hp hc rfl (fun t=>zdc (by first|rfl|(simp[AV.allIs,AV.allI,za4,zau,zav,okI,ltI,zap,zbm];done)|(intro o ho;simp at ho;done)) t) (by first|rfl|(simp[AV.allIs,AV.allI,za4,zau,zav,okI,ltI,zap,zbm];done)|(intro o ho;simp at ho;done)) rfl (show ∀j x,((List.range 8).map (frL [(7,.op 1 0),(21,.d (.clo (.func 57) [] [.fp [zam nx] 0,.fp [iD (s:Int)] 0]))]))[j]? =some x→frL [(7,.op 1 0),(21,.d (.clo (.func 57) [] [.fp [zam nx] 0,.fp [iD (s:Int)] 0]))] j=x from zot) (by first|rfl|(simp[AV.allIs,AV.allI,za4,zau,zav,okI,ltI,zap,zbm];done)|(intro o ho;simp at ho;done)) (fun k=>(by first|rfl|(simp[AV.allIs,AV.allI,za4,zau,zav,okI,ltI,zap,zbm];done)|(intro o ho;simp at ho;done))) (fun k=>(by first|rfl|(simp[AV.allIs,AV.allI,za4,zau,zav,okI,ltI,zap,zbm];done)|(intro o ho;simp at ho;done))) (fun k=>(by first|rfl|(simp[AV.allIs,AV.allI,za4,zau,zav,okI,ltI,zap,zbm];done)|(intro o ho;simp at ho;done))) rfl (by decide) (hN) ?_ ?_ ?_
   ·intro lp lq hlp hlq k v q hq hk c2 hc2 hp2
    refine zat (τ':=frL [(7,.op 1 0),(22,.d (iD (v:Int)))]) (by repeat (first|exact zaj _|refine zac ?_ rfl)) ?_
    have hol:=zv8 (k:=k) hN
    have hnb:=hN.b
    have hout:=zv7 hq
    refine zbd hp2 zao hc2 rfl fun K8 hK8=>?_
    refine jea ?_
    refine hK8 _ _ ⟨rfl,?_⟩
    refine zae ?_
    refine zbd hp2 zao hc2 rfl fun K9 hK9=>?_
    refine znd ?_
    refine hK9 _ _ ?_
    try dsimp only[zc8,za7]
    refine⟨frL [(7,.op 1 0)],[lq,.cells [.os 1 2 0 (bS nx s (k+1)).out.length],.cells (avs (nsD (bS nx s (k+1)).out)),.free],?_,rfl,?_⟩
    ·refine Rt.trans (Rt.gc (keep:=[0,1,5,3]) (by decide) (by decide) (by simp[fzH,gcH])) ?_
     refine jk5 ?_
     simp only[r_g,Nat.reduceAdd,↓reduceIte,Nat.reduceEqDiff,intsD];simp only[jo3 hlq,hout,List.length_append,List.length_singleton];rw[←zjf];rfl
    exact .inl ⟨rfl,rfl⟩
   ·intro k hk hq
    have hfin:=zv6 hN (fun j hj=>(hk j hj).2) hq
    have hfl:=zv8 (k:=k) hN
    rw[hfin]at hfl
    have hnb:=hN.b
    simp only[hfin]
    refine(hK6 _ _ ?_)
    refine zaf hp zao hc rfl fun K10 hK10=>?_
    refine znd ?_
    refine zkl (zqv (l:=zl (zfl nx s).out) rfl (by rw[za5];omega) (za5 _)) ?_
    refine znd ?_
    refine hK10 _ _ ?_
    refine szq hp (fun _ hZ=>znd hZ) ?_
    refine zar ?_
    show closeA _ _=_
    refine jn5 ?_
    rw[zjh,if_pos hc0,zv9,Int.toNat_natCast,←hnx];simp[zbq,za5];done
   ·intro k hk hq hb
    exact absurd hb (by simp)
 rcases tf (decide (st<0))with q1|q1
 ·refine ji3 q1 ?_
  refine(hJ3 _ _ ⟨_,_,true,by simp at q1;simp;omega,rfl,rfl,?_⟩)
  refine jk5 ?_
  exact jl9
 ·refine ji3 q1 ?_
  refine(hJ3 _ _ ⟨_,_,decide ((n:Int)≤st),by simp at q1;simp;omega,rfl,rfl,?_⟩)
  refine jk5 ?_
  exact jl9
end Go.Proofs.Ytfolbdkbpmgjgaa
