/- A loop over the nodes that a search finds: its rounds, what comes behind it. -/
import Derived.Test.YtfolbdkbpmgjgaaQr
import Derived.Test.YtfolbdkbpmgjgaaKf
set_option linter.unusedVariables false
set_option linter.unusedSimpArgs false
set_option maxRecDepth 100000
set_option maxHeartbeats 4000000
namespace Go.Proofs.Ytfolbdkbpmgjgaa
open Go Go.RowKit
theorem jpc:(type_of% @ze3):=@ze3
theorem zxh(nx:List (List Nat))(st:Nat):zas Try.prog 43 [zan nx,iD (st:Int)] (.d (.clo (.func 57) [] [.fp [zan nx] 0,.fp [iD (st:Int)] 0])):=by
 refine zau (fn:=Try.f43) (by kernel_rfl) Try.func43 rfl (Nat.le_of_ble_eq_true rfl) fun c hc hp=>?_
 refine zaw (τ':=frL [(0,.d (zan nx)),(1,.d (iD (st:Int)))]) (by repeat (first|exact zal _|refine zaf ?_ (by first|rfl|(simp[r_f,zak];done)|simp[r_f,zak, *]))) ?_
 refine zaj hp zam hc rfl fun K1 hK1=>?_
 simp -dsimp -implicitDefEqProofs (disch:=first|assumption|omega|(simp only[r_z,zak]<;>omega)|decide) only[r_r,↓reduceIte,Nat.reduceEqDiff,Nat.reduceAdd,D.fix,Int.reduceToNat,Nat.reduceMul,Nat.reduceBNe,Nat.reduceBEq,zan,jpc]
 refine hK1 _ _ ?_
 refine zaj hp zam hc rfl fun K2 hK2=>?_
 simp -dsimp -implicitDefEqProofs (disch:=first|assumption|omega|(simp only[r_z,zak]<;>omega)|decide) only[r_r,↓reduceIte,Nat.reduceEqDiff,Nat.reduceAdd,D.fix,Int.reduceToNat,Nat.reduceMul,Nat.reduceBNe,Nat.reduceBEq,zan]
 refine hK2 _ _ ?_
 refine zaq ?_
 show closeA _ _=_
 simp (disch:=first|assumption|omega|(simp only[r_z,zak]<;>omega)|decide) only[r_c,Nat.reduceAdd,D.fix,↓reduceIte,Nat.reduceEqDiff,zan]
def is1(i:Nat):Bool:=decide (i=1)
mutual
theorem jax{p q:Nat→Bool}(h:∀i,p i=true→q i=true):∀x:AV,x.allI p=true→x.allI q=true
 | .any,_=>rfl
 | .d _,_=>rfl
 | .os _ i _ _,k=>h i k
 | .op i _,k=>h i k
 | .om i,k=>h i k
 | .agg cs,k=>zek h cs k
 | .tup cs,k=>zek h cs k
 | .clo _ fi ca,k=>by
  rw[AV.allI,Bool.and_eq_true]at k ⊢
  exact⟨zek h fi k.1,zek h ca k.2⟩
theorem zek{p q:Nat→Bool}(h:∀i,p i=true→q i=true):∀l:List AV,AV.allIs p l=true→AV.allIs q l=true
 |[],_=>rfl
 |x::l,k=>by
  rw[AV.allIs,Bool.and_eq_true]at k ⊢
  exact⟨jax h x k.1,zek h l k.2⟩
end
theorem jlg(l:List AV)(h:AV.allIs is1 l=true):AV.allIs (ltI 4) l=true:=zek (fun i hi=>by simp[is1]at hi;subst hi;rfl) l h
theorem jsk{o:AObj}(h:o.allI is1=true)(l:List Nat):gcO (0::1::l) o=o:=jdv (fun i hi=>by simp[is1]at hi;subst hi;rfl) h
structure GrN (nx:List (List Nat)) (st:Nat):Prop where
 n:∀u,u<nx.length→∀x∈nth nx u,x<nx.length
 s:st<nx.length
 b:nx.length≤1000
 r:∀u,(nth nx u).length≤100000
theorem zpp{τ:Fr}{k:Nat}(j:Nat)(x:AV)(h:((List.range k).map τ)[j]? =some x):τ j=x:=by
 rw[List.getElem?_map]at h
 obtain⟨i,hi,rfl⟩:=Option.map_eq_some_iff.1 h
 obtain⟨h1,h2⟩:=List.getElem?_eq_some_iff.1 hi
 rw[List.getElem_range]at h2;rw[h2]
def RoQ(b:Bool)(lq:AObj)(S:zaa):Exit→Fr→zaa→Prop:=fun e τ H=>∃τ1 H1,Rt [1] τ H τ1 H1∧H1=lq::S∧((e= .normal∧b=true)∨(e= .ret∧b=false))
theorem zl9{c:Cx}{τ:Fr}{g:Operand}{ps:Array Tmp}{assign body:Code}{Q:Exit→Fr→zaa→Prop}{n:Nat}{fr:List AV}{T:zaa}{sm:List Nat}{nx:List (List Nat)}{st:Nat}{o1 o2 o3:Nat→AObj}{bo:Nat→Bool}
  (ht:Top c) (hc0:Kp c sm) (hnt:c.nt=n) (hm:sm.all (okI [1] 4)=true) (hτ:∀t,(τ t).allI (okI [1] 4)=true) (hT:∀o∈T,o.allI (okI [1] 4)=true)
  (hg:zap τ g= .d (.clo (.func 57) [] [.fp [zan nx] 0,.fp [iD (st:Int)] 0])) (hfr:∀j x,fr[j]? =some x→τ j=x) (hfj:AV.allIs is1 fr=true) (h1:∀k,(o1 k).allI (ltI 4)=true) (h2:∀k,(o2 k).allI (ltI 4)=true) (h3:∀k,(o3 k).allI (ltI 4)=true)
  (hps:ps.size=2) (hpl:∀p∈ps.toList,p<n) (hN:GrN nx st)
  (hround:∀(lp lq:AObj),lp.allI is1=true→lq.allI is1=true→∀(k v:Nat) (q:List Nat),(bS nx st k).q=v::q→(∀j,j<k→bo j=true)→∀c:Cx,c.nt=n→Kp c [1]→
   AWp Try.prog c assign (zcq (fun τ' H'=>H'=[lp,o1 k,o2 k,o3 k]∧AWp Try.prog c body (RoQ (bo k) lq [o1 (k+1),o2 (k+1),o3 (k+1)]) τ' [lq,o1 k,o2 k,o3 k]) fun _ _ _=>False) (zws fr ps [.d (iD (v:Int)),.d (iD (((nth (bS nx st k).far v:Nat):Int) - 1))]) [lp,o1 k,o2 k,o3 k])
  (hend:∀k,(∀j,j<k→bo j=true∧(bS nx st j).q≠[])→(bS nx st k).q=[]→Q .normal τ (.dead::o1 k::o2 k::o3 k::T))
  (hret:∀k,(∀j,j<k→bo j=true∧(bS nx st j).q≠[])→(bS nx st k).q≠[]→bo k=false→Q .ret τ (.dead::o1 (k+1)::o2 (k+1)::o3 (k+1)::T)):
  AWp Try.prog c (.rangeFunc g ps assign body) Q τ (.free::o1 0::o2 0::o3 0::T):=by
 have hfi:=jlg fr hfj
 refine zs7 (m:=[1]) (S:=[o1 0,o2 0,o3 0]) (T:=T) (gf:=57) (ca:=[.d (.fp [zan nx] 0),.d (.fp [iD (st:Int)] 0)]) (fr:=fr) ht hc0 hnt rfl hm hτ (fun o ho=>by
  simp only[List.mem_cons,List.not_mem_nil,or_false]at ho
  rcases ho with rfl|rfl|rfl
  ·exact h1 0
  ·exact h2 0
  ·exact h3 0) hT (by rw[hg];rfl) rfl hfr hfi fun l r hp has hbo hn=>?_
 obtain⟨lo,hlo⟩:∃lo:Bool→AObj,lo=fun b=>if b=true then .loop l (rst r .ready none) fr else .loop l (rst r .done (some .ret)) fr:=⟨_,rfl⟩
 have hl1:lo true= .loop l (rst r .ready none) fr:=by rw[hlo];rfl
 have hl2:lo false= .loop l (rst r .done (some .ret)) fr:=by rw[hlo];rfl
 have hl0:∀b,(lo b).allI (ltI 4)=true:=fun b=>by cases b with|true=>rw[hl1];exact hfi|false=>rw[hl2];exact hfi
 have hs:=jf9 nx st hN.n hN.s hN.b hN.r (l:=l) (o0:=lo) (o1:=o1) (o2:=o2) (o3:=o3) (bo:=bo) hl0 h1 h2 h3 (fun k v q hq hk=>by
  rw[hl1]
  refine jo5 (n:=n) hn hp (by rw[hps];rfl) hpl fun c2 hc2 hp2=>?_
  rw[has,hbo]
  refine zcd (hround (.loop l (rst r .ready none) fr) (.loop l (rst r .busy none) fr) hfj hfj k v q hq hk c2 hc2 hp2) fun e τ' H' hh=>?_
  cases e with
  |normal=>
   obtain⟨e1,hb⟩:=hh
   rw[e1]
   refine⟨fr,rfl,zfw hp2 (zcd hb fun e2 τ2 H2 ⟨τ3,H3,hr,e3,e4⟩=>⟨τ3,H3,hr,?_⟩)⟩
   rw[e3]
   rcases e4 with⟨e4,e5⟩|⟨e4,e5⟩
   ·rw[e4]
    exact⟨r,.busy,none,fr,rfl,by rw[e5],by rw[e5,hl1];rfl⟩
   ·rw[e4]
    exact⟨r,.busy,none,fr,rfl,by rw[e5],by rw[e5,hl2];rfl⟩
  |_=>exact hh.elim)
 rw[hl1]at hs
 refine ScS.mono hs fun x S' hS'=>?_
 obtain⟨k,hk,hq⟩:=hS'
 rcases hq with⟨hq,e⟩|⟨hq,hb,e⟩
 ·rw[e]
  exact⟨rfl,.ready,none,fr,rfl,by simp,hend k hk hq⟩
 ·rw[e,hl2]
  exact⟨rfl,.done,some .ret,fr,rfl,by simp,hret k hk hq hb⟩
theorem zjw(nx:List (List Nat))(m:Nat):∀(k:Nat) (s:Bf),zfm nx (k+m) s=zfm nx m (zfm nx k s)
 |0,s=>by rw[Nat.zero_add];rfl
 |k+1,s=>by rw[show k+1+m=(k+m)+1 by omega,zfm,zjw nx m k];rfl
theorem zxi{nx:List (List Nat)}{st k:Nat}(h:GrN nx st)(hk:∀j,j<k→(bS nx st j).q≠[])(hq:(bS nx st k).q=[]):bS nx st k=zew nx st:=by
 by_cases e:k≤nx.length
 ·rw[zew,show nx.length=k+(nx.length - k) by omega,zjw,show zfm nx k (zb6 (k+(nx.length - k)) st)=bS nx st k by rw[show k+(nx.length - k)=nx.length by omega];rfl,zio _ hq]
 ·exact absurd (zn2 h.n h.s) (hk nx.length (by omega))
theorem zxj{nx:List (List Nat)}{st k v:Nat}{q:List Nat}(hq:(bS nx st k).q=v::q):(bS nx st (k+1)).out=(bS nx st k).out++[v]:=by rw[jn6,zl1,hq];rfl
theorem zxk{nx:List (List Nat)}{st k:Nat}(h:GrN nx st):(bS nx st k).out.length≤nx.length:=by
 have:=zjo (zpg h.n k (zjn h.s))
 rw[List.length_append]at this
 show(zfm nx k (zb6 nx.length st)).out.length≤_
 omega
/- Reach: what can be reached, sorted. -/
theorem jlh:(((type_of% @zcy)∧(type_of% @zcz))∧((type_of% @znm)∧((type_of% @zwo)∧(type_of% @zcl)))):=⟨⟨@zcy,@zcz⟩,⟨@znm,⟨@zwo,@zcl⟩⟩⟩
theorem jd1{l:List Nat}{n:Nat}(h:l.Pairwise (·<·))(hl:∀x∈l,x<n):l.length≤n:=zcr (h.imp fun h=>Nat.ne_of_lt h) hl
theorem zr1{nx:List (List Nat)}{u:Nat}(h:¬u<nx.length):nth nx u=[]:=by unfold nth;rw[List.getD_eq_getElem?_getD,List.getElem?_eq_none (by omega)];rfl
theorem Gr.next{n st:Nat}{es:List Ed}(h:Gr n es)(hs:st<n):GrN (zav n es) st:=by
 have hb:=h.b
 refine⟨fun u hu x hx=>by rw[zbb]at hu ⊢;exact h.two.ni u hu x hx,by rw[zbb];exact hs,by rw[zbb];exact hb,fun u=>?_⟩
 by_cases hu:u<n
 ·have:=jd1 (zl5 (es:=es) hu) (h.two.ni u hu);omega
 ·rw[zr1 (by rw[zbb];exact hu)];simp
theorem Gr.prev{n st:Nat}{es:List Ed}(h:Gr n es)(hs:st<n):GrN (zay n es) st:=by
 have hb:=h.b
 refine⟨fun u hu x hx=>by rw[zcj]at hu ⊢;exact h.two.pi u hu x hx,by rw[zcj];exact hs,by rw[zcj];exact hb,fun u=>?_⟩
 by_cases hu:u<n
 ·have:=jd1 (zpk (es:=es) hu) (h.two.pi u hu);omega
 ·rw[zr1 (by rw[zcj];exact hu)];simp
def zxl(nx:List (List Nat))(st:Nat):List Int:=zcb (zl (zew nx st).out)
def ze1(n:Nat)(es:List Ed)(st:Int):List Int:=if 0≤st∧st<(n:Int)then zxl (zav n es) st.toNat else[]
theorem jga{p q:Prop}(hq:q)(h:p=q:=by
 conv=>lhs;simp -dsimp -implicitDefEqProofs (disch:=first|assumption|omega|(simp only[r_z,zbv,zbe,zad]<;>omega)|decide) only[r_r,↓reduceIte,Nat.reduceEqDiff,Nat.reduceAdd,D.fix,Int.reduceToNat,Nat.reduceMul,Nat.reduceBNe,Nat.reduceBEq,intsD]):p:=h.mpr hq
theorem zn9{p q:Prop}(hq:q)(h:p=q:=by
 conv=>lhs;simp -dsimp -implicitDefEqProofs (disch:=first|assumption|omega|(simp only[r_z,zbv,zbe,zad]<;>omega)|decide) only[r_r,↓reduceIte,Nat.reduceEqDiff,Nat.reduceAdd,D.fix,Int.reduceToNat,Nat.reduceMul,Nat.reduceBNe,Nat.reduceBEq,intsD,jlh]):p:=h.mpr hq
theorem jn7{m:List Nat}{τ τ':Fr}{H H':zaa}(h2:H=H')(h:zez τ τ':=by
 repeat (first|exact zal _|refine zaf ?_ (by first|rfl|(simp[r_f,zbv,zbe,zad];done)|simp[r_f,zbv,zbe,zad, *]))):Rt m τ H τ' H':=Rt.end h h2
theorem jli{p q r:Prop}(e:r)(hq:q)(h:r→p=q:=by
 intro hY
 conv=>lhs;simp -dsimp -implicitDefEqProofs (disch:=first|assumption|omega|(simp only[r_z,zbv,zbe,zad]<;>omega)|decide) only[r_r,↓reduceIte,Nat.reduceEqDiff,Nat.reduceAdd,D.fix,Int.reduceToNat,Nat.reduceMul,Nat.reduceBNe,Nat.reduceBEq,intsD,jlh,hY]):p:=(h e).mpr hq
theorem jrj{p q:Prop}(hq:q)(h:p=q:=by
 conv=>lhs;simp (disch:=first|assumption|omega|(simp only[r_z,zbv,zbe,zad]<;>omega)|decide) only[r_c,Nat.reduceAdd,D.fix,↓reduceIte,Nat.reduceEqDiff,intsD]):p:=h.mpr hq
theorem jpd{p:Prop}(h:p:=by
 first|rfl|(simp only[r_g,Nat.reduceAdd,↓reduceIte,Nat.reduceEqDiff,intsD];first|done|rfl)):p:=h
theorem zpq(n:Nat)(es:List Ed)(h:Gr n es)(st:Int):zas Try.prog 24 [iD (n:Int),zag es,iD st] (.d (intsD (ze1 n es st))):=by
 have hb:=h.b
 have hel:=h.l
 refine zfu (fn:=Try.f24) (by kernel_rfl) Try.func24 rfl (Nat.le_of_ble_eq_true rfl) fun c hc hp hTop=>?_
 refine zaw (τ':=frL [(0,.d (iD (n:Int))),(1,.d (zag es)),(2,.d (iD st))]) (by repeat (first|exact zal _|refine zaf ?_ (by first|rfl|(simp[r_f,zbv,zbe,zad];done)|simp[r_f,zbv,zbe,zad, *]))) ?_
 refine szq hp (fun _ hZ=>jga hZ) ?_
 refine zab fun K2 hK2=>?_
 refine zaj hp zam hc rfl fun K3 hK3=>?_
 have hJ3:∀τ' H',(∃τ1 H1,∃(b:Bool),(b=true↔¬(0≤st∧st<(n:Int)))∧H1=[]∧τ1=frL [(0,.d (iD (n:Int))),(1,.d (zag es)),(2,.d (iD st)),(6,.d (.val (.slice none 0 0))),(15,.d (oD b))]∧Rt [] τ' H' τ1 H1)→K3 τ' H':=by
  rintro τ' H' ⟨_,_,b,hbb,rfl,rfl,hrt⟩
  refine hK3 _ _ (zba hp hrt ?_)
  clear hrt
  refine zai rfl (fun ht=>?_) (fun ht=>?_)
  ·have hc0:¬(0≤st∧st<(n:Int)):=hbb.1 ht
   refine szq hp (fun _ hZ=>jga hZ) ?_
   refine zaq ?_
   show closeA _ _=_
   refine jrj ?_
   simp[ze1,hc0];done
  ·have hc0:0≤st∧st<(n:Int):=Classical.byContradiction fun hh=>by rw[hbb.2 hh]at ht;cases ht
   obtain⟨s,hs⟩:∃s:Nat,st=(s:Int):=⟨st.toNat,by omega⟩
   subst hs
   have hsn:s<n:=by omega
   obtain⟨nx,hnx⟩:∃nx,nx=zav n es:=⟨_,rfl⟩
   have hN:GrN nx s:=by rw[hnx];exact h.next hsn
   refine zah (hK2 _ _ ?_)
   refine szq hp (fun _ hZ=>zn9 hZ) ?_
   refine zab fun K6 hK6=>?_
   refine zaj hp zam hc rfl fun K7 hK7=>?_
   refine zn9 ?_
   refine zbd (zju h) rfl ?_
   refine zn9 ?_
   refine zbd (zxh (zav n es) s) rfl ?_
   refine zn9 ?_
   refine hK7 _ _ ?_
   refine zae ?_
   refine zba hp (τ':=frL [(7,.op 1 0),(21,.d (.clo (.func 57) [] [.fp [zan nx] 0,.fp [iD (s:Int)] 0]))]) (H':=[.free,.cells [.os 1 2 0 0],.cells [],.free]) ?_ ?_
   ·refine Rt.trans (Rt.nilc 0 0 1 rfl rfl) ?_
    refine Rt.trans (Rt.fr1) ?_
    refine Rt.trans (Rt.fr1) ?_
    refine Rt.trans (Rt.gc (keep:=[2,0,1,3]) (by decide) (by decide) (by simp[fzH,gcH])) ?_
    refine jn7 ?_
    exact jpd
   refine zl9 (n:=Try.f24.ntmps) (T:=[]) (o1:=fun k=>.cells [.os 1 2 0 (bS nx s k).out.length]) (o2:=fun k=>.cells (avs (nsD (bS nx s k).out))) (o3:=fun _=>.free) (bo:=fun _=>true) (nx:=nx) (st:=s) (fr:=[.any,.any,.any,.any,.any,.any,.any,.op 1 0]) hTop hp hc rfl (fun t=>zdm (by first|rfl|(simp[AV.allIs,AV.allI,za9,za0,za1,okI,ltI,zar,zbq];done)|(intro o ho;simp at ho;done)) t) (by first|rfl|(simp[AV.allIs,AV.allI,za9,za0,za1,okI,ltI,zar,zbq];done)|(intro o ho;simp at ho;done)) rfl (show ∀j x,((List.range 8).map (frL [(7,.op 1 0),(21,.d (.clo (.func 57) [] [.fp [zan nx] 0,.fp [iD (s:Int)] 0]))]))[j]? =some x→frL [(7,.op 1 0),(21,.d (.clo (.func 57) [] [.fp [zan nx] 0,.fp [iD (s:Int)] 0]))] j=x from zpp) (by first|rfl|(simp[AV.allIs,AV.allI,za9,za0,za1,okI,ltI,zar,zbq];done)|(intro o ho;simp at ho;done)) (fun k=>(by first|rfl|(simp[AV.allIs,AV.allI,za9,za0,za1,okI,ltI,zar,zbq];done)|(intro o ho;simp at ho;done))) (fun k=>(by first|rfl|(simp[AV.allIs,AV.allI,za9,za0,za1,okI,ltI,zar,zbq];done)|(intro o ho;simp at ho;done))) (fun k=>(by first|rfl|(simp[AV.allIs,AV.allI,za9,za0,za1,okI,ltI,zar,zbq];done)|(intro o ho;simp at ho;done))) rfl (by decide) (hN) ?_ ?_ ?_
   ·intro lp lq hlp hlq k v q hq hk c2 hc2 hp2
    refine zaw (τ':=frL [(7,.op 1 0),(22,.d (iD (v:Int)))]) (by repeat (first|exact zal _|refine zaf ?_ rfl)) ?_
    have hol:=zxk (k:=k) hN
    have hnb:=hN.b
    have hout:=zxj hq
    refine za6 hp2 zam hc2 rfl fun K8 hK8=>?_
    refine jga ?_
    refine hK8 _ _ ⟨rfl,?_⟩
    refine zae ?_
    refine za6 hp2 zam hc2 rfl fun K9 hK9=>?_
    refine zn9 ?_
    refine hK9 _ _ ?_
    try dsimp only[zcq,za7]
    refine⟨frL [(7,.op 1 0)],[lq,.cells [.os 1 2 0 (bS nx s (k+1)).out.length],.cells (avs (nsD (bS nx s (k+1)).out)),.free],?_,rfl,?_⟩
    ·refine Rt.trans (Rt.gc (keep:=[0,1,5,3]) (by decide) (by decide) (by simp[fzH,gcH])) ?_
     refine jn7 ?_
     simp only[r_g,Nat.reduceAdd,↓reduceIte,Nat.reduceEqDiff,intsD];simp only[jsk hlq,hout,List.length_append,List.length_singleton];rw[←zf8];rfl
    exact .inl ⟨rfl,rfl⟩
   ·intro k hk hq
    have hfin:=zxi hN (fun j hj=>(hk j hj).2) hq
    have hfl:=zxk (k:=k) hN
    rw[hfin]at hfl
    have hnb:=hN.b
    simp only[hfin]
    refine(hK6 _ _ ?_)
    refine zaj hp zam hc rfl fun K10 hK10=>?_
    refine zn9 ?_
    refine zk2 (zru (l:=zl (zew nx s).out) rfl (by rw[zbe];omega) (zbe _)) ?_
    refine zn9 ?_
    refine hK10 _ _ ?_
    refine szq hp (fun _ hZ=>zn9 hZ) ?_
    refine zaq ?_
    show closeA _ _=_
    refine jrj ?_
    rw[ze1,if_pos hc0,zxl,Int.toNat_natCast,←hnx];simp[zbv,zbe];done
   ·intro k hk hq hb
    exact absurd hb (by simp)
 rcases tf (decide (st<0))with q1|q1
 ·refine jli q1 ?_
  refine(hJ3 _ _ ⟨_,_,true,by simp at q1;simp;omega,rfl,rfl,?_⟩)
  refine jn7 ?_
  exact jpd
 ·refine jli q1 ?_
  refine(hJ3 _ _ ⟨_,_,decide ((n:Int)≤st),by simp at q1;simp;omega,rfl,rfl,?_⟩)
  refine jn7 ?_
  exact jpd
end Go.Proofs.Ytfolbdkbpmgjgaa
