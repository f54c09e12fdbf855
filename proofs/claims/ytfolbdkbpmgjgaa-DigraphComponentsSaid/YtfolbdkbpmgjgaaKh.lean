/- A loop over the nodes that a search finds: its rounds, what comes behind it. -/
import Derived.Test.YtfolbdkbpmgjgaaQr
import Derived.Test.YtfolbdkbpmgjgaaKf
set_option linter.unusedVariables false
set_option linter.unusedSimpArgs false
set_option maxRecDepth 100000
set_option maxHeartbeats 4000000
namespace Go.Proofs.Ytfolbdkbpmgjgaa
open Go Go.RowKit
theorem jlm:(type_of% @zeo):=@zeo
theorem zvp(nx:List (List Nat))(st:Nat):zar Try.prog 43 [zai nx,iD (st:Int)] (.d (.clo (.func 57) [] [.fp [zai nx] 0,.fp [iD (st:Int)] 0])):=by
 refine zay (fn:=Try.f43) (by kernel_rfl) Try.func43 rfl (Nat.le_of_ble_eq_true rfl) fun c hc hp=>?_
 refine zav (τ':=frL [(0,.d (zai nx)),(1,.d (iD (st:Int)))]) (by repeat (first|exact zaj _|refine zac ?_ (by first|rfl|(simp[r_f,zad];done)|simp[r_f,zad, *]))) ?_
 refine zag hp zam hc rfl fun K1 hK1=>?_
 simp -dsimp -implicitDefEqProofs (disch:=first|assumption|omega|(simp only[r_z,zad]<;>omega)|decide) only[r_r,↓reduceIte,Nat.reduceEqDiff,Nat.reduceAdd,D.fix,Int.reduceToNat,Nat.reduceMul,Nat.reduceBNe,Nat.reduceBEq,zai,jlm]
 refine hK1 _ _ ?_
 refine zag hp zam hc rfl fun K2 hK2=>?_
 simp -dsimp -implicitDefEqProofs (disch:=first|assumption|omega|(simp only[r_z,zad]<;>omega)|decide) only[r_r,↓reduceIte,Nat.reduceEqDiff,Nat.reduceAdd,D.fix,Int.reduceToNat,Nat.reduceMul,Nat.reduceBNe,Nat.reduceBEq,zai]
 refine hK2 _ _ ?_
 refine zas ?_
 show closeA _ _=_
 simp (disch:=first|assumption|omega|(simp only[r_z,zad]<;>omega)|decide) only[r_c,Nat.reduceAdd,D.fix,↓reduceIte,Nat.reduceEqDiff,zai]
def is1(i:Nat):Bool:=decide (i=1)
mutual
theorem zyt{p q:Nat→Bool}(h:∀i,p i=true→q i=true):∀x:AV,x.allI p=true→x.allI q=true
 | .any,_=>rfl
 | .d _,_=>rfl
 | .os _ i _ _,k=>h i k
 | .op i _,k=>h i k
 | .om i,k=>h i k
 | .agg cs,k=>zd7 h cs k
 | .tup cs,k=>zd7 h cs k
 | .clo _ fi ca,k=>by
  rw[AV.allI,Bool.and_eq_true]at k ⊢
  exact⟨zd7 h fi k.1,zd7 h ca k.2⟩
theorem zd7{p q:Nat→Bool}(h:∀i,p i=true→q i=true):∀l:List AV,AV.allIs p l=true→AV.allIs q l=true
 |[],_=>rfl
 |x::l,k=>by
  rw[AV.allIs,Bool.and_eq_true]at k ⊢
  exact⟨zyt h x k.1,zd7 h l k.2⟩
end
theorem jim(l:List AV)(h:AV.allIs is1 l=true):AV.allIs (ltI 4) l=true:=zd7 (fun i hi=>by simp[is1]at hi;subst hi;rfl) l h
theorem jon{o:AObj}(h:o.allI is1=true)(l:List Nat):gcO (0::1::l) o=o:=ja9 (fun i hi=>by simp[is1]at hi;subst hi;rfl) h
structure GrN (nx:List (List Nat)) (st:Nat):Prop where
 n:∀u,u<nx.length→∀x∈nth nx u,x<nx.length
 s:st<nx.length
 b:nx.length≤1000
 r:∀u,(nth nx u).length≤100000
theorem zom{τ:Fr}{k:Nat}(j:Nat)(x:AV)(h:((List.range k).map τ)[j]? =some x):τ j=x:=by
 rw[List.getElem?_map]at h
 obtain⟨i,hi,rfl⟩:=Option.map_eq_some_iff.1 h
 obtain⟨h1,h2⟩:=List.getElem?_eq_some_iff.1 hi
 rw[List.getElem_range]at h2;rw[h2]
def RoQ(b:Bool)(lq:AObj)(S:zaa):Exit→Fr→zaa→Prop:=fun e τ H=>∃τ1 H1,Rt [1] τ H τ1 H1∧H1=lq::S∧((e= .normal∧b=true)∨(e= .ret∧b=false))
theorem zld{c:Cx}{τ:Fr}{g:Operand}{ps:Array Tmp}{assign body:Code}{Q:Exit→Fr→zaa→Prop}{n:Nat}{fr:List AV}{T:zaa}{sm:List Nat}{nx:List (List Nat)}{st:Nat}{o1 o2 o3:Nat→AObj}{bo:Nat→Bool}
  (ht:Top c) (hc0:Kp c sm) (hnt:c.nt=n) (hm:sm.all (okI [1] 4)=true) (hτ:∀t,(τ t).allI (okI [1] 4)=true) (hT:∀o∈T,o.allI (okI [1] 4)=true)
  (hg:zak τ g= .d (.clo (.func 57) [] [.fp [zai nx] 0,.fp [iD (st:Int)] 0])) (hfr:∀j x,fr[j]? =some x→τ j=x) (hfj:AV.allIs is1 fr=true) (h1:∀k,(o1 k).allI (ltI 4)=true) (h2:∀k,(o2 k).allI (ltI 4)=true) (h3:∀k,(o3 k).allI (ltI 4)=true)
  (hps:ps.size=2) (hpl:∀p∈ps.toList,p<n) (hN:GrN nx st)
  (hround:∀(lp lq:AObj),lp.allI is1=true→lq.allI is1=true→∀(k v:Nat) (q:List Nat),(bS nx st k).q=v::q→(∀j,j<k→bo j=true)→∀c:Cx,c.nt=n→Kp c [1]→
   AWp Try.prog c assign (zc4 (fun τ' H'=>H'=[lp,o1 k,o2 k,o3 k]∧AWp Try.prog c body (RoQ (bo k) lq [o1 (k+1),o2 (k+1),o3 (k+1)]) τ' [lq,o1 k,o2 k,o3 k]) fun _ _ _=>False) (zuy fr ps [.d (iD (v:Int)),.d (iD (((nth (bS nx st k).far v:Nat):Int) - 1))]) [lp,o1 k,o2 k,o3 k])
  (hend:∀k,(∀j,j<k→bo j=true∧(bS nx st j).q≠[])→(bS nx st k).q=[]→Q .normal τ (.dead::o1 k::o2 k::o3 k::T))
  (hret:∀k,(∀j,j<k→bo j=true∧(bS nx st j).q≠[])→(bS nx st k).q≠[]→bo k=false→Q .ret τ (.dead::o1 (k+1)::o2 (k+1)::o3 (k+1)::T)):
  AWp Try.prog c (.rangeFunc g ps assign body) Q τ (.free::o1 0::o2 0::o3 0::T):=by
 have hfi:=jim fr hfj
 refine zrn (m:=[1]) (S:=[o1 0,o2 0,o3 0]) (T:=T) (gf:=57) (ca:=[.d (.fp [zai nx] 0),.d (.fp [iD (st:Int)] 0)]) (fr:=fr) ht hc0 hnt rfl hm hτ (fun o ho=>by
  simp only[List.mem_cons,List.not_mem_nil,or_false]at ho
  rcases ho with rfl|rfl|rfl
  ·exact h1 0
  ·exact h2 0
  ·exact h3 0) hT (by rw[hg];rfl) rfl hfr hfi fun l r hp has hbo hn=>?_
 obtain⟨lo,hlo⟩:∃lo:Bool→AObj,lo=fun b=>if b=true then .loop l (rst r .ready none) fr else .loop l (rst r .done (some .ret)) fr:=⟨_,rfl⟩
 have hl1:lo true= .loop l (rst r .ready none) fr:=by rw[hlo];rfl
 have hl2:lo false= .loop l (rst r .done (some .ret)) fr:=by rw[hlo];rfl
 have hl0:∀b,(lo b).allI (ltI 4)=true:=fun b=>by cases b with|true=>rw[hl1];exact hfi|false=>rw[hl2];exact hfi
 have hs:=jdq nx st hN.n hN.s hN.b hN.r (l:=l) (o0:=lo) (o1:=o1) (o2:=o2) (o3:=o3) (bo:=bo) hl0 h1 h2 h3 (fun k v q hq hk=>by
  rw[hl1]
  refine jlf (n:=n) hn hp (by rw[hps];rfl) hpl fun c2 hc2 hp2=>?_
  rw[has,hbo]
  refine zb3 (hround (.loop l (rst r .ready none) fr) (.loop l (rst r .busy none) fr) hfj hfj k v q hq hk c2 hc2 hp2) fun e τ' H' hh=>?_
  cases e with
  |normal=>
   obtain⟨e1,hb⟩:=hh
   rw[e1]
   refine⟨fr,rfl,zfi hp2 (zb3 hb fun e2 τ2 H2 ⟨τ3,H3,hr,e3,e4⟩=>⟨τ3,H3,hr,?_⟩)⟩
   rw[e3]
   rcases e4 with⟨e4,e5⟩|⟨e4,e5⟩
   ·rw[e4]
    exact⟨r,.busy,none,fr,rfl,by rw[e5],by rw[e5,hl1];rfl⟩
   ·rw[e4]
    exact⟨r,.busy,none,fr,rfl,by rw[e5],by rw[e5,hl2];rfl⟩
  |_=>exact hh.elim)
 rw[hl1]at hs
 refine ScS.mono hs fun x S' hS'=>?_
 obtain⟨k,hk,hq⟩:=hS'
 rcases hq with⟨hq,e⟩|⟨hq,hb,e⟩
 ·rw[e]
  exact⟨rfl,.ready,none,fr,rfl,by simp,hend k hk hq⟩
 ·rw[e,hl2]
  exact⟨rfl,.done,some .ret,fr,rfl,by simp,hret k hk hq hb⟩
theorem zi7(nx:List (List Nat))(m:Nat):∀(k:Nat) (s:Bf),ze8 nx (k+m) s=ze8 nx m (ze8 nx k s)
 |0,s=>by rw[Nat.zero_add];rfl
 |k+1,s=>by rw[show k+1+m=(k+m)+1 by omega,ze8,zi7 nx m k];rfl
theorem zvq{nx:List (List Nat)}{st k:Nat}(h:GrN nx st)(hk:∀j,j<k→(bS nx st j).q≠[])(hq:(bS nx st k).q=[]):bS nx st k=zfk nx st:=by
 by_cases e:k≤nx.length
 ·rw[zfk,show nx.length=k+(nx.length - k) by omega,zi7,show ze8 nx k (zb0 (k+(nx.length - k)) st)=bS nx st k by rw[show k+(nx.length - k)=nx.length by omega];rfl,zhx _ hq]
 ·exact absurd (zru h.n h.s) (hk nx.length (by omega))
theorem zvr{nx:List (List Nat)}{st k v:Nat}{q:List Nat}(hq:(bS nx st k).q=v::q):(bS nx st (k+1)).out=(bS nx st k).out++[v]:=by rw[jkh,zk4,hq];rfl
theorem zvs{nx:List (List Nat)}{st k:Nat}(h:GrN nx st):(bS nx st k).out.length≤nx.length:=by
 have:=zix (zod h.n k (ziw h.s))
 rw[List.length_append]at this
 show(ze8 nx k (zb0 nx.length st)).out.length≤_
 omega
/- Reach: what can be reached, sorted. -/
theorem jin:(((type_of% @zc5)∧(type_of% @zc6))∧((type_of% @zmp)∧((type_of% @zuu)∧(type_of% @zdv)))):=⟨⟨@zc5,@zc6⟩,⟨@zmp,⟨@zuu,@zdv⟩⟩⟩
theorem jbf{l:List Nat}{n:Nat}(h:l.Pairwise (·<·))(hl:∀x∈l,x<n):l.length≤n:=zdi (h.imp fun h=>Nat.ne_of_lt h) hl
theorem zqu{nx:List (List Nat)}{u:Nat}(h:¬u<nx.length):nth nx u=[]:=by unfold nth;rw[List.getD_eq_getElem?_getD,List.getElem?_eq_none (by omega)];rfl
theorem Gr.next{n st:Nat}{es:List Ed}(h:Gr n es)(hs:st<n):GrN (za5 n es) st:=by
 have hb:=h.b
 refine⟨fun u hu x hx=>by rw[zbp]at hu ⊢;exact h.two.ni u hu x hx,by rw[zbp];exact hs,by rw[zbp];exact hb,fun u=>?_⟩
 by_cases hu:u<n
 ·have:=jbf (zoh (es:=es) hu) (h.two.ni u hu);omega
 ·rw[zqu (by rw[zbp];exact hu)];simp
theorem Gr.prev{n st:Nat}{es:List Ed}(h:Gr n es)(hs:st<n):GrN (zbe n es) st:=by
 have hb:=h.b
 refine⟨fun u hu x hx=>by rw[zb8]at hu ⊢;exact h.two.pi u hu x hx,by rw[zb8];exact hs,by rw[zb8];exact hb,fun u=>?_⟩
 by_cases hu:u<n
 ·have:=jbf (zoi (es:=es) hu) (h.two.pi u hu);omega
 ·rw[zqu (by rw[zb8];exact hu)];simp
def zvt(nx:List (List Nat))(st:Nat):List Int:=zb1 (zl (zfk nx st).out)
def zi8(n:Nat)(es:List Ed)(st:Int):List Int:=if 0≤st∧st<(n:Int)then zvt (za5 n es) st.toNat else[]
theorem jdr{p q:Prop}(hq:q)(h:p=q:=by
 conv=>lhs;simp -dsimp -implicitDefEqProofs (disch:=first|assumption|omega|(simp only[r_z,zbq,za6,zaf]<;>omega)|decide) only[r_r,↓reduceIte,Nat.reduceEqDiff,Nat.reduceAdd,D.fix,Int.reduceToNat,Nat.reduceMul,Nat.reduceBNe,Nat.reduceBEq,intsD]):p:=h.mpr hq
theorem zm8{p q:Prop}(hq:q)(h:p=q:=by
 conv=>lhs;simp -dsimp -implicitDefEqProofs (disch:=first|assumption|omega|(simp only[r_z,zbq,za6,zaf]<;>omega)|decide) only[r_r,↓reduceIte,Nat.reduceEqDiff,Nat.reduceAdd,D.fix,Int.reduceToNat,Nat.reduceMul,Nat.reduceBNe,Nat.reduceBEq,intsD,jin]):p:=h.mpr hq
theorem jki{m:List Nat}{τ τ':Fr}{H H':zaa}(h2:H=H')(h:zgq τ τ':=by
 repeat (first|exact zaj _|refine zac ?_ (by first|rfl|(simp[r_f,zbq,za6,zaf];done)|simp[r_f,zbq,za6,zaf, *]))):Rt m τ H τ' H':=Rt.end h h2
theorem jio{p q r:Prop}(e:r)(hq:q)(h:r→p=q:=by
 intro hY
 conv=>lhs;simp -dsimp -implicitDefEqProofs (disch:=first|assumption|omega|(simp only[r_z,zbq,za6,zaf]<;>omega)|decide) only[r_r,↓reduceIte,Nat.reduceEqDiff,Nat.reduceAdd,D.fix,Int.reduceToNat,Nat.reduceMul,Nat.reduceBNe,Nat.reduceBEq,intsD,jin,hY]):p:=(h e).mpr hq
theorem jnq{p q:Prop}(hq:q)(h:p=q:=by
 conv=>lhs;simp (disch:=first|assumption|omega|(simp only[r_z,zbq,za6,zaf]<;>omega)|decide) only[r_c,Nat.reduceAdd,D.fix,↓reduceIte,Nat.reduceEqDiff,intsD]):p:=h.mpr hq
theorem jln{p:Prop}(h:p:=by
 first|rfl|(simp only[r_g,Nat.reduceAdd,↓reduceIte,Nat.reduceEqDiff,intsD];first|done|rfl)):p:=h
theorem zon(n:Nat)(es:List Ed)(h:Gr n es)(st:Int):zar Try.prog 24 [iD (n:Int),zan es,iD st] (.d (intsD (zi8 n es st))):=by
 have hb:=h.b
 have hel:=h.l
 refine zfg (fn:=Try.f24) (by kernel_rfl) Try.func24 rfl (Nat.le_of_ble_eq_true rfl) fun c hc hp hTop=>?_
 refine zav (τ':=frL [(0,.d (iD (n:Int))),(1,.d (zan es)),(2,.d (iD st))]) (by repeat (first|exact zaj _|refine zac ?_ (by first|rfl|(simp[r_f,zbq,za6,zaf];done)|simp[r_f,zbq,za6,zaf, *]))) ?_
 refine szq hp (fun _ hZ=>jdr hZ) ?_
 refine zab fun K2 hK2=>?_
 refine zag hp zam hc rfl fun K3 hK3=>?_
 have hJ3:∀τ' H',(∃τ1 H1,∃(b:Bool),(b=true↔¬(0≤st∧st<(n:Int)))∧H1=[]∧τ1=frL [(0,.d (iD (n:Int))),(1,.d (zan es)),(2,.d (iD st)),(6,.d (.val (.slice none 0 0))),(15,.d (oD b))]∧Rt [] τ' H' τ1 H1)→K3 τ' H':=by
  rintro τ' H' ⟨_,_,b,hbb,rfl,rfl,hrt⟩
  refine hK3 _ _ (zbg hp hrt ?_)
  clear hrt
  refine zal rfl (fun ht=>?_) (fun ht=>?_)
  ·have hc0:¬(0≤st∧st<(n:Int)):=hbb.1 ht
   refine szq hp (fun _ hZ=>jdr hZ) ?_
   refine zas ?_
   show closeA _ _=_
   refine jnq ?_
   simp[zi8,hc0];done
  ·have hc0:0≤st∧st<(n:Int):=Classical.byContradiction fun hh=>by rw[hbb.2 hh]at ht;cases ht
   obtain⟨s,hs⟩:∃s:Nat,st=(s:Int):=⟨st.toNat,by omega⟩
   subst hs
   have hsn:s<n:=by omega
   obtain⟨nx,hnx⟩:∃nx,nx=za5 n es:=⟨_,rfl⟩
   have hN:GrN nx s:=by rw[hnx];exact h.next hsn
   refine zah (hK2 _ _ ?_)
   refine szq hp (fun _ hZ=>zm8 hZ) ?_
   refine zab fun K6 hK6=>?_
   refine zag hp zam hc rfl fun K7 hK7=>?_
   refine zm8 ?_
   refine zbj (zi4 h) rfl ?_
   refine zm8 ?_
   refine zbj (zvp (za5 n es) s) rfl ?_
   refine zm8 ?_
   refine hK7 _ _ ?_
   refine zae ?_
   refine zbg hp (τ':=frL [(7,.op 1 0),(21,.d (.clo (.func 57) [] [.fp [zai nx] 0,.fp [iD (s:Int)] 0]))]) (H':=[.free,.cells [.os 1 2 0 0],.cells [],.free]) ?_ ?_
   ·refine Rt.trans (Rt.nilc 0 0 1 rfl rfl) ?_
    refine Rt.trans (Rt.fr1) ?_
    refine Rt.trans (Rt.fr1) ?_
    refine Rt.trans (Rt.gc (keep:=[2,0,1,3]) (by decide) (by decide) (by simp[fzH,gcH])) ?_
    refine jki ?_
    exact jln
   refine zld (n:=Try.f24.ntmps) (T:=[]) (o1:=fun k=>.cells [.os 1 2 0 (bS nx s k).out.length]) (o2:=fun k=>.cells (avs (nsD (bS nx s k).out))) (o3:=fun _=>.free) (bo:=fun _=>true) (nx:=nx) (st:=s) (fr:=[.any,.any,.any,.any,.any,.any,.any,.op 1 0]) hTop hp hc rfl (fun t=>zc9 (by first|rfl|(simp[AV.allIs,AV.allI,za3,zat,zau,okI,ltI,zao,zbk];done)|(intro o ho;simp at ho;done)) t) (by first|rfl|(simp[AV.allIs,AV.allI,za3,zat,zau,okI,ltI,zao,zbk];done)|(intro o ho;simp at ho;done)) rfl (show ∀j x,((List.range 8).map (frL [(7,.op 1 0),(21,.d (.clo (.func 57) [] [.fp [zai nx] 0,.fp [iD (s:Int)] 0]))]))[j]? =some x→frL [(7,.op 1 0),(21,.d (.clo (.func 57) [] [.fp [zai nx] 0,.fp [iD (s:Int)] 0]))] j=x from zom) (by first|rfl|(simp[AV.allIs,AV.allI,za3,zat,zau,okI,ltI,zao,zbk];done)|(intro o ho;simp at ho;done)) (fun k=>(by first|rfl|(simp[AV.allIs,AV.allI,za3,zat,zau,okI,ltI,zao,zbk];done)|(intro o ho;simp at ho;done))) (fun k=>(by first|rfl|(simp[AV.allIs,AV.allI,za3,zat,zau,okI,ltI,zao,zbk];done)|(intro o ho;simp at ho;done))) (fun k=>(by first|rfl|(simp[AV.allIs,AV.allI,za3,zat,zau,okI,ltI,zao,zbk];done)|(intro o ho;simp at ho;done))) rfl (by decide) (hN) ?_ ?_ ?_
   ·intro lp lq hlp hlq k v q hq hk c2 hc2 hp2
    refine zav (τ':=frL [(7,.op 1 0),(22,.d (iD (v:Int)))]) (by repeat (first|exact zaj _|refine zac ?_ rfl)) ?_
    have hol:=zvs (k:=k) hN
    have hnb:=hN.b
    have hout:=zvr hq
    refine zbc hp2 zam hc2 rfl fun K8 hK8=>?_
    refine jdr ?_
    refine hK8 _ _ ⟨rfl,?_⟩
    refine zae ?_
    refine zbc hp2 zam hc2 rfl fun K9 hK9=>?_
    refine zm8 ?_
    refine hK9 _ _ ?_
    try dsimp only[zc4,za8]
    refine⟨frL [(7,.op 1 0)],[lq,.cells [.os 1 2 0 (bS nx s (k+1)).out.length],.cells (avs (nsD (bS nx s (k+1)).out)),.free],?_,rfl,?_⟩
    ·refine Rt.trans (Rt.gc (keep:=[0,1,5,3]) (by decide) (by decide) (by simp[fzH,gcH])) ?_
     refine jki ?_
     simp only[r_g,Nat.reduceAdd,↓reduceIte,Nat.reduceEqDiff,intsD];simp only[jon hlq,hout,List.length_append,List.length_singleton];rw[←zj9];rfl
    exact .inl ⟨rfl,rfl⟩
   ·intro k hk hq
    have hfin:=zvq hN (fun j hj=>(hk j hj).2) hq
    have hfl:=zvs (k:=k) hN
    rw[hfin]at hfl
    have hnb:=hN.b
    simp only[hfin]
    refine(hK6 _ _ ?_)
    refine zag hp zam hc rfl fun K10 hK10=>?_
    refine zm8 ?_
    refine zj8 (zqn (l:=zl (zfk nx s).out) rfl (by rw[za6];omega) (za6 _)) ?_
    refine zm8 ?_
    refine hK10 _ _ ?_
    refine szq hp (fun _ hZ=>zm8 hZ) ?_
    refine zas ?_
    show closeA _ _=_
    refine jnq ?_
    rw[zi8,if_pos hc0,zvt,Int.toNat_natCast,←hnx];simp[zbq,za6];done
   ·intro k hk hq hb
    exact absurd hb (by simp)
 rcases tf (decide (st<0))with q1|q1
 ·refine jio q1 ?_
  refine(hJ3 _ _ ⟨_,_,true,by simp at q1;simp;omega,rfl,rfl,?_⟩)
  refine jki ?_
  exact jln
 ·refine jio q1 ?_
  refine(hJ3 _ _ ⟨_,_,decide ((n:Int)≤st),by simp at q1;simp;omega,rfl,rfl,?_⟩)
  refine jki ?_
  exact jln
end Go.Proofs.Ytfolbdkbpmgjgaa
