/- Check, orders, depths: what they mean (no program in sight). -/
import Derived.Test.YtfolbdkbpmgjgaaJn
set_option linter.unusedVariables false
set_option linter.unusedSimpArgs false
namespace Go.Proofs.Ytfolbdkbpmgjgaa
open Go Go.RowKit
section
variable {n:Nat} {es:List Ed} {M:List Nat}
theorem zxh(hd:M.Nodup)(hl:∀v∈M,v<n):∀k,k≤M.length→(∀i,i<k→nth (ckS n (zl M) k) (nth M i)=i+1)∧∀v,v<n→(∀i,i<k→nth M i≠v)→nth (ckS n (zl M) k) v=0
 |0,_=>⟨fun i hi=>absurd hi (Nat.not_lt_zero _),fun v hv _=>zow hv⟩
 |k+1,hk=>by
  obtain⟨h1,h2⟩:=zxh hd hl k (by omega)
  have hkn:=hl _ (za8 (l:=M) (k:=k) (by omega))
  have e:ckS n (zl M) (k+1)=(ckS n (zl M) k).set (nth M k) (k+1):=by rw[ckS,zgt,Int.toNat_natCast]
  rw[e]
  refine⟨fun i hi=>?_,fun v hv hne=>?_⟩
  ·by_cases ei:i=k
   ·rw[ei,za2 (by rw[zdf];exact hkn)]
   ·rw[za0 fun e2=>ei (ze9 hd (by omega) (by omega) e2.symm)]
    exact h1 i (by omega)
  ·rw[za0 (hne k (by omega))]
   exact h2 v hv fun i hi=>hne i (by omega)
theorem jki(hd:M.Nodup)(hl:∀v∈M,v<n):∀k,k<(zl M).length→ckP n (ckS n (zl M) k) (nth (zl M) k)=false:=fun k hk=>by
 rw[za5]at hk
 have hkn:=hl _ (za8 hk)
 have h0:=(zxh (n:=n) hd hl k (by omega)).2 _ hkn fun i hi e=>by
  have:=ze9 hd (by omega) hk e;omega
 rw[zgt,ckP,Int.toNat_natCast,h0,decide_eq_false (by omega),decide_eq_false (by omega)];rfl
theorem jf4(h:Gr n es)(hd:M.Nodup)(hl:∀v∈M,v<n)(hn:M.length=n):(ckR n es (zl M)=0↔∀e∈es,∀i j,i<n→j<n→nth M i=e.1→nth M j=e.2→i<j)∧(ckR n es (zl M)=0∨ckR n es (zl M)=6):=by
 have hR:=zww (es:=es) (jki hd hl)
 have hne:((zl M).length !=n)=false:=by rw[za5,hn];simp
 rw[hne,Bool.false_or]at hR
 have hat:=(zxh (n:=n) hd hl M.length (Nat.le_refl _)).1
 have hE:ckE n es (zl M)=false↔∀e∈es,∀i j,i<n→j<n→nth M i=e.1→nth M j=e.2→i<j:=by
  unfold ckE
  rw[List.any_eq_false,za5]
  constructor
  ·intro hh e he i j hi hj h1 h2
   have:=hh e he
   rw[decide_eq_true_eq,←h1,←h2,hat i (by omega),hat j (by omega)]at this
   omega
  ·intro hh e he
   rw[decide_eq_true_eq]
   have hge:=h.e e he
   obtain⟨i,hi,ei⟩:=zd2 (zja hd hl hn hge.1)
   obtain⟨j,hj,ej⟩:=zd2 (zja hd hl hn hge.2)
   have:=hh e he i j (by omega) (by omega) ei ej
   rw[←ei,←ej,hat i hi,hat j hj]
   omega
 rw[hR]
 cases hx:ckE n es (zl M)with
 |true=>exact⟨⟨fun hh=>by simp at hh,fun hh=>by rw[hE.2 hh]at hx;cases hx⟩,.inr rfl⟩
 |false=>exact⟨⟨fun _=>hE.1 hx,fun _=>rfl⟩,.inl rfl⟩
theorem jkj{l:List Int}(h:l.length≠n):ckR n es l=6:=by
 have:(l.length !=n)=true:=by simpa using h
 rw[ckR,this,Bool.true_or,Bool.or_true];rfl
structure TpO (n:Nat) (es:List Ed) (L:List Nat):Prop where
 sz:L.length=n
 d:L.Nodup
 lt:∀v∈L,v<n
 ed:∀e∈es,∀i j,i<n→j<n→nth L i=e.1→nth L j=e.2→i<j
 ls:∀i j,i<j→j<n→nth L j≤nth L i→∃m,i≤m∧m<n∧(nth L m,nth L j)∈es
theorem jf5(h:Gr n es):((zd9 n es).2=0∧TpO n es (zd9 n es).1∧OrI n (za9 n es) (zd9 n es).1)∨(zd9 n es=([],50)∧∃u k,u<n∧WayN (za1 n es) u u (k+1)):=by
 have hi:=zsa n (za9 n es) n
 have hle:=zlj (n:=n) (prev:=za9 n es) n
 by_cases hc:(zcb n (za9 n es) n).length<n
 ·refine .inr ⟨by rw[zd9,if_pos hc],?_⟩
  -- a node is left, and nothing is free
  have hf:zb8 n (za9 n es) (zcb n (za9 n es) n)=[]:=by
   refine Classical.byContradiction fun hne=>?_
   have key:∀k,zb8 n (za9 n es) (zcb n (za9 n es) k)≠[]→(zcb n (za9 n es) k).length=k:=fun k=>by
    induction k with
    |zero=>intro _;rfl
    |succ k ih=>
     intro hk
     cases hh:zb8 n (za9 n es) (zcb n (za9 n es) k)with
     |nil=>
      have:=zlq hh 1
      rw[this]at hk
      exact absurd hh hk
     |cons v l=>
      rw[zra hh,List.length_append,ih (by rw[hh];simp)];rfl
   have:=key n hne
   omega
  obtain⟨v,hv,hvn⟩:∃v,v<n∧v∉zcb n (za9 n es) n:=by
   refine Classical.byContradiction fun hno=>?_
   have hall:∀v∈List.range n,v∈zcb n (za9 n es) n:=fun v hv=>Classical.byContradiction fun hh=>hno ⟨v,List.mem_range.1 hv,hh⟩
   have:=List.nodup_range.length_le_of_subset hall
   rw[List.length_range]at this
   omega
  exact zy5 h.two hf hv hvn
 ·have e:zd9 n es=(zcb n (za9 n es) n,0):=by rw[zd9,if_neg hc]
  rw[e]
  have hll:(zcb n (za9 n es) n).length=n:=by omega
  refine .inl ⟨rfl,⟨hll,hi.nd,hi.lt,fun e he i j h1 h2 e1 e2=>?_,fun i j hij hj hle0=>?_⟩,hi⟩
  ·have hge:=h.e e he
   have hp:e.1∈nth (za9 n es) (nth (zcb n (za9 n es) n) j):=by rw[e2];exact(zek hge.2).2 he
   obtain⟨m,hm,hm2,em⟩:=zfa (hi.pr j (by omega) _ hp)
   have:=ze9 hi.nd hm2 (by omega) (em.trans e1.symm)
   omega
  ·have hle2:nth (zcb n (za9 n es) n) j≤nth (zcb n (za9 n es) n) i:=hle0
   have hne:nth (zcb n (za9 n es) n) j≠nth (zcb n (za9 n es) n) i:=fun e=>by
    have:=ze9 hi.nd (by omega) (by omega) e;omega
   have hnt:nth (zcb n (za9 n es) n) j∉(zcb n (za9 n es) n).take i:=fun hm=>by
    obtain⟨m,hm,hm2,em⟩:=zfa hm
    have:=ze9 hi.nd hm2 (by omega) em;omega
   obtain⟨u,hu,hun⟩:=hi.ls i (by omega) _ (by omega) hnt
   have hjn:=hi.lt _ (za8 (l:=zcb n (za9 n es) n) (k:=j) (by omega))
   have hes:=(zek hjn).1 hu
   obtain⟨m,hm,em⟩:=zd2 (zja hi.nd hi.lt hll (h.e _ hes).1)
   refine⟨m,?_,by omega,by rw[em];exact hes⟩
   refine Classical.byContradiction fun hmi=>hun ?_
   rw[←show nth (zcb n (za9 n es) n) m=u from em]
   rw[za3 hm]
   exact List.mem_take_iff_getElem.2 ⟨m,by omega,rfl⟩
theorem jkk(h:Gr n es):((zd9 n es).2=0∧(zjn n es).2=4)∨((zd9 n es).2=50∧(zjn n es).2=0):=by
 rcases jf5 h with⟨h1,h2,h3⟩|⟨h1,u,k,hu,hw⟩
 ·refine .inl ⟨h1,?_⟩
  rcases jkh h with⟨k1,k2⟩|⟨k1,_⟩
  ·exfalso
   by_cases hb:(bfS (za1 n es) n).1=0
   ·rw[zjn,if_pos hb]at k1;cases k1
   ·have hF:=jeg h hb
    have hni:∀u,u<(za1 n es).length→∀x∈nth (za1 n es) u,x<(za1 n es).length:=fun u hu x hx=>by
     rw[zba]at hu ⊢;exact h.two.ni u hu x hx
    have hw:=zom hni (v:=(bfS (za1 n es) n).2) (by rw[zba];exact hF.lt) (by rw[hF.g];exact hF.p)
    rw[hF.g]at hw
    obtain⟨m,hm⟩:∃m,(bfS (za1 n es) n).1=m+1:=⟨(bfS (za1 n es) n).1 - 1,by have:=hF.p;omega⟩
    rw[hm]at hw
    exact zy4 h.two h3 h2.sz hF.lt hw
  ·rw[k1]
 ·refine .inr ⟨by rw[h1],?_⟩
  rcases jkh h with⟨k1,_⟩|⟨k1,k2⟩
  ·exact k1
  ·exact absurd hw (k2 u hu (k+1) (by omega))
def exL(L:List Nat)(a:Nat):List Nat:=(L.set a (nth L (a+1))).set (a+1) (nth L a)
def exI(a p:Nat):Nat:=if p=a then a+1 else if p=a+1 then a else p
theorem zca(L:List Nat)(a:Nat):(exL L a).length=L.length:=by simp[exL]
theorem zko{L:List Nat}{a p:Nat}(h:a+1<L.length):nth (exL L a) p=nth L (exI a p):=by
 unfold exL exI
 by_cases e1:p=a
 ·subst e1;rw[if_pos rfl,za0 (by omega),za2 (by omega)]
 ·rw[if_neg e1]
  by_cases e2:p=a+1
  ·subst e2;rw[if_pos rfl,za2 (by rw[List.length_set];exact h)]
  ·rw[if_neg e2,za0 (fun e=>e2 e.symm),za0 (fun e=>e1 e.symm)]
theorem zxi(a p:Nat):(p=a∧exI a p=a+1)∨(p=a+1∧exI a p=a)∨(p≠a∧p≠a+1∧exI a p=p):=by
 unfold exI
 by_cases e1:p=a
 ·rw[if_pos e1];exact .inl ⟨e1,rfl⟩
 ·rw[if_neg e1]
  by_cases e2:p=a+1
  ·rw[if_pos e2];exact .inr (.inl ⟨e2,rfl⟩)
  ·rw[if_neg e2];exact .inr (.inr ⟨e1,e2,rfl⟩)
theorem znk{a p m:Nat}(h:a+1<m)(hp:p<m):exI a p<m:=by have:=zxi a p;omega
theorem jkl(h:Gr n es){L:List Nat}{a:Nat}(hT:TpO n es L)(ha:a+1<n):ckR n es (zl (exL L a))=0↔(nth L a,nth L (a+1))∉es:=by
 have hnd:(exL L a).Nodup:=by
  refine List.pairwise_iff_getElem.2 fun i j hi hj hij e=>?_
  rw[zca]at hi hj
  have h1:=zko (L:=L) (p:=i) (by rw[hT.sz];exact ha)
  have h2:=zko (L:=L) (p:=j) (by rw[hT.sz];exact ha)
  rw[za3 (by rw[zca];exact hi)]at h1
  rw[za3 (by rw[zca];exact hj)]at h2
  have:=ze9 hT.d (znk (by rw[hT.sz];exact ha) hi) (znk (by rw[hT.sz];exact ha) hj) (h1.symm.trans (e.trans h2))
  have c1:=zxi a i
  have c2:=zxi a j
  omega
 have hlt:∀v∈exL L a,v<n:=fun v hv=>by
  obtain⟨i,hi,rfl⟩:=zd2 hv
  rw[zca]at hi
  rw[zko (by rw[hT.sz];exact ha)]
  exact hT.lt _ (za8 (znk (by rw[hT.sz];exact ha) hi))
 rw[(jf4 h hnd hlt (by rw[zca,hT.sz])).1]
 constructor
 ·intro hh hm
  have:=hh _ hm (a+1) a ha (by omega) (by rw[zko (by rw[hT.sz];exact ha)];simp[exI]) (by rw[zko (by rw[hT.sz];exact ha)];simp[exI])
  omega
 ·intro hno e he i j hi hj h1 h2
  rw[zko (by rw[hT.sz];exact ha)]at h1 h2
  have hlt2:=hT.ed e he _ _ (znk ha hi) (znk ha hj) h1 h2
  refine Classical.byContradiction fun hij=>?_
  have hk:exI a i=a∧exI a j=a+1:=by
   have c1:=zxi a i
   have c2:=zxi a j
   omega
  rw[hk.1]at h1
  rw[hk.2]at h2
  exact hno (by rw[h1,h2];exact he)
end
end Go.Proofs.Ytfolbdkbpmgjgaa
