/- Check, orders, depths: what they mean (no program in sight). -/
import Derived.Test.YtfolbdkbpmgjgaaJn
set_option linter.unusedVariables false
set_option linter.unusedSimpArgs false
namespace Go.Proofs.Ytfolbdkbpmgjgaa
open Go Go.RowKit
section
variable {n:Nat} {es:List Ed} {M:List Nat}
theorem jmt{l:List Int}(h:l.length≠n):ckR n es l=6:=by
 have:(l.length !=n)=true:=by simpa using h
 rw[ckR,this,Bool.true_or,Bool.or_true];rfl
structure TpO (n:Nat) (es:List Ed) (L:List Nat):Prop where
 sz:L.length=n
 d:L.Nodup
 lt:∀v∈L,v<n
 ed:∀e∈es,∀i j,i<n→j<n→nth L i=e.1→nth L j=e.2→i<j
 ls:∀i j,i<j→j<n→nth L j≤nth L i→∃m,i≤m∧m<n∧(nth L m,nth L j)∈es
theorem jmu(h:Gr n es):((zdv n es).2=0∧TpO n es (zdv n es).1∧OrI n (zay n es) (zdv n es).1)∨(zdv n es=([],50)∧∃u k,u<n∧WayN (zav n es) u u (k+1)):=by
 have hi:=ztc n (zay n es) n
 have hle:=zl2 (n:=n) (prev:=zay n es) n
 by_cases hc:(zcg n (zay n es) n).length<n
 ·refine .inr ⟨by rw[zdv,if_pos hc],?_⟩
  -- a node is left, and nothing is free
  have hf:zcf n (zay n es) (zcg n (zay n es) n)=[]:=by
   refine Classical.byContradiction fun hne=>?_
   have key:∀k,zcf n (zay n es) (zcg n (zay n es) k)≠[]→(zcg n (zay n es) k).length=k:=fun k=>by
    induction k with
    |zero=>intro _;rfl
    |succ k ih=>
     intro hk
     cases hh:zcf n (zay n es) (zcg n (zay n es) k)with
     |nil=>
      have:=zmc hh 1
      rw[this]at hk
      exact absurd hh hk
     |cons v l=>
      rw[zmb hh,List.length_append,ih (by rw[hh];simp)];rfl
   have:=key n hne
   omega
  obtain⟨v,hv,hvn⟩:∃v,v<n∧v∉zcg n (zay n es) n:=by
   refine Classical.byContradiction fun hno=>?_
   have hall:∀v∈List.range n,v∈zcg n (zay n es) n:=fun v hv=>Classical.byContradiction fun hh=>hno ⟨v,List.mem_range.1 hv,hh⟩
   have:=List.nodup_range.length_le_of_subset hall
   rw[List.length_range]at this
   omega
  exact jao h.two hf hv hvn
 ·have e:zdv n es=(zcg n (zay n es) n,0):=by rw[zdv,if_neg hc]
  rw[e]
  have hll:(zcg n (zay n es) n).length=n:=by omega
  refine .inl ⟨rfl,⟨hll,hi.nd,hi.lt,fun e he i j h1 h2 e1 e2=>?_,fun i j hij hj hle0=>?_⟩,hi⟩
  ·have hge:=h.e e he
   have hp:e.1∈nth (zay n es) (nth (zcg n (zay n es) n) j):=by rw[e2];exact(zc6 hge.2).2 he
   obtain⟨m,hm,hm2,em⟩:=zg5 (hi.pr j (by omega) _ hp)
   have:=zgk hi.nd hm2 (by omega) (em.trans e1.symm)
   omega
  ·have hle2:nth (zcg n (zay n es) n) j≤nth (zcg n (zay n es) n) i:=hle0
   have hne:nth (zcg n (zay n es) n) j≠nth (zcg n (zay n es) n) i:=fun e=>by
    have:=zgk hi.nd (by omega) (by omega) e;omega
   have hnt:nth (zcg n (zay n es) n) j∉(zcg n (zay n es) n).take i:=fun hm=>by
    obtain⟨m,hm,hm2,em⟩:=zg5 hm
    have:=zgk hi.nd hm2 (by omega) em;omega
   obtain⟨u,hu,hun⟩:=hi.ls i (by omega) _ (by omega) hnt
   have hjn:=hi.lt _ (za3 (l:=zcg n (zay n es) n) (k:=j) (by omega))
   have hes:=(zc6 hjn).1 hu
   obtain⟨m,hm,em⟩:=zfn (zk3 hi.nd hi.lt hll (h.e _ hes).1)
   refine⟨m,?_,by omega,by rw[em];exact hes⟩
   refine Classical.byContradiction fun hmi=>hun ?_
   rw[←show nth (zcg n (zay n es) n) m=u from em]
   rw[za5 hm]
   exact List.mem_take_iff_getElem.2 ⟨m,by omega,rfl⟩
end
end Go.Proofs.Ytfolbdkbpmgjgaa
