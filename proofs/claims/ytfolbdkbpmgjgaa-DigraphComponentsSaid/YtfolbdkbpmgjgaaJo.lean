/- Check, orders, depths: what they mean (no program in sight). -/
import Derived.Test.YtfolbdkbpmgjgaaJn
set_option linter.unusedVariables false
set_option linter.unusedSimpArgs false
namespace Go.Proofs.Ytfolbdkbpmgjgaa
open Go Go.RowKit
section
variable {n:Nat} {es:List Ed} {M:List Nat}
structure TpO (n:Nat) (es:List Ed) (L:List Nat):Prop where
 sz:L.length=n
 d:L.Nodup
 lt:∀v∈L,v<n
 ed:∀e∈es,∀i j,i<n→j<n→nth L i=e.1→nth L j=e.2→i<j
 ls:∀i j,i<j→j<n→nth L j≤nth L i→∃m,i≤m∧m<n∧(nth L m,nth L j)∈es
theorem jmw(h:Gr n es):((zer n es).2=0∧TpO n es (zer n es).1∧OrI n (zbe n es) (zer n es).1)∨(zer n es=([],50)∧∃u k,u<n∧WayN (za5 n es) u u (k+1)):=by
 have hi:=zrs n (zbe n es) n
 have hle:=zk5 (n:=n) (prev:=zbe n es) n
 by_cases hc:(zcb n (zbe n es) n).length<n
 ·refine .inr ⟨by rw[zer,if_pos hc],?_⟩
  -- a node is left, and nothing is free
  have hf:zb7 n (zbe n es) (zcb n (zbe n es) n)=[]:=by
   refine Classical.byContradiction fun hne=>?_
   have key:∀k,zb7 n (zbe n es) (zcb n (zbe n es) k)≠[]→(zcb n (zbe n es) k).length=k:=fun k=>by
    induction k with
    |zero=>intro _;rfl
    |succ k ih=>
     intro hk
     cases hh:zb7 n (zbe n es) (zcb n (zbe n es) k)with
     |nil=>
      have:=zle hh 1
      rw[this]at hk
      exact absurd hh hk
     |cons v l=>
      rw[zq0 hh,List.length_append,ih (by rw[hh];simp)];rfl
   have:=key n hne
   omega
  obtain⟨v,hv,hvn⟩:∃v,v<n∧v∉zcb n (zbe n es) n:=by
   refine Classical.byContradiction fun hno=>?_
   have hall:∀v∈List.range n,v∈zcb n (zbe n es) n:=fun v hv=>Classical.byContradiction fun hh=>hno ⟨v,List.mem_range.1 hv,hh⟩
   have:=List.nodup_range.length_le_of_subset hall
   rw[List.length_range]at this
   omega
  exact zyj h.two hf hv hvn
 ·have e:zer n es=(zcb n (zbe n es) n,0):=by rw[zer,if_neg hc]
  rw[e]
  have hll:(zcb n (zbe n es) n).length=n:=by omega
  refine .inl ⟨rfl,⟨hll,hi.nd,hi.lt,fun e he i j h1 h2 e1 e2=>?_,fun i j hij hj hle0=>?_⟩,hi⟩
  ·have hge:=h.e e he
   have hp:e.1∈nth (zbe n es) (nth (zcb n (zbe n es) n) j):=by rw[e2];exact(zgn hge.2).2 he
   obtain⟨m,hm,hm2,em⟩:=zi0 (hi.pr j (by omega) _ hp)
   have:=zk6 hi.nd hm2 (by omega) (em.trans e1.symm)
   omega
  ·have hle2:nth (zcb n (zbe n es) n) j≤nth (zcb n (zbe n es) n) i:=hle0
   have hne:nth (zcb n (zbe n es) n) j≠nth (zcb n (zbe n es) n) i:=fun e=>by
    have:=zk6 hi.nd (by omega) (by omega) e;omega
   have hnt:nth (zcb n (zbe n es) n) j∉(zcb n (zbe n es) n).take i:=fun hm=>by
    obtain⟨m,hm,hm2,em⟩:=zi0 hm
    have:=zk6 hi.nd hm2 (by omega) em;omega
   obtain⟨u,hu,hun⟩:=hi.ls i (by omega) _ (by omega) hnt
   have hjn:=hi.lt _ (za9 (l:=zcb n (zbe n es) n) (k:=j) (by omega))
   have hes:=(zgn hjn).1 hu
   obtain⟨m,hm,em⟩:=ziz (ja6 hi.nd hi.lt hll (h.e _ hes).1)
   refine⟨m,?_,by omega,by rw[em];exact hes⟩
   refine Classical.byContradiction fun hmi=>hun ?_
   rw[←show nth (zcb n (zbe n es) n) m=u from em]
   rw[za0 hm]
   exact List.mem_take_iff_getElem.2 ⟨m,by omega,rfl⟩
end
end Go.Proofs.Ytfolbdkbpmgjgaa
