/- Check, orders, depths: what they mean (no program in sight). -/
import Derived.Test.YtfolbdkbpmgjgaaJn
set_option linter.unusedVariables false
set_option linter.unusedSimpArgs false
namespace Go.Proofs.Ytfolbdkbpmgjgaa
open Go Go.RowKit
section
variable {n:Nat} {es:List Ed} {M:List Nat}
theorem zxr(hd:M.Nodup)(hl:∀v∈M,v<n):∀k,k≤M.length→(∀i,i<k→nth (ckS n (zl M) k) (nth M i)=i+1)∧∀v,v<n→(∀i,i<k→nth M i≠v)→nth (ckS n (zl M) k) v=0
 |0,_=>⟨fun i hi=>absurd hi (Nat.not_lt_zero _),fun v hv _=>zo0 hv⟩
 |k+1,hk=>by
  obtain⟨h1,h2⟩:=zxr hd hl k (by omega)
  have hkn:=hl _ (zbe (l:=M) (k:=k) (by omega))
  have e:ckS n (zl M) (k+1)=(ckS n (zl M) k).set (nth M k) (k+1):=by rw[ckS,zgt,Int.toNat_natCast]
  rw[e]
  refine⟨fun i hi=>?_,fun v hv hne=>?_⟩
  ·by_cases ei:i=k
   ·rw[ei,za2 (by rw[zde];exact hkn)]
   ·rw[za3 fun e2=>ei (zhe hd (by omega) (by omega) e2.symm)]
    exact h1 i (by omega)
  ·rw[za3 (hne k (by omega))]
   exact h2 v hv fun i hi=>hne i (by omega)
theorem jkq(hd:M.Nodup)(hl:∀v∈M,v<n):∀k,k<(zl M).length→ckP n (ckS n (zl M) k) (nth (zl M) k)=false:=fun k hk=>by
 rw[za5]at hk
 have hkn:=hl _ (zbe hk)
 have h0:=(zxr (n:=n) hd hl k (by omega)).2 _ hkn fun i hi e=>by
  have:=zhe hd (by omega) hk e;omega
 rw[zgt,ckP,Int.toNat_natCast,h0,decide_eq_false (by omega),decide_eq_false (by omega)];rfl
theorem jnm(h:Gr n es)(hd:M.Nodup)(hl:∀v∈M,v<n)(hn:M.length=n):(ckR n es (zl M)=0↔∀e∈es,∀i j,i<n→j<n→nth M i=e.1→nth M j=e.2→i<j)∧(ckR n es (zl M)=0∨ckR n es (zl M)=6):=by
 have hR:=zw4 (es:=es) (jkq hd hl)
 have hne:((zl M).length !=n)=false:=by rw[za5,hn];simp
 rw[hne,Bool.false_or]at hR
 have hat:=(zxr (n:=n) hd hl M.length (Nat.le_refl _)).1
 have hE:ckE n es (zl M)=false↔∀e∈es,∀i j,i<n→j<n→nth M i=e.1→nth M j=e.2→i<j:=by
  unfold ckE
  rw[List.any_eq_false,za5]
  constructor
  ·intro hh e he i j hi hj h1 h2
   have:=hh e he
   rw[decide_eq_true_eq,←h1,←h2,hat i (by omega),hat j (by omega)]at this
   omega
  ·intro hh e he
   rw[decide_eq_true_eq]
   have hge:=h.e e he
   obtain⟨i,hi,ei⟩:=zf7 (zq3 hd hl hn hge.1)
   obtain⟨j,hj,ej⟩:=zf7 (zq3 hd hl hn hge.2)
   have:=hh e he i j (by omega) (by omega) ei ej
   rw[←ei,←ej,hat i hi,hat j hj]
   omega
 rw[hR]
 cases hx:ckE n es (zl M)with
 |true=>exact⟨⟨fun hh=>by simp at hh,fun hh=>by rw[hE.2 hh]at hx;cases hx⟩,.inr rfl⟩
 |false=>exact⟨⟨fun _=>hE.1 hx,fun _=>rfl⟩,.inl rfl⟩
structure TpO (n:Nat) (es:List Ed) (L:List Nat):Prop where
 sz:L.length=n
 d:L.Nodup
 lt:∀v∈L,v<n
 ed:∀e∈es,∀i j,i<n→j<n→nth L i=e.1→nth L j=e.2→i<j
 ls:∀i j,i<j→j<n→nth L j≤nth L i→∃m,i≤m∧m<n∧(nth L m,nth L j)∈es
theorem jf4(h:Gr n es):((zd4 n es).2=0∧TpO n es (zd4 n es).1∧OrI n (za9 n es) (zd4 n es).1)∨(zd4 n es=([],50)∧∃u k,u<n∧WayN (zat n es) u u (k+1)):=by
 have hi:=zsg n (za9 n es) n
 have hle:=zlj (n:=n) (prev:=za9 n es) n
 by_cases hc:(zcd n (za9 n es) n).length<n
 ·refine .inr ⟨by rw[zd4,if_pos hc],?_⟩
  -- a node is left, and nothing is free
  have hf:zb8 n (za9 n es) (zcd n (za9 n es) n)=[]:=by
   refine Classical.byContradiction fun hne=>?_
   have key:∀k,zb8 n (za9 n es) (zcd n (za9 n es) k)≠[]→(zcd n (za9 n es) k).length=k:=fun k=>by
    induction k with
    |zero=>intro _;rfl
    |succ k ih=>
     intro hk
     cases hh:zb8 n (za9 n es) (zcd n (za9 n es) k)with
     |nil=>
      have:=zlq hh 1
      rw[this]at hk
      exact absurd hh hk
     |cons v l=>
      rw[zrj hh,List.length_append,ih (by rw[hh];simp)];rfl
   have:=key n hne
   omega
  obtain⟨v,hv,hvn⟩:∃v,v<n∧v∉zcd n (za9 n es) n:=by
   refine Classical.byContradiction fun hno=>?_
   have hall:∀v∈List.range n,v∈zcd n (za9 n es) n:=fun v hv=>Classical.byContradiction fun hh=>hno ⟨v,List.mem_range.1 hv,hh⟩
   have:=List.nodup_range.length_le_of_subset hall
   rw[List.length_range]at this
   omega
  exact zy9 h.two hf hv hvn
 ·have e:zd4 n es=(zcd n (za9 n es) n,0):=by rw[zd4,if_neg hc]
  rw[e]
  have hll:(zcd n (za9 n es) n).length=n:=by omega
  refine .inl ⟨rfl,⟨hll,hi.nd,hi.lt,fun e he i j h1 h2 e1 e2=>?_,fun i j hij hj hle0=>?_⟩,hi⟩
  ·have hge:=h.e e he
   have hp:e.1∈nth (za9 n es) (nth (zcd n (za9 n es) n) j):=by rw[e2];exact(zgu hge.2).2 he
   obtain⟨m,hm,hm2,em⟩:=zi8 (hi.pr j (by omega) _ hp)
   have:=zhe hi.nd hm2 (by omega) (em.trans e1.symm)
   omega
  ·have hle2:nth (zcd n (za9 n es) n) j≤nth (zcd n (za9 n es) n) i:=hle0
   have hne:nth (zcd n (za9 n es) n) j≠nth (zcd n (za9 n es) n) i:=fun e=>by
    have:=zhe hi.nd (by omega) (by omega) e;omega
   have hnt:nth (zcd n (za9 n es) n) j∉(zcd n (za9 n es) n).take i:=fun hm=>by
    obtain⟨m,hm,hm2,em⟩:=zi8 hm
    have:=zhe hi.nd hm2 (by omega) em;omega
   obtain⟨u,hu,hun⟩:=hi.ls i (by omega) _ (by omega) hnt
   have hjn:=hi.lt _ (zbe (l:=zcd n (za9 n es) n) (k:=j) (by omega))
   have hes:=(zgu hjn).1 hu
   obtain⟨m,hm,em⟩:=zf7 (zq3 hi.nd hi.lt hll (h.e _ hes).1)
   refine⟨m,?_,by omega,by rw[em];exact hes⟩
   refine Classical.byContradiction fun hmi=>hun ?_
   rw[←show nth (zcd n (za9 n es) n) m=u from em]
   rw[za1 hm]
   exact List.mem_take_iff_getElem.2 ⟨m,by omega,rfl⟩
theorem znl(h:Gr n es):((zd4 n es).2=0∧(zem n es).2=4)∨((zd4 n es).2=50∧(zem n es).2=0):=by
 rcases jf4 h with⟨h1,h2,h3⟩|⟨h1,u,k,hu,hw⟩
 ·refine .inl ⟨h1,?_⟩
  rcases znk h with⟨k1,k2⟩|⟨k1,_⟩
  ·exfalso
   by_cases hb:(bfS (zat n es) n).1=0
   ·rw[zem,if_pos hb]at k1;cases k1
   ·have hF:=jej h hb
    have hni:∀u,u<(zat n es).length→∀x∈nth (zat n es) u,x<(zat n es).length:=fun u hu x hx=>by
     rw[za7]at hu ⊢;exact h.two.ni u hu x hx
    have hw:=zoo hni (v:=(bfS (zat n es) n).2) (by rw[za7];exact hF.lt) (by rw[hF.g];exact hF.p)
    rw[hF.g]at hw
    obtain⟨m,hm⟩:∃m,(bfS (zat n es) n).1=m+1:=⟨(bfS (zat n es) n).1 - 1,by have:=hF.p;omega⟩
    rw[hm]at hw
    exact zq4 h.two h3 h2.sz hF.lt hw
  ·rw[k1]
 ·refine .inr ⟨by rw[h1],?_⟩
  rcases znk h with⟨k1,_⟩|⟨k1,k2⟩
  ·exact k1
  ·exact absurd hw (k2 u hu (k+1) (by omega))
end
end Go.Proofs.Ytfolbdkbpmgjgaa
