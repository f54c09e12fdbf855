/- The classes as the law DigraphComponents looks at them (no program in sight). -/
import Derived.Test.YtfolbdkbpmgjgaaJr
set_option linter.unusedVariables false
set_option linter.unusedSimpArgs false
namespace Go.Proofs.Ytfolbdkbpmgjgaa
open Go Go.RowKit
structure OfI (n:Nat) (Q:List (List Nat)) (A:List Nat) (i k:Nat):Prop where
 l:A.length=n
 pr:∀a,a<i→∀x∈nth Q a,nth A x=a+1
 cu:∀j,j<k→nth A (nth (nth Q i) j)=i+1
 z:∀v,v<n→(∀a,a<i→v∉nth Q a)→(∀j,j<k→nth (nth Q i) j≠v)→nth A v=0
theorem zek{Q:List (List Nat)}{i:Nat}(h:i<Q.length):nth Q i∈Q:=by rw[za0 h];exact List.getElem_mem h
theorem jmx{n:Nat}{nx Q:List (List Nat)}(h:CmpI n nx Q){i x:Nat}(hi:i<Q.length)(hx:x∈nth Q i):x<n:=(h.al x).1 (List.mem_flatten.2 ⟨_,zek hi,hx⟩)
theorem jox{n:Nat}{nx Q:List (List Nat)}(h:CmpI n nx Q){x:Nat}(hx:x<n):∃i,i<Q.length∧x∈nth Q i:=by
 obtain⟨r,hr,hxr⟩:=List.mem_flatten.1 ((h.al x).2 hx)
 obtain⟨i,hi,rfl⟩:=List.getElem_of_mem hr
 exact⟨i,hi,by rw[za0 hi];exact hxr⟩
theorem jkv{n:Nat}{nx Q:List (List Nat)}(h:CmpI n nx Q){i j x:Nat}(hi:i<Q.length)(hj:j<Q.length)(h1:x∈nth Q i)(h2:x∈nth Q j):i=j:=by
 have hp:=List.pairwise_iff_getElem.1 (List.pairwise_flatten.1 h.nd).2
 rw[za0 hi]at h1
 rw[za0 hj]at h2
 rcases Nat.lt_trichotomy i j with hl|hl|hl
 ·exact absurd rfl (hp i j hi hj hl x h1 x h2)
 ·exact hl
 ·exact absurd rfl (hp j i hj hi hl x h2 x h1)
theorem jmy{n:Nat}{nx Q:List (List Nat)}(h:CmpI n nx Q){i j k:Nat}(hi:i<Q.length)(hjk:j<k)(hk:k<(nth Q i).length):nth (nth Q i) j<nth (nth Q i) k:=by
 have:=List.pairwise_iff_getElem.1 (h.up _ (zek hi)) j k (by omega) hk hjk
 rwa[←za0,←za0]at this
theorem joy{n:Nat}{nx Q:List (List Nat)}(h:CmpI n nx Q){i j:Nat}(hij:i<j)(hj:j<Q.length):nth (nth Q i) 0<nth (nth Q j) 0:=by
 have:=List.pairwise_iff_getElem.1 h.so i j (by omega) hj hij
 rwa[←za0,←za0]at this
theorem jfk{n:Nat}{nx Q:List (List Nat)}(h:CmpI n nx Q){i:Nat}(hi:i<Q.length):0<(nth Q i).length:=List.length_pos_iff.2 (h.ne _ (zek hi))
theorem zzp{n:Nat}{nx Q:List (List Nat)}(h:CmpI n nx Q):Q.flatten.length=n:=by
 have:Q.flatten.Perm (List.range n):=(List.perm_ext_iff_of_nodup h.nd List.nodup_range).2 fun a=>by rw[h.al,List.mem_range]
 rw[this.length_eq,List.length_range]
theorem zw0{Q:List (List Nat)}{i:Nat}(h:i<Q.length):(Q.take (i+1)).flatten.length=(Q.take i).flatten.length+(nth Q i).length:=by
 rw[za0 h,List.take_add_one,List.getElem?_eq_getElem h,List.flatten_append,List.length_append];simp
theorem joz(n:Nat)(Q:List (List Nat)):OfI n Q (List.replicate n 0) 0 0:=⟨List.length_replicate,fun a h=>absurd h (by omega),fun a h=>absurd h (by omega),fun v _ _ _=>zor n v⟩
section
variable {n:Nat} {nx Q:List (List Nat)} {A:List Nat} {i k:Nat}
theorem jo0(h:CmpI n nx Q)(o:OfI n Q A i k)(hi:i<Q.length)(hk:k<(nth Q i).length):nth A (nth (nth Q i) k)=0:=by
 have hm:=za9 hk
 refine o.z _ (jmx h hi hm) (fun a ha hx=>?_) fun j hj e=>?_
 ·have:=jkv h (by omega) hi hx hm
  omega
 ·have:=jmy h hi hj hk
  omega
theorem jmz(h:CmpI n nx Q)(o:OfI n Q A i k)(hi:i<Q.length)(hk:k<(nth Q i).length):OfI n Q (A.set (nth (nth Q i) k) (i+1)) i (k+1):=by
 have hm:=za9 hk
 have hln:nth (nth Q i) k<A.length:=by rw[o.l];exact jmx h hi hm
 refine⟨by rw[List.length_set];exact o.l,fun a ha x hx=>?_,fun j hj=>?_,fun v hv h1 h2=>?_⟩
 ·rw[za1 fun e=>by
   rw[←e]at hx
   have:=jkv h (by omega) hi hx hm
   omega]
  exact o.pr a ha x hx
 ·rcases Nat.lt_or_ge j k with hlt|hge
  ·rw[za1 fun e=>by have:=jmy h hi hlt hk;omega]
   exact o.cu j hlt
  ·rw[show j=k by omega];exact za2 hln
 ·rw[za1 (h2 k (by omega))]
  exact o.z v hv h1 fun j hj=>h2 j (by omega)
theorem jm0(o:OfI n Q A i k)(hk:k=(nth Q i).length):OfI n Q A (i+1) 0:=by
 refine⟨o.l,fun a ha x hx=>?_,fun j hj=>absurd hj (by omega),fun v hv h1 _=>?_⟩
 ·rcases Nat.lt_or_ge a i with hlt|hge
  ·exact o.pr a hlt x hx
  ·obtain rfl:a=i:=by omega
   obtain⟨j,hj,rfl⟩:=ziz hx
   exact o.cu j (by omega)
 ·exact o.z v hv (fun a ha=>h1 a (by omega)) fun j hj e=>h1 i (by omega) (by rw[←e];exact za9 (by omega))
end
structure OfE (n:Nat) (Q:List (List Nat)) (A:List Nat):Prop where
 l:A.length=n
 pr:∀a,a<Q.length→∀x∈nth Q a,nth A x=a+1
theorem OfI.e{n:Nat}{Q:List (List Nat)}{A:List Nat}{i k:Nat}(o:OfI n Q A i k)(h:i=Q.length):OfE n Q A:=⟨o.l,fun a ha=>o.pr a (by omega)⟩
section
variable {n:Nat} {es:List Ed} {Q:List (List Nat)} {A:List Nat}
theorem zsa{nx:List (List Nat)}(h:CmpI n nx Q)(o:OfE n Q A){v:Nat}(hv:v<n):∃a,a<Q.length∧v∈nth Q a∧nth A v=a+1:=by
 obtain⟨a,ha,hx⟩:=jox h hv
 exact⟨a,ha,hx,o.pr a ha v hx⟩
theorem jm1{nx:List (List Nat)}(h:CmpI n nx Q)(o:OfE n Q A){v w:Nat}(hv:v<n)(hw:w<n):nth A v=nth A w↔RT nx v w∧RT nx w v:=by
 obtain⟨a,ha,hx,e1⟩:=zsa h o hv
 obtain⟨b,hb,hy,e2⟩:=zsa h o hw
 rw[←h.cl _ (zek ha) v hx w,e1,e2]
 constructor
 ·intro e
  obtain rfl:a=b:=by omega
  exact hy
 ·intro hm
  rw[jkv h ha hb hm hy]
def smE(A:List Nat)(es:List Ed):List Ed:=(es.map fun e=>(nth A e.1 - 1,nth A e.2 - 1)).filter fun e=>e.1 !=e.2
theorem jb1(A:List Nat)(es:List Ed):(smE A es).length≤es.length:=Nat.le_trans (List.length_filter_le _ _) (by simp)
theorem jfl(A:List Nat){es:List Ed}{k:Nat}(h:k<es.length):smE A (es.take (k+1))=if nth A (nth es k).1 - 1=nth A (nth es k).2 - 1 then smE A (es.take k)else smE A (es.take k)++[(nth A (nth es k).1 - 1,nth A (nth es k).2 - 1)]:=by
 unfold smE
 rw[za0 h,List.take_add_one,List.getElem?_eq_getElem h,List.map_append,List.filter_append]
 by_cases e:nth A es[k].1 - 1=nth A es[k].2 - 1
 ·rw[if_pos e];simp[e]
 ·rw[if_neg e];simp[e]
theorem sm_mem{a b:Nat}:(a,b)∈smE A es↔a≠b∧∃e∈es,nth A e.1 - 1=a∧nth A e.2 - 1=b:=by
 unfold smE
 rw[List.mem_filter,List.mem_map]
 constructor
 ·rintro⟨⟨e,he,h1⟩,h2⟩
  rw[Prod.mk.injEq]at h1
  exact⟨by simpa using h2,e,he,h1⟩
 ·rintro⟨h2,e,he,h1,h3⟩
  exact⟨⟨e,he,by rw[h1,h3]⟩,by simpa using h2⟩
theorem zw1(hG:Gr n es)(h:CmpI n (za5 n es) Q)(o:OfE n Q A){a b:Nat}(hm:(a,b)∈smE A es):a≠b∧a<Q.length∧b<Q.length∧∃x y,(x,y)∈es∧x<n∧y<n∧x∈nth Q a∧y∈nth Q b:=by
 obtain⟨hne,⟨x,y⟩,he,h1,h2⟩:=sm_mem.1 hm
 have hb:=hG.e _ he
 obtain⟨i,hi,hx,e1⟩:=zsa h o hb.1
 obtain⟨j,hj,hy,e2⟩:=zsa h o hb.2
 obtain rfl:i=a:=by simp only at h1 e1;omega
 obtain rfl:j=b:=by simp only at h2 e2;omega
 exact⟨hne,hi,hj,x,y,he,hb.1,hb.2,hx,hy⟩
theorem jj2{nx:List (List Nat)}(h:CmpI n nx Q):Q.length≤n:=by have:=zk9 h.ne;rw[zzp h]at this;exact this
theorem jm2(hG:Gr n es)(h:CmpI n (za5 n es) Q)(o:OfE n Q A):Gr Q.length (smE A es):=by
 have h1:=jj2 h
 have h2:=jb1 A es
 refine⟨by have:=hG.b;omega,by have:=hG.l;omega,fun e he=>?_⟩
 obtain⟨a,b⟩:=e
 obtain⟨_,h3,h4,_⟩:=zw1 hG h o he
 exact⟨h3,h4⟩
theorem jm3(hG:Gr n es)(h:CmpI n (za5 n es) Q)(o:OfE n Q A){a b k:Nat}(ha:a<Q.length)(hw:WayN (za5 Q.length (smE A es)) a b k):b<Q.length∧∀x∈nth Q a,∀y∈nth Q b,RT (za5 n es) x y:=by
 induction hw with
 |here=>exact⟨ha,fun x hx y hy=>((h.cl _ (zek ha) x hx y).1 hy).1⟩
 |@go b c k hb hc ih=>
  obtain⟨_,_,hcl,u,v,he,hu,hv,hub,hvc⟩:=zw1 hG h o ((zdj ih.1).1 hc)
  exact⟨hcl,fun x hx y hy=>((ih.2 x hx u hub).go ((zdj hu).2 he)).trans ((h.cl _ (zek hcl) v hvc y).1 hy).1⟩
theorem jj3(hG:Gr n es)(h:CmpI n (za5 n es) Q)(o:OfE n Q A):Acy Q.length (smE A es):=fun a ha d hd hw=>by
 obtain⟨k,rfl⟩:∃k,d=k+1:=⟨d - 1,by omega⟩
 obtain⟨b,hb,hk⟩:=WayN.uncons hw
 obtain⟨hne,_,hbl,u,v,he,hu,hv,hua,hvb⟩:=zw1 hG h o ((zdj ha).1 hb)
 have h1:=(jm3 hG h o hbl hk).2 v hvb u hua
 have h2:RT (za5 n es) u v:=RT.here.go ((zdj hu).2 he)
 exact hne (jkv h ha hbl ((h.cl _ (zek ha) u hua v).2 ⟨h2,h1⟩) hvb)
def slf(es:List Ed):Bool:=es.any fun e=>e.1==e.2
theorem slf_iff:slf es=true↔∃v,(v,v)∈es:=by
 unfold slf
 rw[List.any_eq_true]
 constructor
 ·rintro⟨⟨a,b⟩,h1,h2⟩
  have:a=b:=by simpa using h2
  exact⟨a,by rw[←this]at h1;exact h1⟩
 ·rintro⟨v,hv⟩
  exact⟨(v,v),hv,by simp⟩
theorem zzq{es:List Ed}{k:Nat}(h:k<es.length):slf (es.take (k+1))=(slf (es.take k)||((nth es k).1==(nth es k).2)):=by
 unfold slf
 rw[za0 h,List.take_add_one,List.getElem?_eq_getElem h,List.any_append];simp
theorem zw2:∀{L:List (List Nat)},(∀r∈L,r≠[])→L.flatten.length=L.length→∀r∈L,r.length=1
 |[],_,_=>fun r hr=>by cases hr
 |q::L,h,e=>fun r hr=>by
  have h1:=zk9 (l:=L) fun r hr=>h r (List.mem_cons_of_mem _ hr)
  have h2:0<q.length:=List.length_pos_iff.2 (h q List.mem_cons_self)
  rw[List.flatten_cons,List.length_append,List.length_cons]at e
  rcases List.mem_cons.1 hr with rfl|hr
  ·omega
  ·exact zw2 (fun r hr=>h r (List.mem_cons_of_mem _ hr)) (by omega) r hr
theorem zw3:∀{L:List (List Nat)},(∀r∈L,r.length=1)→L.flatten.length=L.length
 |[],_=>rfl
 |q::L,h=>by
  rw[List.flatten_cons,List.length_append,List.length_cons,h q List.mem_cons_self,zw3 fun r hr=>h r (List.mem_cons_of_mem _ hr),Nat.add_comm]
theorem jj4{nx:List (List Nat)}{a b k:Nat}(w:WayN nx a b k)(h:a≠b):1≤k:=by
 cases w with
 |here=>exact absurd rfl h
 |go _ _=>omega
theorem jm4(hG:Gr n es)(h:CmpI n (za5 n es) Q):Acy n es↔(Q.length=n∧slf es=false):=by
 constructor
 ·intro hA
  constructor
  ·rw[←zw3 fun r hr=>?_,zzp h]
   have h0:0<r.length:=List.length_pos_iff.2 (h.ne r hr)
   refine Classical.byContradiction fun h1=>?_
   have hx:=za9 (l:=r) (k:=0) h0
   have hy:=za9 (l:=r) (k:=1) (by omega)
   have hlt:nth r 0<nth r 1:=by
    have:=List.pairwise_iff_getElem.1 (h.up r hr) 0 1 h0 (by omega) (by omega)
    rwa[←za0,←za0]at this
   obtain⟨r1,r2⟩:=(h.cl r hr _ hx _).1 hy
   obtain⟨k1,w1⟩:=jbz r1
   obtain⟨k2,w2⟩:=jbz r2
   have hk:=jj4 w1 (by omega)
   exact hA _ ((h.al _).1 (List.mem_flatten.2 ⟨r,hr,hx⟩)) (k1+k2) (by omega) (w1.trans w2)
  ·cases hs:slf es with
   |false=>rfl
   |true=>
    obtain⟨v,hv⟩:=slf_iff.1 hs
    have hvn:=(hG.e _ hv).1
    exact absurd (WayN.here.go ((zdj hvn).2 hv)) (hA v hvn 1 (Nat.le_refl _))
 ·rintro⟨hn,hs⟩ v hv d hd hw
  have h1:=zw2 h.ne (by rw[zzp h,hn])
  obtain⟨k,rfl⟩:∃k,d=k+1:=⟨d - 1,by omega⟩
  obtain⟨b,hb,hk⟩:=WayN.uncons hw
  have hr2:RT (za5 n es) v b:=RT.here.go hb
  obtain⟨r,hr,hvr⟩:=List.mem_flatten.1 ((h.al v).2 hv)
  have hbr:=(h.cl r hr v hvr b).2 ⟨hr2,hk.rt⟩
  have hbv:b=v:=by
   obtain⟨x,rfl⟩:=List.length_eq_one_iff.1 (h1 r hr)
   rw[List.mem_singleton]at hvr hbr
   omega
  have:slf es=true:=slf_iff.2 ⟨v,by rw[hbv]at hb;exact(zdj hv).1 hb⟩
  rw[hs]at this
  cases this
end
end Go.Proofs.Ytfolbdkbpmgjgaa
