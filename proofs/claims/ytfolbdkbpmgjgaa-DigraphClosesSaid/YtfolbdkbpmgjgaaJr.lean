/- Reversed graphs, and one more edge: what changes (no program in sight). -/
import Derived.Test.YtfolbdkbpmgjgaaJp
set_option linter.unusedVariables false
set_option linter.unusedSimpArgs false
namespace Go.Proofs.Ytfolbdkbpmgjgaa
open Go Go.RowKit
theorem jco{n:Nat}{es es':List Ed}(h:Gr n es)(h':Gr n es')(hs:∀e∈es,e∈es'){v x:Nat}(hv:v<n)(hr:RT (zat n es) v x):x<n∧RT (zat n es') v x:=by
 induction hr with
 |here=>exact⟨hv,.here⟩
 |@go b c hb hc ih=>
  have hm:=(zcc ih.1).1 hc
  exact⟨(h.e _ hm).2,ih.2.go ((zcc ih.1).2 (hs _ hm))⟩
theorem jkr{n:Nat}{es:List Ed}(h:Gr n es){v x:Nat}(hv:v<n)(hr:RT (zat n es) v x):x<n:=(jco h h (fun _ h=>h) hv hr).1
theorem jad{n:Nat}{es es':List Ed}(h:Gr n es)(h':Gr n es')(hs:∀e∈es,e∈es'){v x:Nat}(hv:v<n)(hr:RT (zat n es) v x):RT (zat n es') v x:=(jco h h' hs hv hr).2
theorem jcp{nx:List (List Nat)}{a b:Nat}(h:RT nx a b):∃k,WayN nx a b k:=by
 induction h with
 |here=>exact⟨0,.here⟩
 |go _ hc ih=>obtain⟨k,hk⟩:=ih;exact⟨k+1,hk.go hc⟩
theorem jcq{n:Nat}{es:List Ed}(h:Gr n es){a b k:Nat}(ha:a<n)(hw:WayN (zat n es) a b k):b<n:=jkr h ha hw.rt
def zen(es:List Ed):List Ed:=es.map fun e=>(e.2,e.1)
theorem rev_mem{es:List Ed}{a b:Nat}:(a,b)∈zen es↔(b,a)∈es:=by
 unfold zen
 rw[List.mem_map]
 constructor
 ·rintro⟨⟨x,y⟩,h1,h2⟩
  rw[Prod.mk.injEq]at h2
  rw[←h2.1,←h2.2];exact h1
 ·intro h;exact⟨(b,a),h,rfl⟩
theorem Gr.rev{n:Nat}{es:List Ed}(h:Gr n es):Gr n (zen es):=⟨h.b,by unfold zen;rw[List.length_map];exact h.l,fun e he=>by
 obtain⟨a,b⟩:=e
 have:=h.e _ (rev_mem.1 he)
 exact⟨this.2,this.1⟩⟩
theorem jnn{n:Nat}{es:List Ed}(h:Gr n es){a b k:Nat}(ha:a<n)(hw:WayN (zat n es) a b k):WayN (zat n (zen es)) b a k:=by
 induction hw with
 |here=>exact .here
 |@go b c k hb hc ih=>
  have hbn:=jcq h ha hb
  have hm:=(zcc hbn).1 hc
  exact WayN.head ((zcc (h.e _ hm).2).2 (rev_mem.2 hm)) ih
theorem zjn(es:List Ed):zen (zen es)=es:=by
 unfold zen;rw[List.map_map];exact(List.map_congr_left fun e _=>rfl).trans (List.map_id _)
theorem zrs{n:Nat}{es:List Ed}(h:Gr n es){a b:Nat}(ha:a<n)(hr:RT (zat n es) a b):RT (zat n (zen es)) b a:=by
 obtain⟨k,hk⟩:=jcp hr
 exact(jnn h ha hk).rt
theorem jf6{n:Nat}{es:List Ed}(h:Gr n es):jfa n es=jfa n (zen es):=
 zrn (zrp h) (zrp h.rev) fun x y hx hy=>⟨fun⟨h1,h2⟩=>⟨zrs h hy h2,zrs h hx h1⟩,fun⟨h1,h2⟩=>by
  have k1:=zrs h.rev hx h1
  have k2:=zrs h.rev hy h2
  rw[zjn]at k1 k2
  exact⟨k2,k1⟩⟩
def Acy(n:Nat)(es:List Ed):Prop:=∀v,v<n→∀d,1≤d→¬WayN (zat n es) v v d
theorem zxs{n:Nat}{es:List Ed}(h:Gr n es)(ha:Acy n es):Acy n (zen es):=fun v hv d hd hw=>by
 have:=jnn h.rev hv hw
 rw[zjn]at this
 exact ha v hv d hd this
theorem zrt{n:Nat}{es:List Ed}(h:Gr n es):(zd4 n es).2=0↔Acy n es:=by
 rcases jf4 h with⟨h1,h2,h3⟩|⟨h1,u,k,hu,hw⟩
 ·refine⟨fun _ v hv d hd hw=>?_,fun _=>h1⟩
  obtain⟨m,rfl⟩:∃m,d=m+1:=⟨d - 1,by omega⟩
  exact zq4 h.two h3 h2.sz hv hw
 ·exact⟨fun h2=>by(rw[h1]at h2;cases h2),fun ha=>absurd hw (ha u hu (k+1) (by omega))⟩
theorem jcr{n:Nat}{es:List Ed}(h:Gr n es):(zd4 n es).2=0↔(zd4 n (zen es)).2=0:=by
 rw[zrt h,zrt h.rev]
 exact⟨zxs h,fun ha=>by have:=zxs h.rev ha;rwa[zjn]at this⟩
theorem znm{n:Nat}{es:List Ed}{L:List Nat}(hl:1≤L.length)(hlt:∀i,i<L.length→nth L i<n)(hed:∀i,i<L.length→(nth L i,nth L ((i+1) % L.length))∈es):WayN (zat n es) (nth L 0) (nth L 0) L.length:=by
 have key:∀i,i<L.length→WayN (zat n es) (nth L 0) (nth L i) i:=fun i=>by
  induction i with
  |zero=>intro _;exact .here
  |succ i ih=>
   intro hi
   have h1:=hed i (by omega)
   rw[Nat.mod_eq_of_lt hi]at h1
   exact(ih (by omega)).go ((zcc (hlt i (by omega))).2 h1)
 have h1:=hed (L.length - 1) (by omega)
 rw[show L.length - 1+1=L.length by omega,Nat.mod_self]at h1
 have:=(key (L.length - 1) (by omega)).go ((zcc (hlt _ (by omega))).2 h1)
 rwa[show L.length - 1+1=L.length by omega]at this
theorem zko{n:Nat}{es:List Ed}(h:Gr n es)(hr:(zem n es).2=0)(h2:(zem n (zen es)).2=0):(zem n (zen es)).1.length≤(zem n es).1.length:=by
 rcases znk h with⟨_,k⟩|⟨k,_⟩
 ·rcases znk h.rev with⟨_,m⟩|⟨m,_⟩
  ·have hw:=jnn h (k.lt 0 (by have:=k.l0;omega)) (znm k.l0 k.lt k.ed)
   refine Classical.byContradiction fun hlt=>?_
   exact m.mn _ (k.lt 0 (by have:=k.l0;omega)) _ k.l0 (by omega) hw
  ·rw[m]at h2;cases h2
 ·rw[k]at hr;cases hr
theorem jf7{n:Nat}{es:List Ed}(h:Gr n es):(zem n es).1.length=(zem n (zen es)).1.length:=by
 have hc:=znl h
 have hc':=znl h.rev
 have ho:=jcr h
 by_cases hz:(zd4 n es).2=0
 ·have hz':=ho.1 hz
  have e1:zem n es=([],4):=by
   rcases znk h with⟨k,_⟩|⟨k,_⟩
   ·rcases hc with⟨_,c⟩|⟨c,_⟩<;>omega
   ·exact k
  have e2:zem n (zen es)=([],4):=by
   rcases znk h.rev with⟨k,_⟩|⟨k,_⟩
   ·rcases hc' with⟨_,c⟩|⟨c,_⟩<;>omega
   ·exact k
  rw[e1,e2]
 ·have hz':(zd4 n (zen es)).2≠0:=fun e=>hz (ho.2 e)
  have c1:(zem n es).2=0:=by omega
  have c2:(zem n (zen es)).2=0:=by omega
  have a1:=zko h c1 c2
  have a2:=zko h.rev c2 (by rw[zjn];exact c1)
  rw[zjn]at a2
  omega
theorem zo9{L:List Nat}{i:Nat}(h:i<L.length):nth L.reverse i=nth L (L.length - 1 - i):=by
 rw[za1 (by rw[List.length_reverse];exact h),za1 (by omega),List.getElem_reverse]
theorem jf8{n:Nat}{es:List Ed}{L:List Nat}(h:Gr n es)(hT:TpO n es L):ckR n (zen es) (zl L.reverse)=0:=by
 refine(jnm h.rev (List.pairwise_reverse.2 (hT.d.imp fun h e=>h e.symm)) (fun v hv=>hT.lt v (List.mem_reverse.1 hv)) (by rw[List.length_reverse,hT.sz])).1.2 fun e he i j hi hj h1 h2=>?_
 obtain⟨a,b⟩:=e
 have hm:=rev_mem.1 he
 rw[zo9 (by rw[hT.sz];exact hi),hT.sz]at h1
 rw[zo9 (by rw[hT.sz];exact hj),hT.sz]at h2
 have:=hT.ed _ hm (n - 1 - j) (n - 1 - i) (by omega) (by omega) h2 h1
 omega
theorem jae{n:Nat}{es:List Ed}(h:Gr n es){v w a b k:Nat}(hv:v<n)(hw:w<n)(ha:a<n)(hs:Gr n (es++[(v,w)]))(hr:WayN (zat n (es++[(v,w)])) a b k):WayN (zat n es) a b k∨(RT (zat n es) a v∧RT (zat n es) w b):=by
 induction hr with
 |here=>exact .inl .here
 |@go b c k hb hc ih=>
  have hbn:=jcq hs ha hb
  have hm:=(zcc hbn).1 hc
  rcases List.mem_append.1 hm with hm|hm
  ·have hc':=(zcc hbn).2 hm
   rcases ih with ih|⟨i1,i2⟩
   ·exact .inl (ih.go hc')
   ·exact .inr ⟨i1,i2.go hc'⟩
  ·rw[List.mem_singleton,Prod.mk.injEq]at hm
   obtain⟨rfl,rfl⟩:=hm
   rcases ih with ih|⟨i1,_⟩
   ·exact .inr ⟨ih.rt,.here⟩
   ·exact .inr ⟨i1,.here⟩
theorem jaf{n:Nat}{es:List Ed}(h:Gr n es)(hA:Acy n es){v w:Nat}(hv:v<n)(hw:w<n)(hs:Gr n (es++[(v,w)])):Acy n (es++[(v,w)])↔¬RT (zat n es) w v:=by
 constructor
 ·intro hA2 hr
  have:=(jad h hs (fun e he=>List.mem_append_left _ he) hw hr)
  obtain⟨k,hk⟩:=jcp this
  have he:w∈nth (zat n (es++[(v,w)])) v:=(zcc hv).2 (by simp)
  exact hA2 v hv (k+1) (by omega) (WayN.head he hk)
 ·intro hn u hu d hd hway
  rcases jae h hv hw hu hs hway with h1|⟨h1,h2⟩
  ·exact hA u hu d hd h1
  ·exact hn (h2.trans h1)
theorem jag{n:Nat}{es:List Ed}(h:Gr n es)(hA:Acy n es){v w:Nat}(hs:Gr n (es++[(v,w)]))(hc:(zem n (es++[(v,w)])).2=0):v∈(zem n (es++[(v,w)])).1∧w∈(zem n (es++[(v,w)])).1:=by
 rcases znk hs with⟨_,k⟩|⟨k,_⟩
 ·generalize(zem n (es++[(v,w)])).1=L at k
  obtain⟨i,hi,hni⟩:∃i,i<L.length∧(nth L i,nth L ((i+1) % L.length))∉es:=by
   refine Classical.byContradiction fun hno=>?_
   have hall:∀i,i<L.length→(nth L i,nth L ((i+1) % L.length))∈es:=fun i hi=>Classical.byContradiction fun hh=>hno ⟨i,hi,hh⟩
   exact hA _ (k.lt 0 (by have:=k.l0;omega)) _ k.l0 (znm k.l0 k.lt hall)
  have hm:=k.ed i hi
  rcases List.mem_append.1 hm with hm|hm
  ·exact absurd hm hni
  ·rw[List.mem_singleton,Prod.mk.injEq]at hm
   have h1:=zbe hi
   have h2:=zbe (l:=L) (k:=(i+1) % L.length) (Nat.mod_lt _ (by omega))
   rw[hm.1]at h1
   rw[hm.2]at h2
   exact⟨h1,h2⟩
 ·rw[k]at hc;cases hc
end Go.Proofs.Ytfolbdkbpmgjgaa
