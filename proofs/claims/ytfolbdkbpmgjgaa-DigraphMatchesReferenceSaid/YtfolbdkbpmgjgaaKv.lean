/- Breadth first search, as a plain function: it finds what can be reached. -/
import Derived.Test.YtfolbdkbpmgjgaaAR
set_option linter.unusedVariables false
set_option linter.unusedSimpArgs false
namespace Go.Proofs.Ytfolbdkbpmgjgaa
open Go Go.RowKit
section
structure Bf where
 far:List Nat
 q:List Nat
 out:List Nat
def zd2(d:Nat)(s:Bf)(w:Nat):Bf:=if nth s.far w=0 then⟨s.far.set w d,s.q++[w],s.out⟩else s
def zdj(d:Nat)(s:Bf)(row:List Nat):Bf:=row.foldl (zd2 d) s
def zfl(next:List (List Nat))(s:Bf):Bf:=match s.q with
 |[]=>s
 |v::q=>zdj (nth s.far v+1) ⟨s.far,q,s.out++[v]⟩ (nth next v)
def zfm(next:List (List Nat)):Nat→Bf→Bf
 |0,s=>s
 |k+1,s=>zfm next k (zfl next s)
def zb6(n start:Nat):Bf:=⟨(List.replicate n 0).set start 1,[start],[]⟩
inductive RT (next:List (List Nat)) (a:Nat):Nat→Prop
 |here:RT next a a
 |go {b c:Nat} (h:RT next a b) (hc:c∈nth next b):RT next a c
theorem RT.trans{next:List (List Nat)}{a b c:Nat}(h:RT next a b)(h':RT next b c):RT next a c:=by
 induction h' with
 |here=>exact h
 |go _ hc ih=>exact ih.go hc
structure BfI (next:List (List Nat)) (start:Nat) (s:Bf):Prop where
 len:s.far.length=next.length
 nd:(s.out++s.q).Nodup
 far:∀v,v<next.length→(nth s.far v≠0↔v∈s.out++s.q)
 lt:∀v∈s.out++s.q,v<next.length
 rt:∀v∈s.out++s.q,RT next start v
 st:start∈s.out++s.q
 pr:∀v∈s.out++s.q,v≠start→∃u∈s.out,u≠v∧v∈nth next u
structure BfM (next:List (List Nat)) (start v:Nat) (row:List Nat) (s:Bf):Prop where
 i:BfI next start s
 mv:v∈s.out
 cl:∀u∈s.out,u≠v→∀w∈nth next u,w∈s.out++s.q
 row:∀w∈row,w∈s.out++s.q
section
variable {next:List (List Nat)} {start:Nat}
theorem jdr{d v w:Nat}{row:List Nat}{s:Bf}(hn:∀u,u<next.length→∀x∈nth next u,x<next.length)(hd:d≠0)(h:BfM next start v row s)(hw:w∈nth next v):BfM next start v (row++[w]) (zd2 d s w):=by
 have hv:v<next.length:=h.i.lt v (List.mem_append_left _ h.mv)
 have hwl:=hn v hv w hw
 unfold zd2
 by_cases e:nth s.far w=0
 ·rw[if_pos e]
  have hnw:w∉s.out++s.q:=fun m=>((h.i.far w hwl).2 m) e
  have hm:∀x,x∈s.out++(s.q++[w])↔x∈s.out++s.q∨x=w:=fun x=>by
   simp only[List.mem_append,List.mem_singleton,or_assoc]
  refine⟨⟨by simp[h.i.len],?_,fun x hx=>?_,fun x hx=>?_,fun x hx=>?_,(hm _).2 (.inl h.i.st),fun x hx hne=>?_⟩,h.mv,fun u hu hne x hx=>(hm _).2 (.inl (h.cl u hu hne x hx)),fun x hx=>?_⟩
  ·show(s.out++(s.q++[w])).Nodup
   rw[←List.append_assoc,List.nodup_append]
   refine⟨h.i.nd,by simp,fun a ha b hb e2=>hnw ?_⟩
   rw[List.mem_singleton]at hb
   rw[←hb,←e2];exact ha
  ·rw[hm]
   by_cases ex:w=x
   ·subst ex
    rw[zaz (by rw[h.i.len];exact hwl)]
    exact⟨fun _=>.inr rfl,fun _=>hd⟩
   ·rw[zax ex,h.i.far x hx]
    exact⟨.inl,fun o=>o.elim id fun e2=>absurd e2.symm ex⟩
  ·rcases(hm x).1 hx with hx|rfl
   ·exact h.i.lt x hx
   ·exact hwl
  ·rcases(hm x).1 hx with hx|rfl
   ·exact h.i.rt x hx
   ·exact(h.i.rt v (List.mem_append_left _ h.mv)).go hw
  ·rcases(hm x).1 hx with hx|rfl
   ·exact h.i.pr x hx hne
   ·exact⟨v,h.mv,fun e2=>hnw (e2▸List.mem_append_left _ h.mv),hw⟩
  ·rcases List.mem_append.1 hx with hx|hx
   ·exact(hm _).2 (.inl (h.row x hx))
   ·exact(hm _).2 (.inr (List.mem_singleton.1 hx))
 ·rw[if_neg e]
  refine⟨h.i,h.mv,h.cl,fun x hx=>?_⟩
  rcases List.mem_append.1 hx with hx|hx
  ·exact h.row x hx
  ·rw[List.mem_singleton.1 hx];exact(h.i.far w hwl).1 e
theorem zpf{d v:Nat}(hn:∀u,u<next.length→∀x∈nth next u,x<next.length)(hd:d≠0):∀(r row:List Nat) (s:Bf),BfM next start v row s→(∀w∈r,w∈nth next v)→BfM next start v (row++r) (zdj d s r)
 |[],row,s,h,_=>by rw[List.append_nil];exact h
 |w::r,row,s,h,hr=>by
  have:=zpf hn hd r (row++[w]) (zd2 d s w) (jdr hn hd h (hr w (by simp))) fun x hx=>hr x (by simp[hx])
  rwa[List.append_assoc]at this
structure BfC (next:List (List Nat)) (start:Nat) (s:Bf):Prop where
 i:BfI next start s
 cl:∀u∈s.out,∀w∈nth next u,w∈s.out++s.q
theorem jf3{v:Nat}{q:List Nat}{s:Bf}(h:BfC next start s)(hq:s.q=v::q):BfM next start v [] ⟨s.far,q,s.out++[v]⟩:=by
 have e:(s.out++[v])++q=s.out++s.q:=by rw[hq];simp
 refine⟨⟨h.i.len,by show((s.out++[v])++q).Nodup;rw[e];exact h.i.nd,?_,?_,?_,?_,?_⟩,by simp,?_,fun w hw=>by cases hw⟩
 ·show ∀x,x<next.length→(nth s.far x≠0↔x∈(s.out++[v])++q);rw[e];exact h.i.far
 ·show ∀x∈(s.out++[v])++q,_;rw[e];exact h.i.lt
 ·show ∀x∈(s.out++[v])++q,_;rw[e];exact h.i.rt
 ·show start∈(s.out++[v])++q;rw[e];exact h.i.st
 ·show ∀x∈(s.out++[v])++q,x≠start→∃u∈s.out++[v],u≠x∧x∈nth next u
  rw[e]
  intro x hx hne
  obtain⟨u,hu,h1,h2⟩:=h.i.pr x hx hne
  exact⟨u,List.mem_append_left _ hu,h1,h2⟩
 ·show ∀u∈s.out++[v],u≠v→∀w∈nth next u,w∈(s.out++[v])++q
  rw[e]
  intro u hu hne w hw
  rcases List.mem_append.1 hu with hu|hu
  ·exact h.cl u hu w hw
  ·exact absurd (List.mem_singleton.1 hu) hne
theorem jds{s:Bf}(hn:∀u,u<next.length→∀x∈nth next u,x<next.length)(h:BfC next start s):BfC next start (zfl next s):=by
 unfold zfl
 split
 ·exact h
 ·rename_i v q hq
  have hm:=zpf (d:=nth s.far v+1) hn (by omega) (nth next v) [] _ (jf3 h hq) fun w hw=>hw
  refine⟨hm.i,fun u hu w hw=>?_⟩
  by_cases e:u=v
  ·subst e;exact hm.row w (by simpa using hw)
  ·exact hm.cl u hu e w hw
theorem zn1(d:Nat):∀(r:List Nat) (s:Bf),(zdj d s r).out=s.out
 |[],s=>rfl
 |w::r,s=>by
  show(zdj d (zd2 d s w) r).out=_
  rw[zn1 d r];unfold zd2;split<;>rfl
theorem zl1{s:Bf}:(zfl next s).out=s.out++s.q.take 1:=by
 unfold zfl
 split
 ·rename_i h;rw[h];simp
 ·rename_i v q h;rw[zn1,h];simp
theorem zpg(hn:∀u,u<next.length→∀x∈nth next u,x<next.length):∀(k:Nat) {s:Bf},BfC next start s→BfC next start (zfm next k s)
 |0,_,h=>h
 |k+1,_,h=>zpg hn k (jds hn h)
theorem zjn(hs:start<next.length):BfC next start (zb6 next.length start):=by
 refine⟨⟨by simp[zb6],by simp[zb6],fun v hv=>?_,fun v hv=>?_,fun v hv=>?_,by simp[zb6],fun v hv hne=>?_⟩,fun u hu=>by simp[zb6]at hu⟩
 ·show nth ((List.replicate next.length 0).set start 1) v≠0↔v∈([]:List Nat)++[start]
  by_cases e:start=v
  ·subst e;rw[zaz (by simpa using hs)];simp
  ·rw[zax e]
   have:nth (List.replicate next.length 0) v=0:=by rw[za5 (by simpa using hv)];simp
   rw[this];simp;exact fun h=>e h.symm
 ·have:v=start:=by simpa[zb6]using hv
  rw[this];exact hs
 ·have:v=start:=by simpa[zb6]using hv
  rw[this];exact .here
 ·exact absurd (by simpa[zb6]using hv) hne
theorem zcr:∀{n:Nat} {l:List Nat},l.Nodup→(∀x∈l,x<n)→l.length≤n
 |0,l,_,hl=>by
  cases l with
  |nil=>exact Nat.le_refl _
  |cons a l=>exact absurd (hl a (by simp)) (Nat.not_lt_zero _)
 |n+1,l,hd,hl=>by
  by_cases hm:n∈l
  ·have h1:(l.erase n).Nodup:=hd.erase n
   have h2:∀x∈l.erase n,x<n:=fun x hx=>by
    have h3:=hl x (List.mem_of_mem_erase hx)
    have h4:x≠n:=fun e=>by subst e;exact(hd.mem_erase_iff.1 hx).1 rfl
    omega
   have h5:=zcr h1 h2
   have h6:=List.length_erase_of_mem hm
   omega
  ·have:=zcr hd fun x hx=>by
    have h3:=hl x hx
    have h4:x≠n:=fun e=>hm (e▸hx)
    exact(show x<n by omega)
   omega
theorem zjo{s:Bf}(h:BfC next start s):(s.out++s.q).length≤next.length:=zcr h.i.nd h.i.lt
theorem zph{s:Bf}(h:BfC next start s)(hq:s.q=[])(v:Nat):v∈s.out↔RT next start v:=by
 have e:s.out++s.q=s.out:=by rw[hq,List.append_nil]
 refine⟨fun hv=>h.i.rt v (by rw[e];exact hv),fun hv=>?_⟩
 induction hv with
 |here=>have:=h.i.st;rwa[e]at this
 |go _ hc ih=>have:=h.cl _ ih _ hc;rwa[e]at this
end
/- Breadth first search: the distances. -/
end
section
inductive WayN (next:List (List Nat)) (a:Nat):Nat→Nat→Prop
 |here:WayN next a a 0
 |go {b c k:Nat} (h:WayN next a b k) (hc:c∈nth next b):WayN next a c (k+1)
structure BfD (next:List (List Nat)) (start:Nat) (s:Bf):Prop where
 c:BfC next start s
 so:(s.out++s.q).Pairwise fun a b=>nth s.far a≤nth s.far b
 near:∀v q,s.q=v::q→∀x∈s.out++s.q,nth s.far x≤nth s.far v+1
 way:∀v∈s.out++s.q,∃k,nth s.far v=k+1∧WayN next start v k
 edge:∀u∈s.out,∀w∈nth next u,nth s.far w≤nth s.far u+1
structure BfE (next:List (List Nat)) (start v:Nat) (row:List Nat) (s:Bf):Prop where
 m:BfM next start v row s
 so:(s.out++s.q).Pairwise fun a b=>nth s.far a≤nth s.far b
 le:∀x∈s.out++s.q,nth s.far x≤nth s.far v+1
 way:∀u∈s.out++s.q,∃k,nth s.far u=k+1∧WayN next start u k
 edge:∀u∈s.out,u≠v→∀w∈nth next u,nth s.far w≤nth s.far u+1
section
variable {next:List (List Nat)} {start:Nat}
theorem jk4{v w:Nat}{row:List Nat}{s:Bf}(hn:∀u,u<next.length→∀x∈nth next u,x<next.length)(h:BfE next start v row s)(hw:w∈nth next v):BfE next start v (row++[w]) (zd2 (nth s.far v+1) s w)∧nth (zd2 (nth s.far v+1) s w).far v=nth s.far v:=by
 have hm:=jdr (d:=nth s.far v+1) hn (by omega) h.m hw
 have hv:v∈s.out++s.q:=List.mem_append_left _ h.m.mv
 have hvl:=h.m.i.lt v hv
 have hwl:=hn v hvl w hw
 by_cases e:nth s.far w=0
 ·have hnw:w∉s.out++s.q:=fun m=>((h.m.i.far w hwl).2 m) e
  have ep:zd2 (nth s.far v+1) s w=⟨s.far.set w (nth s.far v+1),s.q++[w],s.out⟩:=by unfold zd2;rw[if_pos e]
  rw[ep]at hm ⊢
  have hold:∀x∈s.out++s.q,nth (s.far.set w (nth s.far v+1)) x=nth s.far x:=fun x hx=>zax fun e2=>hnw (e2▸hx)
  have hnew:nth (s.far.set w (nth s.far v+1)) w=nth s.far v+1:=zaz (by rw[h.m.i.len];exact hwl)
  have hmem:∀x,x∈s.out++(s.q++[w])→x∈s.out++s.q∨x=w:=fun x hx=>by
   simpa only[List.mem_append,List.mem_singleton,or_assoc]using hx
  refine⟨⟨hm,?_,fun x hx=>?_,fun x hx=>?_,fun u hu hne x hx=>?_⟩,hold v hv⟩
  ·show(s.out++(s.q++[w])).Pairwise _
   rw[←List.append_assoc,List.pairwise_append]
   refine⟨h.so.imp_of_mem fun ha hb hab=>by rw[hold _ ha,hold _ hb];exact hab,by simp,fun a ha b hb=>?_⟩
   rw[List.mem_singleton]at hb
   rw[hb,hold a ha,hnew];exact h.le a ha
  ·show nth (s.far.set w (nth s.far v+1)) x≤nth (s.far.set w (nth s.far v+1)) v+1
   rw[hold v hv]
   rcases hmem x hx with hx|rfl
   ·rw[hold x hx];exact h.le x hx
   ·rw[hnew];omega
  ·show ∃k,nth (s.far.set w (nth s.far v+1)) x=k+1∧_
   rcases hmem x hx with hx|rfl
   ·rw[hold x hx];exact h.way x hx
   ·obtain⟨k,hk,hwy⟩:=h.way v hv
    exact⟨nth s.far v,by rw[hnew],by rw[hk];exact hwy.go hw⟩
  ·show nth (s.far.set w (nth s.far v+1)) x≤nth (s.far.set w (nth s.far v+1)) u+1
   rw[hold u (List.mem_append_left _ hu),hold x (h.m.cl u hu hne x hx)]
   exact h.edge u hu hne x hx
 ·have ep:zd2 (nth s.far v+1) s w=s:=by unfold zd2;rw[if_neg e]
  rw[ep]at hm ⊢
  exact⟨⟨hm,h.so,h.le,h.way,h.edge⟩,rfl⟩
theorem zw3{v:Nat}(hn:∀u,u<next.length→∀x∈nth next u,x<next.length):∀(r row:List Nat) (s:Bf),BfE next start v row s→(∀w∈r,w∈nth next v)→BfE next start v (row++r) (zdj (nth s.far v+1) s r)∧nth (zdj (nth s.far v+1) s r).far v=nth s.far v
 |[],row,s,h,_=>by rw[List.append_nil];exact⟨h,rfl⟩
 |w::r,row,s,h,hr=>by
  obtain⟨h1,h2⟩:=jk4 hn h (hr w (by simp))
  have:=zw3 hn r (row++[w]) _ h1 fun x hx=>hr x (by simp[hx])
  rw[List.append_assoc,h2]at this
  exact this
theorem jk5{s:Bf}(hn:∀u,u<next.length→∀x∈nth next u,x<next.length)(h:BfD next start s):BfD next start (zfl next s):=by
 have hc:=jds hn h.c
 unfold zfl at hc ⊢
 split
 ·exact h
 ·rename_i v q hq
  rw[hq]at hc
  simp only at hc
  have e:(s.out++[v])++q=s.out++s.q:=by rw[hq];simp
  have he:BfE next start v [] ⟨s.far,q,s.out++[v]⟩:=by
   refine⟨jf3 h.c hq,?_,?_,?_,fun u hu hne w hw=>?_⟩
   ·show((s.out++[v])++q).Pairwise _;rw[e];exact h.so
   ·show ∀x∈(s.out++[v])++q,_;rw[e];exact h.near v q hq
   ·show ∀x∈(s.out++[v])++q,_;rw[e];exact h.way
   ·rcases List.mem_append.1 hu with hu|hu
    ·exact h.edge u hu w hw
    ·exact absurd (List.mem_singleton.1 hu) hne
  obtain⟨hm,hv⟩:=zw3 hn (nth next v) [] _ he fun w hw=>hw
  simp only at hm hv
  generalize hs':zdj (nth s.far v+1) ⟨s.far,q,s.out++[v]⟩ (nth next v)=s' at *
  rw[List.nil_append]at hm
  refine⟨hc,hm.so,fun v' q' hq' x hx=>?_,hm.way,fun u hu w hw=>?_⟩
  ·have h1:=hm.le x hx
   have h2:=List.pairwise_append.1 hm.so
   have h3:=h2.2.2 v hm.m.mv v' (by rw[hq'];simp)
   omega
  ·by_cases e2:u=v
   ·subst e2;exact hm.le w (hm.m.row w hw)
   ·exact hm.edge u hu e2 w hw
theorem jk6(hs:start<next.length):BfD next start (zb6 next.length start):=by
 have h1:nth (zb6 next.length start).far start=1:=zaz (by simpa using hs)
 refine⟨zjn hs,by simp[zb6],fun v q hq x hx=>?_,fun v hv=>?_,fun u hu=>by simp[zb6]at hu⟩
 ·have hv:start=v:=by simp[zb6]at hq;exact hq.1
  have hx:x=start:=by simpa[zb6]using hx
  subst hv;subst hx;omega
 ·have hv:v=start:=by simpa[zb6]using hv
  subst hv;exact⟨0,h1,.here⟩
theorem jk7(hn:∀u,u<next.length→∀x∈nth next u,x<next.length):∀(k:Nat) {s:Bf},BfD next start s→BfD next start (zfm next k s)
 |0,_,h=>h
 |k+1,_,h=>jk7 hn k (jk5 hn h)
theorem WayN.rt{a b k:Nat}(h:WayN next a b k):RT next a b:=by
 induction h with
 |here=>exact .here
 |go _ hc ih=>exact ih.go hc
theorem zjp{s:Bf}(h:BfD next start s)(hs:nth s.far start=1)(hq:s.q=[]){v k:Nat}(hw:WayN next start v k):v∈s.out∧nth s.far v≤k+1:=by
 refine⟨(zph h.c hq v).2 hw.rt,?_⟩
 induction hw with
 |here=>omega
 |go hb hc ih=>have:=h.edge _ ((zph h.c hq _).2 hb.rt) _ hc;omega
end
/- Topological orders, as a plain function: the zj9 node that is free comes next. -/
end
def frB(prev:List (List Nat))(out:List Nat)(v:Nat):Bool:= !out.contains v&&(nth prev v).all fun u=>out.contains u
def zcf(n:Nat)(prev:List (List Nat))(out:List Nat):List Nat:=(List.range n).filter (frB prev out)
def zcg(n:Nat)(prev:List (List Nat)):Nat→List Nat
 |0=>[]
 |k+1=>zcg n prev k++(zcf n prev (zcg n prev k)).take 1
theorem fr_iff{prev:List (List Nat)}{out:List Nat}{v:Nat}:frB prev out v=true↔v∉out∧∀u∈nth prev v,u∈out:=by
 simp[frB]
theorem free_iff{n:Nat}{prev:List (List Nat)}{out:List Nat}{v:Nat}:v∈zcf n prev out↔v<n∧v∉out∧∀u∈nth prev v,u∈out:=by
 rw[zcf,List.mem_filter,List.mem_range,fr_iff]
def frM(prev:List (List Nat))(out:List Nat)(v:Nat)(pre:List Nat)(w:Nat):Bool:=(frB prev out w&&w !=v)||(pre.contains w&&frB prev (out++[v]) w)
theorem jo7{prev:List (List Nat)}{out:List Nat}{v w:Nat}:frM prev out v [] w=(frB prev out w&&w !=v):=by simp[frM]
theorem jf4{prev next:List (List Nat)}{out:List Nat}{v w:Nat}(hpn:∀u,u∈nth prev w→(u=v→w∈nth next v)):frM prev out v (nth next v) w=frB prev (out++[v]) w:=by
 rw[Bool.eq_iff_iff]
 unfold frM
 simp only[Bool.or_eq_true,Bool.and_eq_true,fr_iff,List.contains_iff_mem,bne_iff_ne,ne_eq,List.mem_append,List.mem_singleton,not_or]
 constructor
 ·rintro(⟨⟨h1,h2⟩,h3⟩|⟨_,h⟩)
  ·exact⟨⟨h1,h3⟩,fun u hu=>.inl (h2 u hu)⟩
  ·exact h
 ·rintro⟨⟨h1,h2⟩,h3⟩
  by_cases hv:v∈nth prev w
  ·exact .inr ⟨hpn v hv rfl,⟨h1,h2⟩,h3⟩
  ·exact .inl ⟨⟨h1,fun u hu=>(h3 u hu).resolve_right fun e=>hv (e▸hu)⟩,h2⟩
theorem zjq{n:Nat}{prev:List (List Nat)}{out l:List Nat}{v:Nat}(h:zcf n prev out=v::l):l=(List.range n).filter (frM prev out v [])∧v<n∧v∉out∧(∀u∈nth prev v,u∈out)∧∀w,w<v→¬frB prev out w=true:=by
 have hm:v∈zcf n prev out:=by rw[h];simp
 obtain⟨h1,h2,h3⟩:=free_iff.1 hm
 have hp:(zcf n prev out).Pairwise (·<·):=List.Pairwise.filter _ List.pairwise_lt_range
 rw[h,List.pairwise_cons]at hp
 refine⟨?_,h1,h2,h3,fun w hw hf=>?_⟩
 ·have e:(List.range n).filter (frM prev out v [])=(zcf n prev out).filter fun w=>w !=v:=by
   rw[zcf,List.filter_filter]
   refine List.filter_congr fun w _=>?_
   rw[jo7,Bool.and_comm]
  rw[e,h,List.filter_cons_of_neg (by simp),List.filter_eq_self.2]
  intro w hw
  have:=hp.1 w hw
  simp;omega
 ·have hwm:w∈zcf n prev out:=List.mem_filter.2 ⟨List.mem_range.2 (by omega),hf⟩
  rw[h]at hwm
  rcases List.mem_cons.1 hwm with e|hwm
  ·omega
  ·have:=hp.1 w hwm;omega
structure OrI (n:Nat) (prev:List (List Nat)) (l:List Nat):Prop where
 nd:l.Nodup
 lt:∀v∈l,v<n
 pr:∀i,i<l.length→∀u∈nth prev (nth l i),u∈l.take i
 ls:∀i,i<l.length→∀w,w<nth l i→w∉l.take i→∃u∈nth prev w,u∉l.take i
theorem ztc(n:Nat)(prev:List (List Nat)):∀k,OrI n prev (zcg n prev k)
 |0=>⟨.nil,fun v hv=>(by cases hv),fun i hi=>absurd hi (Nat.not_lt_zero _),fun i hi=>absurd hi (Nat.not_lt_zero _)⟩
 |k+1=>by
  have ih:=ztc n prev k
  rw[zcg]
  cases hf:zcf n prev (zcg n prev k)with
  |nil=>simpa using ih
  |cons v l=>
   obtain⟨_,h1,h2,h3,h4⟩:=zjq hf
   generalize zcg n prev k=o at *
   show OrI n prev (o++[v])
   have tk:∀i,i≤o.length→(o++[v]).take i=o.take i:=fun i hi=>List.take_append_of_le_length hi
   refine⟨?_,fun x hx=>?_,fun i hi u hu=>?_,fun i hi w hw hn=>?_⟩
   ·rw[List.nodup_append]
    exact⟨ih.nd,by simp,fun a ha b hb e=>h2 (by rw[List.mem_singleton]at hb;rw[←hb,←e];exact ha)⟩
   ·rcases List.mem_append.1 hx with hx|hx
    ·exact ih.lt x hx
    ·rw[List.mem_singleton.1 hx];exact h1
   ·simp at hi
    rw[tk i (by omega)]
    by_cases e:i<o.length
    ·rw[zbs e]at hu;exact ih.pr i e u hu
    ·rw[show i=o.length by omega,zdg]at hu
     rw[show i=o.length by omega,List.take_length];exact h3 u hu
   ·simp at hi
    rw[tk i (by omega)]at hn ⊢
    by_cases e:i<o.length
    ·rw[zbs e]at hw;exact ih.ls i e w hw hn
    ·rw[show i=o.length by omega,zdg]at hw
     rw[show i=o.length by omega,List.take_length]at hn ⊢
     have hnf:=h4 w hw
     rw[fr_iff]at hnf
     by_cases hx:∃u∈nth prev w,u∉o
     ·exact hx
     ·exact absurd ⟨hn,fun u hu=>Decidable.byContradiction fun q=>hx ⟨u,hu,q⟩⟩ hnf
theorem zl2{n:Nat}{prev:List (List Nat)}(k:Nat):(zcg n prev k).length≤n:=zcr (ztc n prev k).nd (ztc n prev k).lt
theorem jo8{n:Nat}{prev:List (List Nat)}{out:List Nat}(h:zcf n prev out=[]){v:Nat}(hv:v<n)(hn:v∉out):∃u∈nth prev v,u∉out:=by
 by_cases hx:∃u∈nth prev v,u∉out
 ·exact hx
 ·have:v∈zcf n prev out:=free_iff.2 ⟨hv,hn,fun u hu=>Decidable.byContradiction fun q=>hx ⟨u,hu,q⟩⟩
  rw[h]at this;cases this
theorem ztd{n w:Nat}{p q:Nat→Bool}(hw:w<n)(hp:p w=false)(hq:∀x,q x=(p x||x==w)):∃i,i=(((List.range n).filter p).filter (·<w)).length∧((List.range n).filter p).take i++[w]++((List.range n).filter p).drop i=(List.range n).filter q:=by
 refine⟨_,rfl,?_⟩
 have hs:List.range n=List.range w++w::(List.range (n - w - 1)).map (w+1+·):=by
  have e1:n=w+(1+(n - w - 1)):=by omega
  conv=>lhs;rw[e1,List.range_add,List.range_add]
  simp only[List.map_append,List.map_map,List.range_one,List.map_cons,List.map_nil,Nat.add_zero]
  congr 1
  simp only[List.singleton_append]
  congr 1
  refine List.map_congr_left fun x _=>?_
  simp only[Function.comp_apply];omega
 have hl:∀x∈(List.range w).filter p,decide (x<w)=true:=fun x hx=>by simpa using List.mem_range.1 (List.mem_filter.1 hx).1
 have hr:∀x∈((List.range (n - w - 1)).map (w+1+·)).filter p,¬decide (x<w)=true:=fun x hx=>by
  obtain⟨y,_,rfl⟩:=List.mem_map.1 (List.mem_filter.1 hx).1
  simp;omega
 have e2:(List.range n).filter p=(List.range w).filter p++((List.range (n - w - 1)).map (w+1+·)).filter p:=by
  rw[hs,List.filter_append,List.filter_cons_of_neg (by rw[hp];decide)]
 rw[e2,List.filter_append,List.filter_eq_self.2 hl,List.filter_eq_nil_iff.2 hr,List.append_nil,List.take_left,List.drop_left]
 rw[hs,List.filter_append,List.filter_cons_of_pos (by rw[hq];simp),List.append_assoc]
 congr 1
 ·refine List.filter_congr fun x hx=>?_
  have:x≠w:=by have:=List.mem_range.1 hx;omega
  rw[hq];simp[this]
 ·simp only[List.singleton_append]
  congr 1
  refine List.filter_congr fun x hx=>?_
  obtain⟨y,_,rfl⟩:=List.mem_map.1 hx
  have:¬(w+1+y=w):=by omega
  rw[hq];simp[this]
/- Orders and cycles: there is one or the other. -/
section
structure Two (n:Nat) (next prev:List (List Nat)):Prop where
 nl:next.length=n
 pl:prev.length=n
 ni:∀u,u<n→∀w∈nth next u,w<n
 pi:∀u,u<n→∀w∈nth prev u,w<n
 iff:∀u w,u<n→w<n→(w∈nth next u↔u∈nth prev w)
theorem zk3{n:Nat}{l:List Nat}(hd:l.Nodup)(hl:∀x∈l,x<n)(hn:l.length=n){v:Nat}(hv:v<n):v∈l:=by
 by_cases h:v∈l
 ·exact h
 ·have:=zcr (n:=n) (List.nodup_cons.2 ⟨h,hd⟩) (fun x hx=>by
   rcases List.mem_cons.1 hx with rfl|hx
   ·exact hv
   ·exact hl x hx)
  simp at this;omega
theorem zfn{l:List Nat}{v:Nat}(h:v∈l):∃i,i<l.length∧nth l i=v:=by
 obtain⟨i,hi,e⟩:=List.getElem_of_mem h
 exact⟨i,hi,by rw[za5 hi];exact e⟩
theorem zgk{l:List Nat}(hd:l.Nodup){i j:Nat}(hi:i<l.length)(hj:j<l.length)(e:nth l i=nth l j):i=j:=by
 rw[za5 hi,za5 hj]at e
 exact(List.getElem_inj hd).1 e
theorem zg5{l:List Nat}{v i:Nat}(h:v∈l.take i):∃j,j<i∧j<l.length∧nth l j=v:=by
 obtain⟨j,hj,e⟩:=zfn h
 rw[List.length_take]at hj
 refine⟨j,by omega,by omega,?_⟩
 rw[←e];unfold nth;rw[List.getD_eq_getElem?_getD,List.getD_eq_getElem?_getD,List.getElem?_take_of_lt (by omega)]
theorem WayN.head{next:List (List Nat)}{a b c k:Nat}(hb:b∈nth next a)(h:WayN next b c k):WayN next a c (k+1):=by
 induction h with
 |here=>exact .go .here hb
 |go _ hc ih=>exact ih.go hc
section
variable {n:Nat} {next prev:List (List Nat)} (ht:Two n next prev)
include ht
theorem jao{out:List Nat}(hf:zcf n prev out=[]){v:Nat}(hv:v<n)(hn:v∉out):∃u k,u<n∧WayN next u u (k+1):=by
 have hs:∀v,v<n∧v∉out→∃u,(u<n∧u∉out)∧u∈nth prev v:=fun v h=>by
  obtain⟨u,hu,hq⟩:=jo8 hf h.1 h.2
  exact⟨u,⟨ht.pi v h.1 u hu,hq⟩,hu⟩
 obtain⟨f,hf'⟩:∃f:Nat→Nat,∀v,v<n∧v∉out→(f v<n∧f v∉out)∧f v∈nth prev v:=by
  refine⟨fun v=>if h:v<n∧v∉out then Classical.choose (hs v h)else 0,fun v h=>?_⟩
  simp only[dif_pos h]
  exact Classical.choose_spec (hs v h)
 obtain⟨c,hc0,hc1⟩:∃c:Nat→Nat,c 0=v∧∀i,c (i+1)=f (c i):=⟨fun i=>Nat.rec v (fun _ x=>f x) i,rfl,fun i=>rfl⟩
 have hcl:∀i,c i<n∧c i∉out:=fun i=>by
  induction i with
  |zero=>rw[hc0];exact⟨hv,hn⟩
  |succ i ih=>rw[hc1];exact(hf' _ ih).1
 have hedge:∀i,c i∈nth next (c (i+1)):=fun i=>by
  have h1:=hf' _ (hcl i)
  rw[←hc1]at h1
  exact(ht.iff _ _ h1.1.1 (hcl i).1).2 h1.2
 have hway:∀i d,WayN next (c (i+d)) (c i) d:=fun i d=>by
  induction d with
  |zero=>exact .here
  |succ d ih=>exact WayN.head (hedge (i+d)) ih
 by_cases hx:∃i j,i<j∧c i=c j
 ·obtain⟨i,j,hij,e⟩:=hx
  have:=hway i (j - i)
  rw[show i+(j - i)=j by omega,←e]at this
  exact⟨c i,j - i - 1,(hcl i).1,by rw[show j - i - 1+1=j - i by omega];exact this⟩
 ·exfalso
  have hd:((List.range (n+1)).map c).Nodup:=by
   rw[List.Nodup,List.pairwise_map]
   exact List.Pairwise.imp (fun{a b} hab e=>hx ⟨a,b,hab,e⟩) List.pairwise_lt_range
  have:=zcr hd fun x hx=>by
   obtain⟨i,_,rfl⟩:=List.mem_map.1 hx
   exact(hcl i).1
  simp at this;omega
end
/- The shortest closed way through a node. -/
end
section
theorem zio{next:List (List Nat)}:∀(k:Nat) {s:Bf},s.q=[]→zfm next k s=s
 |0,_,_=>rfl
 |k+1,s,h=>by
  have e:zfl next s=s:=by unfold zfl;rw[h]
  rw[zfm,e];exact zio k h
theorem zpi{next:List (List Nat)}:∀(k:Nat) (s:Bf),(zfm next k s).q=[]∨(zfm next k s).out.length=s.out.length+k
 |0,s=>.inr rfl
 |k+1,s=>by
  by_cases h:s.q=[]
  ·exact .inl (by rw[zio (k+1) h];exact h)
  ·rw[zfm]
   rcases zpi k (zfl next s)with h1|h1
   ·exact .inl h1
   ·refine .inr ?_
    rw[h1,zl1,List.length_append,List.length_take]
    have:0<s.q.length:=List.length_pos_iff.2 h
    omega
def zew(next:List (List Nat))(v:Nat):Bf:=zfm next next.length (zb6 next.length v)
section
variable {next:List (List Nat)} {v:Nat} (hn:∀u,u<next.length→∀x∈nth next u,x<next.length) (hv:v<next.length)
include hn hv
theorem zg6:BfD next v (zew next v):=jk7 hn _ (jk6 hv)
theorem zn2:(zew next v).q=[]:=by
 rcases zpi next.length (zb6 next.length v)with h|h
 ·exact h
 ·have h1:=zjo (zg6 hn hv).c
  rw[List.length_append]at h1
  have h2:(zew next v).out.length=(zb6 next.length v).out.length+next.length:=h
  have h3:(zb6 next.length v).out.length=0:=rfl
  exact List.length_eq_zero_iff.1 (by omega)
end
theorem jap{d x w:Nat}{s:Bf}(h:nth s.far x≠0):nth (zd2 d s w).far x=nth s.far x:=by
 unfold zd2
 split
 ·rename_i e
  exact zax fun e2=>h (e2▸e)
 ·rfl
theorem zjr{d x:Nat}:∀(r:List Nat) {s:Bf},nth s.far x≠0→nth (zdj d s r).far x=nth s.far x
 |[],_,_=>rfl
 |w::r,s,h=>by
  have h1:=jap (d:=d) (w:=w) h
  show nth (zdj d (zd2 d s w) r).far x=_
  rw[zjr r (by rw[h1];exact h),h1]
theorem zrv{next:List (List Nat)}{x:Nat}{s:Bf}(h:nth s.far x≠0):nth (zfl next s).far x=nth s.far x:=by
 unfold zfl
 split
 ·rfl
 ·rename_i v q hq
  exact zjr (nth next v) (s:=⟨s.far,q,s.out++[v]⟩) h
theorem zl3{next:List (List Nat)}{x:Nat}:∀(k:Nat) {s:Bf},nth s.far x≠0→nth (zfm next k s).far x=nth s.far x
 |0,_,_=>rfl
 |k+1,s,h=>by rw[zfm,zl3 k (by rw[zrv h];exact h),zrv h]
theorem zn3{next:List (List Nat)}{v:Nat}(hv:v<next.length):nth (zew next v).far v=1:=by
 have h1:nth (zb6 next.length v).far v=1:=zaz (by simpa using hv)
 unfold zew
 rw[zl3 _ (by rw[h1];decide),h1]
def zdk(next:List (List Nat))(v:Nat):Nat:=match(zew next v).out.find? fun w=>(nth next w).contains v with
 |some w=>nth (zew next v).far w
 |none=>0
section
variable {next:List (List Nat)} {v:Nat} (hn:∀u,u<next.length→∀x∈nth next u,x<next.length) (hv:v<next.length)
include hn hv
theorem zpj(h:zdk next v≠0):WayN next v v (zdk next v):=by
 unfold zdk at h ⊢
 cases hf:(zew next v).out.find? fun w=>(nth next w).contains v with
 |none=>rw[hf]at h;exact absurd rfl h
 |some w=>
  simp only
  have hm:=List.mem_of_find?_eq_some hf
  have hc:v∈nth next w:=by simpa using List.find?_some hf
  obtain⟨k,hk,hw⟩:=(zg6 hn hv).way w (List.mem_append_left _ hm)
  rw[hk];exact hw.go hc
theorem zn4{k:Nat}(hw:WayN next v v (k+1)):zdk next v≠0∧zdk next v≤k+1:=by
 cases hw with
 |@go b _ _ hb hc=>
  have hd:=zg6 hn hv
  have hq:=zn2 hn hv
  obtain⟨hm,hle⟩:=zjp hd (zn3 hv) hq hb
  unfold zdk
  cases hf:(zew next v).out.find? fun w=>(nth next w).contains v with
  |none=>
   have:=List.find?_eq_none.1 hf b hm
   simp[hc]at this
  |some w=>
   simp only
   have hwm:=List.mem_of_find?_eq_some hf
   have hso:((zew next v).out).Pairwise fun a b=>nth (zew next v).far a≤nth (zew next v).far b:=by
    have:=hd.so;rw[hq,List.append_nil]at this;exact this
   obtain⟨hp,as,bs,he,ha⟩:=List.find?_eq_some_iff_append.1 hf
   have hbm:b=w∨b∈bs:=by
    rw[he]at hm
    rcases List.mem_append.1 hm with hm|hm
    ·have:=ha b hm;simp[hc]at this
    ·exact List.mem_cons.1 hm
   have hwb:nth (zew next v).far w≤nth (zew next v).far b:=by
    rcases hbm with rfl|hbm
    ·exact Nat.le_refl _
    ·rw[he,List.pairwise_append]at hso
     exact(List.pairwise_cons.1 hso.2.1).1 b hbm
   obtain⟨k',hk',_⟩:=hd.way w (List.mem_append_left _ hwm)
   omega
end
/- The cycle that is built along the distances to its first node. -/
end
section
theorem WayN.trans{next:List (List Nat)}{a b c i j:Nat}(h:WayN next a b i)(h':WayN next b c j):WayN next a c (i+j):=by
 induction h' with
 |here=>exact h
 |go _ hc ih=>exact ih.go hc
theorem WayN.uncons{next:List (List Nat)}{a c k:Nat}(h:WayN next a c (k+1)):∃b,b∈nth next a∧WayN next b c k:=by
 generalize hj:k+1=j at h
 induction h generalizing k with
 |here=>cases hj
 |@go b c i hb hc ih=>
  obtain rfl:k=i:=by omega
  cases k with
  |zero=>cases hb with|here=>exact⟨c,hc,.here⟩
  |succ k=>
   obtain⟨x,hx,hw⟩:=ih rfl
   exact⟨x,hx,hw.go hc⟩
theorem zn5{next:List (List Nat)}{u w:Nat}(h:w∈nth next u):u<next.length:=by
 by_cases e:u<next.length
 ·exact e
 ·have:nth next u=[]:=by unfold nth;rw[List.getD_eq_getElem?_getD,List.getElem?_eq_none (by omega)];rfl
  rw[this]at h;cases h
theorem Two.symm{n:Nat}{next prev:List (List Nat)}(h:Two n next prev):Two n prev next:=⟨h.pl,h.nl,h.pi,h.ni,fun u w hu hw=>(h.iff w u hw hu).symm⟩
theorem zjs{n:Nat}{next prev:List (List Nat)}(ht:Two n next prev){a b k:Nat}(h:WayN prev a b k):WayN next b a k:=by
 induction h with
 |here=>exact .here
 |@go b c k hb hc ih=>
  have hbn:b<n:=by have:=zn5 hc;rw[ht.pl]at this;exact this
  have hcn:=ht.pi b hbn c hc
  exact WayN.head ((ht.iff c b hcn hbn).2 hc) ih
def ziq(prev:List (List Nat))(fst w:Nat):Nat:=nth (zew prev fst).far w - 1
structure CycF (n:Nat) (next prev:List (List Nat)) (fst best:Nat):Prop where
 t:Two n next prev
 lt:fst<n
 g:zdk next fst=best
 p:best≠0
 mn:∀v,v<n→zdk next v≠0→best≤zdk next v
 ls:∀v,v<fst→zdk next v≠best
structure CycI (next prev:List (List Nat)) (fst best:Nat) (out:List Nat):Prop where
 p:1≤out.length
 le:out.length≤best
 h0:nth out 0=fst
 lf:∀i,1≤i→i<out.length→ziq prev fst (nth out i)=best - i
 ed:∀i,i+1<out.length→nth out (i+1)∈nth next (nth out i)
theorem jaq{next prev:List (List Nat)}{fst best:Nat}{out:List Nat}{w:Nat}(hi:CycI next prev fst best out)(hl:out.length<best)(hw:w∈nth next (nth out (out.length - 1)))(hd:ziq prev fst w=best - out.length):CycI next prev fst best (out++[w]):=by
 have hp:=hi.p
 refine⟨by simp,by simp;omega,by rw[zbs (by omega)];exact hi.h0,fun i h1 h2=>?_,fun i h2=>?_⟩
 ·simp at h2
  by_cases e:i<out.length
  ·rw[zbs e];exact hi.lf i h1 e
  ·rw[show i=out.length by omega,zdg];exact hd
 ·simp at h2
  by_cases e:i+1<out.length
  ·rw[zbs e,zbs (by omega)];exact hi.ed i e
  ·rw[show i+1=out.length by omega,zdg,zbs (by omega),show i=out.length - 1 by omega];exact hw
section
variable {n:Nat} {next prev:List (List Nat)} {fst best:Nat} (h:CycF n next prev fst best)
include h
theorem jn3:∀u,u<next.length→∀x∈nth next u,x<next.length:=fun u hu x hx=>by rw[h.t.nl]at hu ⊢;exact h.t.ni u hu x hx
theorem jn4:∀u,u<prev.length→∀x∈nth prev u,x<prev.length:=fun u hu x hx=>by rw[h.t.pl]at hu ⊢;exact h.t.pi u hu x hx
theorem zte:fst<prev.length:=by rw[h.t.pl];exact h.lt
theorem jdt{w k:Nat}(hw:WayN next w fst k):ziq prev fst w≤k∧WayN next w fst (ziq prev fst w):=by
 have hr:=zjs h.t.symm hw
 obtain⟨hm,hl⟩:=zjp (zg6 (jn4 h) (zte h)) (zn3 (zte h)) (zn2 (jn4 h) (zte h)) hr
 obtain⟨d,hd,hw'⟩:=(zg6 (jn4 h) (zte h)).way w (List.mem_append_left _ hm)
 have e:ziq prev fst w=d:=by unfold ziq;omega
 rw[e]
 exact⟨by unfold ziq at e;omega,zjs h.t hw'⟩
theorem zw4{w:Nat}(hw:ziq prev fst w≠0)(hwn:w<n):WayN next w fst (ziq prev fst w):=by
 have hd:=zg6 (jn4 h) (zte h)
 have hf:nth (zew prev fst).far w≠0:=by unfold ziq at hw;omega
 have hm:=(hd.c.i.far w (by rw[h.t.pl];exact hwn)).1 hf
 obtain⟨d,hd',hw'⟩:=hd.way w hm
 have e:ziq prev fst w=d:=by unfold ziq;omega
 rw[e];exact zjs h.t hw'
theorem zw5:ziq prev fst fst=0:=by unfold ziq;rw[zn3 (zte h)]
theorem jar{out:List Nat}(hi:CycI next prev fst best out)(hl:out.length<best):∃w∈nth next (nth out (out.length - 1)),w≠fst∧ziq prev fst w=best - out.length:=by
 have hg:=zpj (jn3 h) (by rw[h.t.nl];exact h.lt) (by rw[h.g];exact h.p)
 rw[h.g]at hg
 have hp:=hi.p
 have hvl:∃d,d=best - (out.length - 1)∧WayN next (nth out (out.length - 1)) fst d∧∀k,WayN next (nth out (out.length - 1)) fst (k+1)→d≤k+1:=by
  by_cases e:out.length=1
  ·rw[e]
   show ∃d,d=best - 0∧WayN next (nth out 0) fst d∧_
   rw[hi.h0]
   refine⟨best,rfl,hg,fun k hk=>?_⟩
   have:=zn4 (jn3 h) (by rw[h.t.nl];exact h.lt) hk
   rw[h.g]at this;exact this.2
  ·have hlf:=hi.lf (out.length - 1) (by omega) (by omega)
   have hne:ziq prev fst (nth out (out.length - 1))≠0:=by omega
   have hmem:nth out (out.length - 1)<n:=by
    have he:=hi.ed (out.length - 2) (by omega)
    rw[show out.length - 2+1=out.length - 1 by omega]at he
    have hu:=zn5 he
    rw[h.t.nl]at hu
    exact h.t.ni _ hu _ he
   have hw:=zw4 h hne hmem
   rw[hlf]at hw
   exact⟨_,rfl,hw,fun k hk=>by have:=(jdt h hk).1;omega⟩
 obtain⟨d,hd,hw,hmn⟩:=hvl
 obtain⟨k,rfl⟩:∃k,d=k+1:=⟨d - 1,by omega⟩
 obtain⟨w,hwm,hww⟩:=hw.uncons
 obtain⟨h1,h2⟩:=jdt h hww
 have h3:=hmn _ (WayN.head hwm h2)
 have e:ziq prev fst w=best - out.length:=by omega
 refine⟨w,hwm,fun e2=>?_,e⟩
 rw[e2,zw5 h]at e;omega
theorem jk8{out:List Nat}(hi:CycI next prev fst best out)(hl:out.length=best):(∀i,i<out.length→nth out ((i+1) % out.length)∈nth next (nth out i))∧(∀i,i<out.length→fst≤nth out i∧nth out i<n)∧(∀i j,i<out.length→j<i→nth out j≠nth out i):=by
 have hp:=hi.p
 have hfw:∀i,i<out.length→WayN next fst (nth out i) i:=fun i=>by
  induction i with
  |zero=>intro _;rw[hi.h0];exact .here
  |succ i ih=>intro hlt;exact(ih (by omega)).go (hi.ed i hlt)
 have hlt:∀i,i<out.length→nth out i<n:=fun i hlt=>by
  cases i with
  |zero=>rw[hi.h0];exact h.lt
  |succ i=>
   have he:=hi.ed i hlt
   have hu:=zn5 he
   rw[h.t.nl]at hu
   exact h.t.ni _ hu _ he
 have hg:=zpj (jn3 h) (by rw[h.t.nl];exact h.lt) (by rw[h.g];exact h.p)
 rw[h.g]at hg
 have hbw:∀i,i<out.length→WayN next (nth out i) fst (best - i):=fun i hi'=>by
  by_cases e:i=0
  ·subst e;rw[hi.h0];exact hg
  ·have hlf:=hi.lf i (by omega) hi'
   have:=zw4 h (by omega) (hlt i hi')
   rwa[hlf]at this
 refine⟨fun i hi'=>?_,fun i hi'=>⟨?_,hlt i hi'⟩,fun i j hi' hj e=>?_⟩
 ·by_cases e:i+1<out.length
  ·rw[Nat.mod_eq_of_lt e];exact hi.ed i e
  ·rw[show i+1=out.length by omega,Nat.mod_self,hi.h0]
   have hw:=hbw i hi'
   rw[show best - i=0+1 by omega]at hw
   obtain⟨b,hb,hw'⟩:=hw.uncons
   cases hw' with|here=>exact hb
 ·have hc:=(hbw i hi').trans (hfw i hi')
  rw[show best - i+i=(best - 1)+1 by omega]at hc
  obtain⟨g1,g2⟩:=zn4 (jn3 h) (by rw[h.t.nl];exact hlt i hi') hc
  have g3:=h.mn _ (hlt i hi') g1
  by_cases e:fst≤nth out i
  ·exact e
  ·exact absurd (by omega) (h.ls (nth out i) (by omega))
 ·by_cases e0:j=0
  ·subst e0
   have hlf:=hi.lf i (by omega) hi'
   rw[←e,hi.h0,zw5 h]at hlf;omega
  ·have h1:=hi.lf i (by omega) hi'
   have h2:=hi.lf j (by omega) (by omega)
   rw[e]at h2;omega
end
end
end Go.Proofs.Ytfolbdkbpmgjgaa
