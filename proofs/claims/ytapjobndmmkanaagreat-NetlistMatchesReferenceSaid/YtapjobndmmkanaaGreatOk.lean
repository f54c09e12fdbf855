/- The builder of netlists, as functions; what it keeps. -/
import Derived.Test.YtapjobndmmkanaaGreatDb
import Derived.Test.YtapjobndmmkanaaGreatTy
import Derived.Test.YtapjobndmmkanaaGreatAZ
set_option linter.unusedVariables false
set_option linter.unusedSimpArgs false
namespace Go.Proofs.YtapjobndmmkanaaGreat
open Go.Proofs.Tryz
open Go Go.RowKit
section
instance:DecidableEq Gate:=fun⟨a1,a2,a3,a4,a5⟩ ⟨b1,b2,b3,b4,b5⟩=>
 if h:a1=b1∧a2=b2∧a3=b3∧a4=b4∧a5=b5 then isTrue (by obtain⟨h1,h2,h3,h4,h5⟩:=h;subst h1 h2 h3 h4 h5;rfl)
 else isFalse fun e=>h (by cases e;exact⟨rfl,rfl,rfl,rfl,rfl⟩)
abbrev Gs:=List Gate
def qh(g:Gate):Gs→Nat
 |[]=>0
 |x::l=>if x=g then 0 else qh g l+1
theorem jcn{g:Gate}:∀{l:Gs},g∈l→qh g l<l.length∧nth l (qh g l)=g
 |[],h=>by cases h
 |x::l,h=>by
  rw[qh]
  by_cases e:x=g
  ·rw[if_pos e];exact⟨by simp,by simpa[nth]using e⟩
  ·rw[if_neg e]
   have hl:g∈l:=by
    rcases List.mem_cons.1 h with h|h
    ·exact absurd h.symm e
    ·exact h
   obtain⟨h1,h2⟩:=jcn hl
   exact⟨by simpa using h1,by simpa[nth]using h2⟩
theorem jco{g:Gate}:∀{l m:Gs},g∈l→qh g (l++m)=qh g l
 |[],_,h=>by cases h
 |x::l,m,h=>by
  rw[List.cons_append,qh,qh]
  by_cases e:x=g
  ·rw[if_pos e,if_pos e]
  ·rw[if_neg e,if_neg e]
   have hl:g∈l:=by
    rcases List.mem_cons.1 h with h|h
    ·exact absurd h.symm e
    ·exact h
   rw[jco hl]
theorem jcp{g:Gate}:∀{l:Gs},¬g∈l→qh g (l++[g])=l.length
 |[],_=>by simp[qh]
 |x::l,h=>by
  rw[List.cons_append,qh,if_neg (fun e=>h (by simp[e])),jcp (fun h'=>h (vX _ h'))];rfl
theorem jhn{g x:Gate}{l:Gs}{k:Nat}(hk:k<l.length)(h:∀j,j<k→nth l j≠g)(e:nth l k=g):qh g l=k:=by
 induction l generalizing k with
 |nil=>simp at hk
 |cons y l ih=>
  rw[qh]
  cases k with
  |zero=>rw[if_pos (by simpa[nth]using e)]
  |succ k=>
   rw[if_neg (by have:=h 0 (by omega);simpa[nth]using this)]
   rw[ih (k:=k) (by simpa using hk) (fun j hj=>by have:=h (j+1) (by omega);simpa[nth]using this) (by simpa[nth]using e)]
abbrev Re:=Gs × Int
def gw(m:Nat)(gs:Gs)(g:Gate):Re:=if g∈gs then(gs,((m+qh g gs:Nat):Int))else(gs++[g],((m+gs.length:Nat):Int))
def fV(m:Nat)(gs:Gs)(x:Int):Int:=if(m:Int)≤x∧(nth gs (x - m).toNat).op=1 then(nth gs (x - m).toNat).a else -1
def jo(m:Nat)(gs:Gs)(x y:Int):Bool:=decide (fV m gs x=y)||decide (fV m gs y=x)
def dH(m:Nat)(gs:Gs)(x:Int):Re:=if x<2 then(gs,1 - x)else if 0≤fV m gs x then(gs,fV m gs x)else gw m gs ⟨1,x,0,0,0⟩
def yW(m:Nat)(gs:Gs)(x y:Int):Re:=if x=0∨jo m gs x y=true then(gs,0)else if x=1∨x=y then(gs,y)else gw m gs ⟨2,x,y,0,0⟩
def dj(m:Nat)(gs:Gs)(x y:Int):Re:=yW m gs (min x y) (max x y)
def yK(m:Nat)(gs:Gs)(x y:Int):Re:=if x=1∨jo m gs x y=true then(gs,1)else if x=0∨x=y then(gs,y)else gw m gs ⟨3,x,y,0,0⟩
def iM(m:Nat)(gs:Gs)(x y:Int):Re:=yK m gs (min x y) (max x y)
def yV(m:Nat)(gs:Gs)(x y:Int):Re:=if x=0 then(gs,y)else if x=1 then dH m gs y else if x=y then(gs,0)else if jo m gs x y=true then(gs,1)else gw m gs ⟨4,x,y,0,0⟩
def fQ(m:Nat)(gs:Gs)(x y:Int):Re:=yV m gs (min x y) (max x y)
def hU(m:Nat)(gs:Gs)(x y z:Int):Re:=
 if x=0 then(gs,z)else if x=1∨y=z then(gs,y)else if y=1 then iM m gs x z else if z=0 then dj m gs x y
 else if y=0 then(let n:=dH m gs x;dj m n.1 n.2 z)else if z=1 then(let n:=dH m gs x;iM m n.1 n.2 y)else gw m gs ⟨5,x,y,z,0⟩
def x3(m:Nat)(gs:Gs)(x y z:Int):Re:=if x=0 then dj m gs y z else if x=1 then iM m gs y z else if x=y∨y=z then(gs,y)else gw m gs ⟨6,x,y,z,0⟩
def xV(x y z:Int):Int:=min (min x y) z
def uF(x y z:Int):Int:=max (max x y) z
def tF(m:Nat)(gs:Gs)(x y z:Int):Re:=x3 m gs (xV x y z) (x+y+z - xV x y z - uF x y z) (uF x y z)
def bL(st:Gs→Nat→Re)(gs:Gs):Nat→Gs × List Int
 |0=>(gs,[])
 |k+1=>let s:=bL st gs k;let r:=st s.1 k;(r.1,s.2++[r.2])
theorem L5{st:Gs→Nat→Re}{gs:Gs}:∀k,(bL st gs k).2.length=k
 |0=>rfl
 |k+1=>by simp[bL,L5 k]
def uj(o:Int)(m:Nat)(gs:Gs)(x y:Int):Re:=if o=3 then dj m gs x y else if o=4 then iM m gs x y else fQ m gs x y
structure Sm where
 gs:Gs
 c:Int
 l:List Int
def fD(m:Nat)(gs:Gs)(x y:List Int)(c:Int):Nat→Sm
 |0=>⟨gs,c,[]⟩
 |k+1=>
  let s:=fD m gs x y c k
  let a:=fQ m s.gs (nth x k) (nth y k)
  let b:=fQ m a.1 a.2 s.c
  if k+1<x.length then(let d:=tF m b.1 (nth x k) (nth y k) s.c;⟨d.1,d.2,s.l++[b.2]⟩)else⟨b.1,s.c,s.l++[b.2]⟩
def j6(m:Nat)(gs:Gs)(x y:List Int):Nat→Re
 |0=>(gs,1)
 |k+1=>let s:=j6 m gs x y k;let a:=fQ m s.1 (nth x k) (nth y k);let n:=dH m a.1 a.2;dj m n.1 s.2 n.2
def jt(m:Nat)(gs:Gs)(x y:List Int):Nat→Re
 |0=>(gs,1)
 |k+1=>let s:=jt m gs x y k;let n:=dH m s.1 (nth y k);tF m n.1 (nth x k) n.2 s.2
inductive Ex where
 |ny (v w:Nat)
 |gQ (i:Nat)
 |fo (i:Nat)
 |not (a:Ex)
 |two (o:Int) (a b:Ex)
 |add (a b:Ex)
 |sub (a b:Ex)
 |eq (a b:Ex)
 |lt (a b:Ex)
 |oq (a b c:Ex)
 |cat (a b:Ex)
 |oJ (k w:Nat) (a:Ex)
 |ext (w:Nat) (a:Ex)
 |rd (k:Nat) (a:Ex)
 deriving Inhabited
structure Ct where
 aC:List Nat
 ag:List Nat
 au:List (Nat × Nat)
def jg(l:List Int)(words:Nat):List Int:=(List.range 3).map fun k=>if k<l.length∧2^k<words then nth l k else 0
def dN(c:Ct)(cG:Int→Nat→Nat→Int)(m:Nat)(data:List (List Int)):Gs→Ex→Gs × List Int
 |gs,.ny v w=>(gs,(List.range w).map fun i=>((v / 2^i % 2:Nat):Int))
 |gs,.gQ i=>(gs,(List.range (nth c.aC i)).map fun k=>cG 1 i k)
 |gs,.fo i=>(gs,nth data i)
 |gs,.not a=>let r:=dN c cG m data gs a;bL (fun gs i=>dH m gs (nth r.2 i)) r.1 r.2.length
 |gs,.two o a b=>let r:=dN c cG m data gs a;let s:=dN c cG m data r.1 b;bL (fun gs i=>uj o m gs (nth r.2 i) (nth s.2 i)) s.1 r.2.length
 |gs,.add a b=>let r:=dN c cG m data gs a;let s:=dN c cG m data r.1 b;let t:=fD m s.1 r.2 s.2 0 r.2.length;(t.gs,t.l)
 |gs,.sub a b=>let r:=dN c cG m data gs a;let s:=dN c cG m data r.1 b;let n:=bL (fun gs i=>dH m gs (nth s.2 i)) s.1 s.2.length;let t:=fD m n.1 r.2 n.2 1 r.2.length;(t.gs,t.l)
 |gs,.eq a b=>let r:=dN c cG m data gs a;let s:=dN c cG m data r.1 b;let t:=j6 m s.1 r.2 s.2 r.2.length;(t.1,[t.2])
 |gs,.lt a b=>let r:=dN c cG m data gs a;let s:=dN c cG m data r.1 b;let t:=jt m s.1 r.2 s.2 r.2.length;let n:=dH m t.1 t.2;(n.1,[n.2])
 |gs,.oq a b d=>let r:=dN c cG m data gs a;let s:=dN c cG m data r.1 b;let t:=dN c cG m data s.1 d;bL (fun gs i=>hU m gs (nth r.2 0) (nth s.2 i) (nth t.2 i)) t.1 s.2.length
 |gs,.cat a b=>let r:=dN c cG m data gs a;let s:=dN c cG m data r.1 b;(s.1,s.2++r.2)
 |gs,.oJ k w a=>let r:=dN c cG m data gs a;(r.1,(r.2.drop k).take w)
 |gs,.ext w a=>let r:=dN c cG m data gs a;(r.1,r.2++List.replicate (w - r.2.length) 0)
 |gs,.rd k a=>let r:=dN c cG m data gs a;let d:=jg r.2 (nth c.au k).1;bL (fun gs i=>gw m gs ⟨7,nth d 0,nth d 1,nth d 2,((8*k+i:Nat):Int)⟩) r.1 (nth c.au k).2
def bm(m:Nat)(gs:Gs)(x:Int):Prop:=0≤x∧x<(m:Int)+gs.length
structure Bg (lim:Int) (g:Gate):Prop where
 o1:1≤g.op
 o2:g.op≤7
 a0:0≤g.a
 a1:g.a<lim
 b0:0≤g.b
 b1:g.b<lim
 c0:0≤g.c
 c1:g.c<lim
 n0:0≤g.n
 n1:g.n<64
 nz:g.op≠7→g.n=0
 bz:g.op=1→g.b=0
 cz:g.op≤4→g.c=0
structure CX (m:Nat) (gs:Gs) (g:Gate):Prop where
 nt:g.op=1→2≤g.a∧fV m gs g.a= -1
 tw:2≤g.op→g.op≤4→2≤g.a∧g.a<g.b∧fV m gs g.a≠g.b∧fV m gs g.b≠g.a
 mx:g.op=5→2≤g.a∧2≤g.b∧2≤g.c∧g.b≠g.c
 mj:g.op=6→2≤g.a∧g.a<g.b∧g.b<g.c
structure GI (m:Nat) (gs:Gs):Prop where
 rg:∀k,k<gs.length→Bg ((m:Int)+k) (nth gs k)
 no:∀k,k<gs.length→CX m gs (nth gs k)
 nd:gs.Nodup
theorem xZ{α:Type}[Inhabited α]{l t:List α}{k:Nat}(h:k<l.length):nth (l++t) k=nth l k:=by
 unfold nth;simp[fZ,iw h]
theorem Gd{α:Type}[Inhabited α]{l:List α}{x:α}:nth (l++[x]) l.length=x:=by unfold nth;simp[fZ]
theorem LB{m:Nat}{gs t:Gs}{x:Int}(h:x<(m:Int)+gs.length):fV m (gs++t) x=fV m gs x:=by
 unfold fV
 by_cases hx:(m:Int)≤x
 ·rw[xZ (show(x - m).toNat<gs.length by omega)]
 ·rw[if_neg (fun e=>hx e.1),if_neg (fun e=>hx e.1)]
theorem bm.pre{m:Nat}{gs fH:Gs}{x:Int}(h:bm m gs x)(hp:gs<+:fH):bm m fH x:=by
 have:=hp.length_le
 exact⟨h.1,by have:=h.2;omega⟩
theorem CX.app{m:Nat}{gs t:Gs}{g:Gate}(h:CX m gs g)(hr:Bg ((m:Int)+gs.length) g):CX m (gs++t) g:=by
 have ha:=hr.a1
 have hb:=hr.b1
 exact⟨fun e=>by rw[LB ha];exact h.nt e,fun e f=>by rw[LB ha,LB hb];exact h.tw e f,h.mx,h.mj⟩
theorem Bg.mono{a b:Int}{g:Gate}(h:Bg a g)(uN:a≤b):Bg b g:=by
 obtain⟨o1,o2,a0,a1,b0,b1,c0,c1,n0,n1,z1,z2,z3⟩:=h
 exact⟨o1,o2,a0,by omega,b0,by omega,c0,by omega,n0,n1,z1,z2,z3⟩
theorem GI.nil(m:Nat):GI m []:=⟨fun k h=>by simp at h,fun k h=>by simp at h,.nil⟩
theorem GI.snoc{m:Nat}{gs:Gs}{g:Gate}(h:GI m gs)(hr:Bg ((m:Int)+gs.length) g)(hn:CX m gs g)(hm:¬g∈gs):GI m (gs++[g]):=by
 refine⟨fun k hk=>?_,fun k hk=>?_,?_⟩
 ·by_cases hl:k<gs.length
  ·rw[xZ hl];exact h.rg k hl
  ·have:k=gs.length:=by simp at hk;omega
   subst this
   rw[Gd];exact hr
 ·by_cases hl:k<gs.length
  ·rw[xZ hl];exact(h.no k hl).app ((h.rg k hl).mono (by omega))
  ·have:k=gs.length:=by simp at hk;omega
   subst this
   rw[Gd];exact hn.app hr
 ·rw[List.nodup_append]
  exact⟨h.nd,by simp,fun a ha b hb e=>by simp at hb;subst hb;subst e;exact hm ha⟩
structure Rs (m n:Nat) (gs:Gs) (r:Re):Prop where
 pre:gs<+:r.1
 gi:GI m r.1
 len:r.1.length≤gs.length+n
 nd:bm m r.1 r.2
theorem Rs.mono{m n k:Nat}{gs:Gs}{r:Re}(h:Rs m n gs r)(hk:n≤k):Rs m k gs r:=⟨h.pre,h.gi,by have:=h.len;omega,h.nd⟩
theorem Rs.same{m n:Nat}{gs:Gs}{x:Int}(h:GI m gs)(hx:bm m gs x):Rs m n gs (gs,x):=⟨List.prefix_refl _,h,by simp,hx⟩
theorem yB{m:Nat}{gs:Gs}{g:Gate}(h:GI m gs)(hr:Bg ((m:Int)+gs.length) g)(hn:CX m gs g):Rs m 1 gs (gw m gs g):=by
 unfold gw
 by_cases hm:g∈gs
 ·rw[if_pos hm]
  have:=(jcn hm).1
  exact Rs.same h ⟨by omega,by omega⟩
 ·rw[if_neg hm]
  exact⟨List.prefix_append _ _,h.snoc hr hn hm,by simp,by simp only;omega,by simp;omega⟩
theorem jx0{m:Nat}{gs:Gs}{x:Int}(h:GI m gs)(hx:bm m gs x):fV m gs x= -1∨(2≤fV m gs x∧fV m gs x<x∧fV m gs (fV m gs x)= -1):=by
 by_cases e:(m:Int)≤x∧(nth gs (x - m).toNat).op=1
 ·right
  have hk:(x - m).toNat<gs.length:=by have:=hx.2;omega
  have h1:=h.rg _ hk
  have h2:=(h.no _ hk).nt e.2
  have e1:fV m gs x=(nth gs (x - m).toNat).a:=by unfold fV;rw[if_pos e]
  have:=h1.a1
  rw[e1]
  exact⟨h2.1,by omega,h2.2⟩
 ·left;unfold fV;rw[if_neg e]
theorem oH{m:Nat}{gs:Gs}{x:Int}(h2:2≤m)(h:GI m gs)(hx:bm m gs x):Rs m 1 gs (dH m gs x):=by
 unfold dH
 by_cases h1:x<2
 ·rw[if_pos h1];exact Rs.same h ⟨by have:=hx.1;omega,by have:=hx.1;omega⟩
 ·rw[if_neg h1]
  rcases jx0 h hx with hi|⟨hi,hj,_⟩
  ·rw[if_neg (by omega)]
   have hx1:=hx.2
   exact yB h ⟨by simp,by simp,hx.1,hx1,by simp,by simp only;omega,by simp,by simp only;omega,by simp,by simp,fun _=>rfl,fun _=>rfl,fun _=>rfl⟩ ⟨fun _=>⟨by simp only;omega,hi⟩,fun a=>absurd a (by simp),fun a=>absurd a (by simp),fun a=>absurd a (by simp)⟩
  ·rw[if_pos (by omega)]
   exact Rs.same h ⟨by omega,by have:=hx.2;omega⟩
theorem OP{m:Nat}{gs:Gs}{x y o:Int}(h2:2≤m)(o1:2≤o)(o2:o≤4)(hx:bm m gs x)(hy:bm m gs y):Bg ((m:Int)+gs.length) ⟨o,x,y,0,0⟩:=
 ⟨by simp only;omega,by simp only;omega,hx.1,hx.2,hy.1,hy.2,by simp,by simp only;omega,by simp,by simp,fun _=>rfl,fun e=>absurd e (by simp only;omega),fun _=>rfl⟩
theorem OO{m:Nat}{gs:Gs}{x y o:Int}(o1:2≤o)(o2:o≤4)(hx:2≤x)(mJ:x<y)(hi:jo m gs x y=false):CX m gs ⟨o,x,y,0,0⟩:=by
 simp only[jo,Bool.or_eq_false_iff,decide_eq_false_iff_not]at hi
 exact⟨fun e=>absurd e (by simp only;omega),fun _ _=>⟨hx,mJ,hi.1,hi.2⟩,fun e=>absurd e (by simp only;omega),fun e=>absurd e (by simp only;omega)⟩
theorem yer{m:Nat}{gs:Gs}{x y:Int}(h2:2≤m)(h:GI m gs)(hx:bm m gs x)(hy:bm m gs y)(mJ:x≤y):Rs m 1 gs (yW m gs x y):=by
 unfold yW
 have x0:=hx.1
 by_cases h1:x=0∨jo m gs x y=true
 ·rw[if_pos h1];exact Rs.same h ⟨by omega,by omega⟩
 ·rw[if_neg h1]
  by_cases h3:x=1∨x=y
  ·rw[if_pos h3];exact Rs.same h hy
  ·rw[if_neg h3]
   exact yB h (OP h2 (by decide) (by decide) hx hy) (OO (by decide) (by decide) (by omega) (by omega) (by simpa using fun e=>h1 (.inr e)))
theorem yjv{m:Nat}{gs:Gs}{x y:Int}(h2:2≤m)(h:GI m gs)(hx:bm m gs x)(hy:bm m gs y)(mJ:x≤y):Rs m 1 gs (yK m gs x y):=by
 unfold yK
 have x0:=hx.1
 by_cases h1:x=1∨jo m gs x y=true
 ·rw[if_pos h1];exact Rs.same h ⟨by omega,by omega⟩
 ·rw[if_neg h1]
  by_cases h3:x=0∨x=y
  ·rw[if_pos h3];exact Rs.same h hy
  ·rw[if_neg h3]
   exact yB h (OP h2 (by decide) (by decide) hx hy) (OO (by decide) (by decide) (by omega) (by omega) (by simpa using fun e=>h1 (.inr e)))
theorem yes{m:Nat}{gs:Gs}{x y:Int}(h2:2≤m)(h:GI m gs)(hx:bm m gs x)(hy:bm m gs y)(mJ:x≤y):Rs m 1 gs (yV m gs x y):=by
 unfold yV
 have x0:=hx.1
 by_cases h1:x=0
 ·rw[if_pos h1];exact Rs.same h hy
 ·rw[if_neg h1]
  by_cases h3:x=1
  ·rw[if_pos h3];exact oH h2 h hy
  ·rw[if_neg h3]
   by_cases h4:x=y
   ·rw[if_pos h4];exact Rs.same h ⟨by omega,by omega⟩
   ·rw[if_neg h4]
    by_cases h5:jo m gs x y=true
    ·rw[if_pos h5];exact Rs.same h ⟨by omega,by omega⟩
    ·rw[if_neg h5]
     exact yB h (OP h2 (by decide) (by decide) hx hy) (OO (by decide) (by decide) (by omega) (by omega) (by simpa using h5))
theorem C6{m:Nat}{gs:Gs}{x y:Int}(hx:bm m gs x)(hy:bm m gs y):bm m gs (min x y):=by rcases Int.le_total x y with h|h<;>simp only[h,Int.min_eq_left,Int.min_eq_right]<;>assumption
theorem C5{m:Nat}{gs:Gs}{x y:Int}(hx:bm m gs x)(hy:bm m gs y):bm m gs (max x y):=by rcases Int.le_total x y with h|h<;>simp only[h,Int.max_eq_left,Int.max_eq_right]<;>assumption
theorem Oi(x y:Int):min x y≤max x y:=by omega
section
variable {m:Nat} {gs:Gs} {x y z:Int}
theorem rK(h2:2≤m)(h:GI m gs)(hx:bm m gs x)(hy:bm m gs y):Rs m 1 gs (dj m gs x y):=yer h2 h (C6 hx hy) (C5 hx hy) (Oi x y)
theorem yp(h2:2≤m)(h:GI m gs)(hx:bm m gs x)(hy:bm m gs y):Rs m 1 gs (iM m gs x y):=yjv h2 h (C6 hx hy) (C5 hx hy) (Oi x y)
theorem vJ(h2:2≤m)(h:GI m gs)(hx:bm m gs x)(hy:bm m gs y):Rs m 1 gs (fQ m gs x y):=yes h2 h (C6 hx hy) (C5 hx hy) (Oi x y)
theorem Rs.trans{n k:Nat}{r s:Re}(h:Rs m n gs r)(t:Rs m k r.1 s):Rs m (n+k) gs s:=⟨h.pre.trans t.pre,t.gi,by have:=h.len;have:=t.len;omega,t.nd⟩
theorem Ko{o:Int}(h2:2≤m)(h:GI m gs)(hx:bm m gs x)(hy:bm m gs y):Rs m 1 gs (uj o m gs x y):=by
 unfold uj
 split
 ·exact rK h2 h hx hy
 ·split
  ·exact yp h2 h hx hy
  ·exact vJ h2 h hx hy
theorem C4(h2:2≤m)(h:GI m gs)(hx:bm m gs x)(hy:bm m gs y)(hz:bm m gs z):Rs m 2 gs (hU m gs x y z):=by
 have x0:=hx.1
 have y0:=hy.1
 have z0:=hz.1
 unfold hU
 by_cases h1:x=0
 ·rw[if_pos h1];exact Rs.same h hz
 rw[if_neg h1]
 by_cases h3:x=1∨y=z
 ·rw[if_pos h3];exact Rs.same h hy
 rw[if_neg h3]
 by_cases h4:y=1
 ·rw[if_pos h4];exact(yp h2 h hx hz).mono (by omega)
 rw[if_neg h4]
 by_cases h5:z=0
 ·rw[if_pos h5];exact(rK h2 h hx hy).mono (by omega)
 rw[if_neg h5]
 have hn:=oH h2 h hx
 by_cases h6:y=0
 ·rw[if_pos h6];exact hn.trans (rK h2 hn.gi hn.nd (hz.pre hn.pre))
 rw[if_neg h6]
 by_cases h7:z=1
 ·rw[if_pos h7];exact hn.trans (yp h2 hn.gi hn.nd (hy.pre hn.pre))
 rw[if_neg h7]
 exact(yB h ⟨by simp,by simp,x0,hx.2,y0,hy.2,z0,hz.2,by simp,by simp,fun _=>rfl,fun e=>absurd e (by simp),fun e=>absurd e (by simp)⟩
  ⟨fun e=>absurd e (by simp),fun _ e=>absurd e (by simp),fun _=>⟨by simp only;omega,by simp only;omega,by simp only;omega,fun e=>h3 (.inr e)⟩,fun e=>absurd e (by simp)⟩).mono (by omega)
theorem yeu(h2:2≤m)(h:GI m gs)(hx:bm m gs x)(hy:bm m gs y)(hz:bm m gs z)(h1:x≤y)(h3:y≤z):Rs m 1 gs (x3 m gs x y z):=by
 have x0:=hx.1
 unfold x3
 by_cases h4:x=0
 ·rw[if_pos h4];exact rK h2 h hy hz
 rw[if_neg h4]
 by_cases h5:x=1
 ·rw[if_pos h5];exact yp h2 h hy hz
 rw[if_neg h5]
 by_cases h6:x=y∨y=z
 ·rw[if_pos h6];exact Rs.same h hy
 rw[if_neg h6]
 exact yB h ⟨by simp,by simp,x0,hx.2,hy.1,hy.2,hz.1,hz.2,by simp,by simp,fun _=>rfl,fun e=>absurd e (by simp),fun e=>absurd e (by simp)⟩
  ⟨fun e=>absurd e (by simp),fun _ e=>absurd e (by simp),fun e=>absurd e (by simp),fun _=>⟨by simp only;omega,by simp only;omega,by simp only;omega⟩⟩
theorem YC(x y z:Int):∃a b c,xV x y z=a∧x+y+z - xV x y z - uF x y z=b∧uF x y z=c∧a≤b∧b≤c∧((a=x∧b=y∧c=z)∨(a=x∧b=z∧c=y)∨(a=y∧b=x∧c=z)∨(a=y∧b=z∧c=x)∨(a=z∧b=x∧c=y)∨(a=z∧b=y∧c=x)):=by
 refine⟨_,_,_,rfl,rfl,rfl,?_,?_,?_⟩<;>unfold xV uF<;>omega
theorem ZH(h2:2≤m)(h:GI m gs)(hx:bm m gs x)(hy:bm m gs y)(hz:bm m gs z):Rs m 1 gs (tF m gs x y z):=by
 unfold tF
 obtain⟨a,b,c,e1,e2,e3,h1,h3,hh⟩:=YC x y z
 rw[e2,e1,e3]
 refine yeu h2 h ?_ ?_ ?_ h1 h3<;>(rcases hh with⟨rfl,rfl,rfl⟩|⟨rfl,rfl,rfl⟩|⟨rfl,rfl,rfl⟩|⟨rfl,rfl,rfl⟩|⟨rfl,rfl,rfl⟩|⟨rfl,rfl,rfl⟩<;>assumption)
end
structure Bs (m n w:Nat) (gs:Gs) (r:Gs × List Int):Prop where
 pre:gs<+:r.1
 gi:GI m r.1
 len:r.1.length≤gs.length+n
 wid:r.2.length=w
 nd:∀k,k<w→bm m r.1 (nth r.2 k)
theorem Bs.at{m n w:Nat}{gs:Gs}{r:Gs × List Int}(h:Bs m n w gs r){fH:Gs}(hp:r.1<+:fH){k:Nat}(hk:k<w):bm m fH (nth r.2 k):=(h.nd k hk).pre hp
theorem kz{m q:Nat}{gs:Gs}{st:Gs→Nat→Re}(h:GI m gs):∀{n:Nat},(∀k,k<n→∀fH,gs<+:fH→GI m fH→Rs m q fH (st fH k))→Bs m (q*n) n gs (bL st gs n)
 |0,_=>⟨List.prefix_refl _,h,by simp[bL],rfl,fun k hk=>by omega⟩
 |n+1,hs=>by
  have ih:=kz (n:=n) h fun k hk=>hs k (by omega)
  have s:=hs n (by omega) _ ih.pre ih.gi
  refine⟨ih.pre.trans s.pre,s.gi,?_,by simp[bL,ih.wid],fun k hk=>?_⟩
  ·have h1:=ih.len
   have h2:=s.len
   show(st (bL st gs n).1 n).1.length≤_
   rw[Nat.mul_succ];omega
  ·show bm m (st (bL st gs n).1 n).1 (nth ((bL st gs n).2++[(st (bL st gs n).1 n).2]) k)
   by_cases hl:k<n
   ·rw[xZ (by rw[ih.wid];exact hl)];exact(ih.nd k hl).pre s.pre
   ·have:k=(bL st gs n).2.length:=by rw[ih.wid];omega
    rw[this,Gd];exact s.nd
structure Ss (m n w:Nat) (gs:Gs) (s:Sm):Prop where
 bs:Bs m n w gs (s.gs,s.l)
 c:bm m s.gs s.c
theorem EV{m:Nat}{gs:Gs}{x y:List Int}{c:Int}(h2:2≤m)(h:GI m gs)(hx:∀k,k<x.length→bm m gs (nth x k))(hy:∀k,k<x.length→bm m gs (nth y k))(hc:bm m gs c):∀k,k≤x.length→Ss m (3*k) k gs (fD m gs x y c k)
 |0,_=>⟨⟨List.prefix_refl _,h,by simp[fD],rfl,fun k hk=>by omega⟩,hc⟩
 |k+1,hk=>by
  obtain⟨ih,KW⟩:=EV h2 h hx hy hc k (by omega)
  generalize es:fD m gs x y c k=s at *
  have ha:=vJ h2 ih.gi ((hx k (by omega)).pre ih.pre) ((hy k (by omega)).pre ih.pre)
  have hb:=vJ h2 ha.gi ha.nd (KW.pre ha.pre)
  have uN:=ha.trans hb
  have bsr:∀r:Re,Rs m 1 (fQ m (fQ m s.gs (nth x k) (nth y k)).1 (fQ m s.gs (nth x k) (nth y k)).2 s.c).1 r→Bs m (3*(k+1)) (k+1) gs (r.1,s.l++[(fQ m (fQ m s.gs (nth x k) (nth y k)).1 (fQ m s.gs (nth x k) (nth y k)).2 s.c).2]):=fun r hr=>by
   have ht:=uN.trans hr
   refine⟨ih.pre.trans ht.pre,ht.gi,?_,by simp[show s.l.length=k from ih.wid],fun j hj=>?_⟩
   ·have h1:=ih.len
    have h3:=ht.len
    simp only at *
    omega
   ·have hw:s.l.length=k:=ih.wid
    by_cases hl:j<k
    ·simp only
     rw[xZ (by rw[hw];exact hl)];exact(ih.nd j hl).pre ht.pre
    ·have:j=s.l.length:=by omega
     simp only
     rw[this,Gd];exact hb.nd.pre hr.pre
  rw[fD]
  simp only[es]
  split
  ·have hd:=ZH h2 hb.gi ((hx k (by omega)).pre (ih.pre.trans uN.pre)) ((hy k (by omega)).pre (ih.pre.trans uN.pre)) (KW.pre uN.pre)
   exact⟨bsr _ hd,hd.nd⟩
  ·exact⟨bsr (_,s.c) (Rs.same hb.gi (KW.pre uN.pre)),KW.pre uN.pre⟩
theorem Kn{m:Nat}{gs:Gs}{x y:List Int}(h2:2≤m)(h:GI m gs)(hx:∀k,k<x.length→bm m gs (nth x k))(hy:∀k,k<x.length→bm m gs (nth y k)):∀k,k≤x.length→Rs m (3*k) gs (j6 m gs x y k)
 |0,_=>Rs.same h ⟨by decide,by omega⟩
 |k+1,hk=>by
  have ih:=Kn h2 h hx hy k (by omega)
  have ha:=vJ h2 ih.gi ((hx k (by omega)).pre ih.pre) ((hy k (by omega)).pre ih.pre)
  have hn:=oH h2 ha.gi ha.nd
  have hd:=rK h2 hn.gi (ih.nd.pre (ha.pre.trans hn.pre)) hn.nd
  exact(((ih.trans ha).trans hn).trans hd).mono (by omega)
theorem Km{m:Nat}{gs:Gs}{x y:List Int}(h2:2≤m)(h:GI m gs)(hx:∀k,k<x.length→bm m gs (nth x k))(hy:∀k,k<x.length→bm m gs (nth y k)):∀k,k≤x.length→Rs m (2*k) gs (jt m gs x y k)
 |0,_=>Rs.same h ⟨by decide,by omega⟩
 |k+1,hk=>by
  have ih:=Km h2 h hx hy k (by omega)
  have hn:=oH h2 ih.gi ((hy k (by omega)).pre ih.pre)
  have hd:=ZH h2 hn.gi ((hx k (by omega)).pre (ih.pre.trans hn.pre)) hn.nd (ih.nd.pre hn.pre)
  exact((ih.trans hn).trans hd).mono (by omega)
def bV(c:Ct):Ex→Nat
 | .ny _ w=>w
 | .gQ i=>nth c.aC i
 | .fo i=>nth c.ag i
 | .not a=>bV c a
 | .two _ a _=>bV c a
 | .add a _=>bV c a
 | .sub a _=>bV c a
 | .eq _ _=>1
 | .lt _ _=>1
 | .oq _ b _=>bV c b
 | .cat a b=>bV c a+bV c b
 | .oJ _ w _=>w
 | .ext w _=>w
 | .rd k _=>(nth c.au k).2
def cf(c:Ct):Ex→Nat
 | .ny _ _=>0
 | .gQ _=>0
 | .fo _=>0
 | .not a=>cf c a+bV c a
 | .two _ a b=>cf c a+cf c b+bV c a
 | .add a b=>cf c a+cf c b+3*bV c a
 | .sub a b=>cf c a+cf c b+4*bV c a
 | .eq a b=>cf c a+cf c b+3*bV c a
 | .lt a b=>cf c a+cf c b+(2*bV c a+1)
 | .oq a b d=>cf c a+cf c b+cf c d+2*bV c b
 | .cat a b=>cf c a+cf c b
 | .oJ _ _ a=>cf c a
 | .ext _ a=>cf c a
 | .rd k a=>cf c a+(nth c.au k).2
def WT(c:Ct)(q:Bool):Ex→Prop
 | .ny v w=>1≤w∧w≤8∧v<2^w
 | .gQ i=>i<c.aC.length
 | .fo i=>q=true∧i<c.ag.length
 | .not a=>WT c q a
 | .two o a b=>(o=3∨o=4∨o=5)∧WT c q a∧WT c q b∧bV c a=bV c b
 | .add a b=>WT c q a∧WT c q b∧bV c a=bV c b
 | .sub a b=>WT c q a∧WT c q b∧bV c a=bV c b
 | .eq a b=>WT c q a∧WT c q b∧bV c a=bV c b
 | .lt a b=>WT c q a∧WT c q b∧bV c a=bV c b
 | .oq a b d=>WT c q a∧WT c q b∧WT c q d∧bV c a=1∧bV c b=bV c d
 | .cat a b=>WT c q a∧WT c q b∧bV c a+bV c b≤8
 | .oJ k w a=>WT c q a∧1≤w∧k+w≤bV c a
 | .ext w a=>WT c q a∧bV c a≤w∧w≤8
 | .rd k a=>WT c q a∧k<c.au.length
structure nE (c:Ct):Prop where
 r:∀i,i<c.aC.length→1≤nth c.aC i∧nth c.aC i≤8
 t:∀i,i<c.ag.length→1≤nth c.ag i∧nth c.ag i≤8
 m:∀i,i<c.au.length→1≤(nth c.au i).1∧(nth c.au i).1≤8∧1≤(nth c.au i).2∧(nth c.au i).2≤8
 l:c.au.length≤8
theorem fv{c:Ct}{q:Bool}(hc:nE c):∀{e:Ex},WT c q e→1≤bV c e∧bV c e≤8
 | .ny v w,h=>⟨h.1,h.2.1⟩
 | .gQ i,h=>hc.r i h
 | .fo i,h=>hc.t i h.2
 | .not a,h=>fv hc (e:=a) h
 | .two o a b,h=>fv hc (e:=a) h.2.1
 | .add a b,h=>fv hc (e:=a) h.1
 | .sub a b,h=>fv hc (e:=a) h.1
 | .eq a b,h=>⟨bJ 1,by simp[bV]⟩
 | .lt a b,h=>⟨bJ 1,by simp[bV]⟩
 | .oq a b d,h=>fv hc (e:=b) h.2.1
 | .cat a b,h=>by have:=fv hc (e:=a) h.1;have:=h.2.2;simp only[bV];omega
 | .oJ k w a,h=>by have:=fv hc (e:=a) h.1;have:=h.2;simp only[bV];omega
 | .ext w a,h=>by have:=fv hc (e:=a) h.1;have:=h.2;simp only[bV];omega
 | .rd k a,h=>(hc.m k h.2).2.2
structure C1 (c:Ct) (cG:Int→Nat→Nat→Int) (m:Nat):Prop where
 r:∀i k,i<c.aC.length→k<nth c.aC i→0≤cG 1 i k∧cG 1 i k<m
structure mo (c:Ct) (q:Bool) (m:Nat) (gs:Gs) (data:List (List Int)):Prop where
 l:q=true→data.length=c.ag.length
 w:q=true→∀i,i<c.ag.length→(nth data i).length=nth c.ag i
 nd:q=true→∀i,i<c.ag.length→∀k,k<nth c.ag i→bm m gs (nth (nth data i) k)
theorem mo.pre{c:Ct}{q:Bool}{m:Nat}{gs fH:Gs}{data:List (List Int)}(h:mo c q m gs data)(hp:gs<+:fH):mo c q m fH data:=⟨h.l,h.w,fun e i hi k hk=>(h.nd e i hi k hk).pre hp⟩
theorem Bs.ext{m n w k:Nat}{gs:Gs}{r:Gs × List Int}(h:Bs m n w gs r)(hk:n≤k):Bs m k w gs r:=⟨h.pre,h.gi,by have:=h.len;omega,h.wid,h.nd⟩
theorem Bs.trans{m n k w v:Nat}{gs:Gs}{r s:Gs × List Int}(h:Bs m n w gs r)(t:Bs m k v r.1 s):Bs m (n+k) v gs s:=⟨h.pre.trans t.pre,t.gi,by have:=h.len;have:=t.len;omega,t.wid,t.nd⟩
theorem C3{m:Nat}{gs:Gs}{l:List Int}{words j:Nat}(h2:2≤m)(h:∀k,k<l.length→bm m gs (nth l k))(hj:j<3):bm m gs (nth (jg l words) j):=by
 have e:nth (jg l words) j=if j<l.length∧2^j<words then nth l j else 0:=by
  unfold jg nth;simp[fZ,hj]
 rw[e]
 split
 ·rename_i hh;exact h j hh.1
 ·exact⟨by decide,by omega⟩
theorem L4{β:Type}[Inhabited β]{f:Nat→β}{n k:Nat}(h:k<n):nth ((List.range n).map f) k=f k:=by unfold nth;simp[fZ,h]
theorem jx2{n k:Nat}{x:Int}(h:k<n):nth (List.replicate n x) k=x:=by unfold nth;simp[fZ,h]
theorem DG{α:Type}[Inhabited α]{l t:List α}{k:Nat}(h:l.length≤k):nth (l++t) k=nth t (k - l.length):=by
 unfold nth;simp[fZ,jj h]
theorem jx3{α:Type}[Inhabited α]{l:List α}{a w k:Nat}(h:k<w):nth ((l.drop a).take w) k=nth l (a+k):=by
 unfold nth;simp[fZ,List.getElem?_take_of_lt h]
theorem ON{m:Nat}{gs:Gs}{x:Int}(h:bm m gs x):∀k,k<1→bm m gs (nth [x] k)
 |0,_=>h
 |k+1,hk=>by omega
theorem LA{c:Ct}{q:Bool}{cG:Int→Nat→Nat→Int}{m:Nat}{data:List (List Int)}(h2:2≤m)(hc:nE c)(hi:C1 c cG m)(e:Ex):∀{gs:Gs},GI m gs→mo c q m gs data→WT c q e→Bs m (cf c e) (bV c e) gs (dN c cG m data gs e):=by
 induction e with
 |ny v w=>
  intro gs h hd ht
  refine⟨List.prefix_refl _,h,by simp[dN],by simp[dN,bV],fun k hk=>?_⟩
  simp only[dN,bV]at hk ⊢
  rw[L4 hk]
  have:=Nat.mod_lt (v / 2^k) (show 0<2 by decide)
  exact⟨by omega,by omega⟩
 |gQ i=>
  intro gs h hd ht
  refine⟨List.prefix_refl _,h,by simp[dN],by simp[dN,bV],fun k hk=>?_⟩
  simp only[dN,bV]at hk ⊢
  rw[L4 hk]
  have:=hi.r i k ht hk
  exact⟨this.1,by omega⟩
 |fo i=>
  intro gs h hd ht
  exact⟨List.prefix_refl _,h,by simp[dN],hd.w ht.1 i ht.2,fun k hk=>hd.nd ht.1 i ht.2 k hk⟩
 |not a ic=>
  intro gs h hd ht
  have ha:=ic h hd ht
  simp only[dN,cf,bV]
  generalize dN c cG m data gs a=r at *
  rw[ha.wid]
  exact(ha.trans (kz (q:=1) ha.gi fun k hk fH hp hg=>oH h2 hg (ha.at hp hk))).ext (by omega)
 |two o a b ic ly=>
  intro gs h hd ht
  obtain⟨_,ta,tb,hw⟩:=ht
  have ha:=ic h hd ta
  simp only[dN,cf,bV]
  generalize dN c cG m data gs a=r at *
  have hb:=ly ha.gi (hd.pre ha.pre) tb
  generalize dN c cG m data r.1 b=s at *
  rw[ha.wid]
  exact((ha.trans hb).trans (kz (q:=1) hb.gi fun k hk fH hp hg=>Ko h2 hg (ha.at (hb.pre.trans hp) hk) (hb.at hp (by omega)))).ext (by omega)
 |add a b ic ly=>
  intro gs h hd ht
  obtain⟨ta,tb,hw⟩:=ht
  have ha:=ic h hd ta
  simp only[dN,cf,bV]
  generalize dN c cG m data gs a=r at *
  have hb:=ly ha.gi (hd.pre ha.pre) tb
  generalize dN c cG m data r.1 b=s at *
  rw[ha.wid]
  exact((ha.trans hb).trans (EV h2 hb.gi (fun k hk=>ha.at hb.pre (by rw[ha.wid]at hk;exact hk)) (fun k hk=>hb.nd k (by rw[ha.wid]at hk;omega)) ⟨by decide,by omega⟩ _ (by rw[ha.wid];exact bJ _)).bs).ext (by omega)
 |sub a b ic ly=>
  intro gs h hd ht
  obtain⟨ta,tb,hw⟩:=ht
  have ha:=ic h hd ta
  simp only[dN,cf,bV]
  generalize dN c cG m data gs a=r at *
  have hb:=ly ha.gi (hd.pre ha.pre) tb
  generalize dN c cG m data r.1 b=s at *
  rw[ha.wid,hb.wid]
  have hn:=kz (q:=1) (n:=bV c b) hb.gi (st:=fun gs i=>dH m gs (nth s.2 i)) fun k hk fH hp hg=>oH h2 hg (hb.at hp hk)
  generalize bL (fun gs i=>dH m gs (nth s.2 i)) s.1 (bV c b)=n at *
  exact(((ha.trans hb).trans hn).trans (EV h2 hn.gi (fun k hk=>ha.at (hb.pre.trans hn.pre) (by rw[ha.wid]at hk;exact hk)) (fun k hk=>hn.nd k (by rw[ha.wid]at hk;omega)) ⟨by decide,by omega⟩ _ (by rw[ha.wid];exact bJ _)).bs).ext (by omega)
 |eq a b ic ly=>
  intro gs h hd ht
  obtain⟨ta,tb,hw⟩:=ht
  have ha:=ic h hd ta
  simp only[dN,cf,bV]
  generalize dN c cG m data gs a=r at *
  have hb:=ly ha.gi (hd.pre ha.pre) tb
  generalize dN c cG m data r.1 b=s at *
  have hs:=Kn h2 hb.gi (x:=r.2) (y:=s.2) (fun k hk=>ha.at hb.pre (by rw[ha.wid]at hk;exact hk)) (fun k hk=>hb.nd k (by rw[ha.wid]at hk;omega)) _ (bJ _)
  rw[ha.wid]at hs ⊢
  exact((ha.trans hb).trans (k:=3*bV c a) (v:=1) ⟨hs.pre,hs.gi,hs.len,rfl,ON hs.nd⟩).ext (by omega)
 |lt a b ic ly=>
  intro gs h hd ht
  obtain⟨ta,tb,hw⟩:=ht
  have ha:=ic h hd ta
  simp only[dN,cf,bV]
  generalize dN c cG m data gs a=r at *
  have hb:=ly ha.gi (hd.pre ha.pre) tb
  generalize dN c cG m data r.1 b=s at *
  have zc:=Km h2 hb.gi (x:=r.2) (y:=s.2) (fun k hk=>ha.at hb.pre (by rw[ha.wid]at hk;exact hk)) (fun k hk=>hb.nd k (by rw[ha.wid]at hk;omega)) _ (bJ _)
  rw[ha.wid]at zc ⊢
  have hs:=zc.trans (oH h2 zc.gi zc.nd)
  exact((ha.trans hb).trans (k:=2*bV c a+1) (v:=1) ⟨hs.pre,hs.gi,hs.len,rfl,ON hs.nd⟩).ext (by omega)
 |oq a b d ic ly O7=>
  intro gs h hd ht
  obtain⟨ta,tb,td,w1,hw⟩:=ht
  have ha:=ic h hd ta
  simp only[dN,cf,bV]
  generalize dN c cG m data gs a=r at *
  have hb:=ly ha.gi (hd.pre ha.pre) tb
  generalize dN c cG m data r.1 b=s at *
  have qT:=O7 hb.gi (hd.pre (ha.pre.trans hb.pre)) td
  generalize dN c cG m data s.1 d=t at *
  rw[hb.wid]
  exact(((ha.trans hb).trans qT).trans (kz (q:=2) qT.gi fun k hk fH hp hg=>C4 h2 hg (ha.at (hb.pre.trans (qT.pre.trans hp)) (by omega)) (hb.at (qT.pre.trans hp) hk) (qT.at hp (by omega)))).ext (by omega)
 |cat a b ic ly=>
  intro gs h hd ht
  obtain⟨ta,tb,hw⟩:=ht
  have ha:=ic h hd ta
  simp only[dN,cf,bV]
  generalize dN c cG m data gs a=r at *
  have hb:=ly ha.gi (hd.pre ha.pre) tb
  generalize dN c cG m data r.1 b=s at *
  have uN:=ha.trans hb
  refine⟨uN.pre,uN.gi,uN.len,by simp only[List.length_append,hb.wid,ha.wid];omega,fun k hk=>?_⟩
  by_cases hl:k<s.2.length
  ·rw[show(s.1,s.2++r.2).2=s.2++r.2 from rfl,xZ hl];exact hb.nd k (by rw[←hb.wid];exact hl)
  ·rw[show(s.1,s.2++r.2).2=s.2++r.2 from rfl,DG (by omega)];exact ha.at hb.pre (by rw[hb.wid]at hl ⊢;omega)
 |oJ k w a ic=>
  intro gs h hd ht
  obtain⟨ta,w1,hw⟩:=ht
  have ha:=ic h hd ta
  simp only[dN,cf,bV]
  generalize dN c cG m data gs a=r at *
  refine⟨ha.pre,ha.gi,ha.len,by simp only[List.length_take,List.length_drop,ha.wid];omega,fun j hj=>?_⟩
  rw[show(r.1,(r.2.drop k).take w).2=(r.2.drop k).take w from rfl,jx3 hj]
  exact ha.nd _ (by omega)
 |ext w a ic=>
  intro gs h hd ht
  obtain⟨ta,hw,w8⟩:=ht
  have ha:=ic h hd ta
  simp only[dN,cf,bV]
  generalize dN c cG m data gs a=r at *
  refine⟨ha.pre,ha.gi,ha.len,by simp only[List.length_append,List.length_replicate,ha.wid];omega,fun k hk=>?_⟩
  by_cases hl:k<r.2.length
  ·rw[show(r.1,r.2++List.replicate (w - r.2.length) (0:Int)).2=r.2++List.replicate (w - r.2.length) 0 from rfl,xZ hl];exact ha.nd k (by rw[←ha.wid];exact hl)
  ·rw[show(r.1,r.2++List.replicate (w - r.2.length) (0:Int)).2=r.2++List.replicate (w - r.2.length) 0 from rfl,DG (by omega),jx2 (by omega)];exact⟨by decide,by omega⟩
 |rd k a ic=>
  intro gs h hd ht
  obtain⟨ta,hk⟩:=ht
  have ha:=ic h hd ta
  simp only[dN,cf,bV]
  generalize dN c cG m data gs a=r at *
  have hm:=hc.m k hk
  have hl:=hc.l
  refine(ha.trans (kz (q:=1) (n:=(nth c.au k).2) ha.gi fun i hik fH hp hg=>?_)).ext (by omega)
  have n0:=C3 (m:=m) (gs:=fH) (l:=r.2) (words:=(nth c.au k).1) (j:=0) h2 (fun j hj=>ha.at hp (by rw[ha.wid]at hj;exact hj)) (by decide)
  have n1:=C3 (m:=m) (gs:=fH) (l:=r.2) (words:=(nth c.au k).1) (j:=1) h2 (fun j hj=>ha.at hp (by rw[ha.wid]at hj;exact hj)) (by decide)
  have n2:=C3 (m:=m) (gs:=fH) (l:=r.2) (words:=(nth c.au k).1) (j:=2) h2 (fun j hj=>ha.at hp (by rw[ha.wid]at hj;exact hj)) (by decide)
  exact yB hg ⟨by simp,by simp,n0.1,n0.2,n1.1,n1.2,n2.1,n2.2,by simp only;omega,by simp only;omega,fun e=>absurd rfl e,fun e=>absurd e (by simp),fun e=>absurd e (by simp)⟩
   ⟨fun e=>absurd e (by simp),fun _ e=>absurd e (by simp),fun e=>absurd e (by simp),fun e=>absurd e (by simp)⟩
end
section
structure mf where
 name:ByteArray
 w:Nat
 init:Int
 next:Ex
 rk:Int
 rf:ByteArray
 rn:Int
 deriving Inhabited
structure lJ where
 name:ByteArray
 w:Nat
 words:Nat
 en:Ex
 ad:Ex
 da:Ex
 rk:Int
 rf:ByteArray
 rn:Int
 deriving Inhabited
structure kg where
 chan:Int
 w:Nat
 wh:Ex
 deriving Inhabited
structure mg where
 chan:Int
 w:Nat
 wh:Ex
 da:Ex
 deriving Inhabited
structure Pr where
 name:ByteArray
 clock:ByteArray
 aC:List mf
 au:List lJ
 ag:List kg
 aE:List mg
 deriving Inhabited
def aR(p:Pr):Ct:=⟨p.aC.map (·.w),p.ag.map (·.w),p.au.map fun x=>(x.words,x.w)⟩
def cZ(kind i:Int)(w:Nat):List aT:=(List.range w).map fun(k:Nat)=>(⟨kind,i,(k:Int)⟩:aT)
theorem dD(kind i:Int)(w:Nat):(cZ kind i w).length=w:=by simp[cZ]
theorem vP(kind i:Int)(w:Nat):cZ kind i (w+1)=cZ kind i w++[⟨kind,i,(w:Int)⟩]:=by simp[cZ,List.range_succ]
def gW(p:Pr):Nat→List aT
 |0=>[]
 |k+1=>gW p k++cZ 1 k (nth p.aC k).w
def gM(p:Pr):Nat→List aT
 |0=>gW p p.aC.length
 |k+1=>gM p k++cZ 2 k (nth p.ag k).w++cZ 3 k 1
def iN(p:Pr):Nat→List aT
 |0=>gM p p.ag.length
 |k+1=>iN p k++cZ 4 k 1
def aU(p:Pr):List aT:=iN p p.aE.length
def mP(p:Pr):Nat:=2+(aU p).length
instance:DecidableEq aT:=fun⟨a1,a2,a3⟩ ⟨b1,b2,b3⟩=>
 if h:a1=b1∧a2=b2∧a3=b3 then isTrue (by obtain⟨h1,h2,h3⟩:=h;subst h1 h2 h3;rfl)
 else isFalse fun e=>h (by cases e;exact⟨rfl,rfl,rfl⟩)
def kL(g:aT):List aT→Nat
 |[]=>0
 |x::l=>if x=g then 0 else kL g l+1
theorem yE{g:aT}:∀{l:List aT},g∈l→kL g l<l.length∧nth l (kL g l)=g
 |[],h=>by cases h
 |x::l,h=>by
  rw[kL]
  by_cases e:x=g
  ·rw[if_pos e];exact⟨by simp,by simpa[nth]using e⟩
  ·rw[if_neg e]
   have hl:g∈l:=by
    rcases List.mem_cons.1 h with h|h
    ·exact absurd h.symm e
    ·exact h
   obtain⟨h1,h2⟩:=yE hl
   exact⟨by simpa using h1,by simpa[nth]using h2⟩
theorem jcr{g:aT}:∀{l m:List aT},g∈l→kL g (l++m)=kL g l
 |[],_,h=>by cases h
 |x::l,m,h=>by
  rw[List.cons_append,kL,kL]
  by_cases e:x=g
  ·rw[if_pos e,if_pos e]
  ·rw[if_neg e,if_neg e]
   have hl:g∈l:=by
    rcases List.mem_cons.1 h with h|h
    ·exact absurd h.symm e
    ·exact h
   rw[jcr hl]
theorem jhr{g:aT}{l:List aT}{k:Nat}(hk:k<l.length)(h:∀j,j<k→nth l j≠g)(e:nth l k=g):kL g l=k:=by
 induction l generalizing k with
 |nil=>simp at hk
 |cons y l ih=>
  rw[kL]
  cases k with
  |zero=>rw[if_pos (by simpa[nth]using e)]
  |succ k=>
   rw[if_neg (by have:=h 0 (by omega);simpa[nth]using this)]
   rw[ih (k:=k) (by simpa using hk) (fun j hj=>by have:=h (j+1) (by omega);simpa[nth]using this) (by simpa[nth]using e)]
def cG(p:Pr)(kind:Int)(i k:Nat):Int:=((2+kL ⟨kind,(i:Int),(k:Int)⟩ (aU p):Nat):Int)
structure Fi where
 gs:Gs
 ag:List Int
 data:List (List Int)
structure Fq where
 gs:Gs
 aE:List Int
def dW(p:Pr)(data:List (List Int))(gs:Gs)(e:Ex):Gs × List Int:=dN (aR p) (cG p) (mP p) data gs e
def eU(p:Pr):Nat→Fi
 |0=>⟨[],[],[]⟩
 |k+1=>
  let s:=eU p k
  let r:=dW p s.data s.gs (nth p.ag k).wh
  let t:=bL (fun gs i=>dj (mP p) gs (nth r.2 0) (cG p 2 k i)) r.1 (nth p.ag k).w
  ⟨t.1,s.ag++[nth r.2 0],s.data++[t.2]⟩
def jf(p:Pr):Nat→Fq
 |0=>⟨(eU p p.ag.length).gs,[]⟩
 |k+1=>
  let s:=jf p k
  let r:=dW p (eU p p.ag.length).data s.gs (nth p.aE k).wh
  ⟨r.1,s.aE++[nth r.2 0]⟩
def zP(m:Nat)(gs:Gs)(jZ due x:Int):Re:=let n:=dH m gs due;let o:=iM m n.1 n.2 x;dj m o.1 jZ o.2
def pR(p:Pr):Nat→Re
 |0=>((jf p p.aE.length).gs,1)
 |k+1=>let s:=pR p k;zP (mP p) s.1 s.2 (nth (eU p p.ag.length).ag k) (cG p 3 k 0)
def qx(p:Pr):Nat→Re
 |0=>pR p p.ag.length
 |k+1=>let s:=qx p k;zP (mP p) s.1 s.2 (nth (jf p p.aE.length).aE k) (cG p 4 k 0)
def iE(p:Pr):List Int:=(eU p p.ag.length).ag
def iC(p:Pr):List Int:=(jf p p.aE.length).aE
def bU(p:Pr):List (List Int):=(eU p p.ag.length).data
def ft(p:Pr):Int:=(qx p p.aE.length).2
structure Os where
 gs:Gs
 out:List aT
 dr:List Int
def fg(p:Pr):Nat→Os
 |0=>⟨(qx p p.aE.length).1,[],[]⟩
 |i+1=>
  let s:=fg p i
  let r:=dW p (bU p) s.gs (nth p.aC i).next
  let t:=bL (fun gs k=>hU (mP p) gs (ft p) (nth r.2 k) (cG p 1 i k)) r.1 r.2.length
  ⟨t.1,s.out++cZ 1 i r.2.length,s.dr++t.2⟩
def gT(p:Pr):Nat→Os
 |0=>fg p p.aC.length
 |i+1=>
  let s:=gT p i
  let a:=dj (mP p) s.gs (ft p) (nth (iE p) i)
  ⟨a.1,s.out++[⟨5,i,0⟩],s.dr++[a.2]⟩
def gN(p:Pr):Nat→Os
 |0=>gT p p.ag.length
 |i+1=>
  let s:=gN p i
  let a:=dj (mP p) s.gs (ft p) (nth (iC p) i)
  let r:=dW p (bU p) a.1 (nth p.aE i).da
  let t:=bL (fun gs k=>dj (mP p) gs a.2 (nth r.2 k)) r.1 r.2.length
  ⟨t.1,s.out++[⟨6,i,0⟩]++cZ 7 i r.2.length,s.dr++[a.2]++t.2⟩
def eu(p:Pr):Nat→Os
 |0=>gN p p.aE.length
 |i+1=>
  let s:=eu p i
  let e:=dW p (bU p) s.gs (nth p.au i).en
  let a:=dj (mP p) e.1 (ft p) (nth e.2 0)
  let d:=dW p (bU p) a.1 (nth p.au i).ad
  let w:=dW p (bU p) d.1 (nth p.au i).da
  ⟨w.1,s.out++[⟨8,i,0⟩]++cZ 9 i 3++cZ 10 i w.2.length,s.dr++[a.2]++jg d.2 (nth p.au i).words++w.2⟩
def kh(p:Pr):Net:=let o:=eu p p.au.length;⟨aU p,o.gs,o.out,o.dr⟩
def vx(p:Pr):Nat→Nat
 |0=>0
 |k+1=>vx p k+(cf (aR p) (nth p.ag k).wh+(nth p.ag k).w)
def uP(p:Pr):Nat→Nat
 |0=>vx p p.ag.length
 |k+1=>uP p k+cf (aR p) (nth p.aE k).wh
def oT(p:Pr):Nat→Nat
 |0=>uP p p.aE.length+3*p.ag.length+3*p.aE.length
 |k+1=>oT p k+(cf (aR p) (nth p.aC k).next+2*(nth p.aC k).w)
def tR(p:Pr):Nat→Nat
 |0=>oT p p.aC.length+p.ag.length
 |k+1=>tR p k+(1+cf (aR p) (nth p.aE k).da+(nth p.aE k).w)
def tS(p:Pr):Nat→Nat
 |0=>tR p p.aE.length
 |k+1=>tS p k+(cf (aR p) (nth p.au k).en+1+cf (aR p) (nth p.au k).ad+cf (aR p) (nth p.au k).da)
def oG(p:Pr):Nat:=tS p p.au.length
structure cB (p:Pr):Prop where
 ct:nE (aR p)
 tw:∀i,i<p.ag.length→WT (aR p) false (nth p.ag i).wh∧bV (aR p) (nth p.ag i).wh=1
 rn:∀i,i<p.aC.length→WT (aR p) true (nth p.aC i).next∧bV (aR p) (nth p.aC i).next=(nth p.aC i).w
 qw:∀i,i<p.aE.length→WT (aR p) true (nth p.aE i).wh∧bV (aR p) (nth p.aE i).wh=1
 qd:∀i,i<p.aE.length→WT (aR p) true (nth p.aE i).da∧bV (aR p) (nth p.aE i).da=(nth p.aE i).w
 qb:∀i,i<p.aE.length→1≤(nth p.aE i).w∧(nth p.aE i).w≤8
 me:∀i,i<p.au.length→WT (aR p) true (nth p.au i).en∧bV (aR p) (nth p.au i).en=1
 ma:∀i,i<p.au.length→WT (aR p) true (nth p.au i).ad
 md:∀i,i<p.au.length→WT (aR p) true (nth p.au i).da∧bV (aR p) (nth p.au i).da=(nth p.au i).w
 rl:p.aC.length≤100
 tl:p.ag.length≤100
 ql:p.aE.length≤100
 cl:oG p≤100000
theorem tE{α β:Type}[Inhabited α][Inhabited β]{f:α→β}{l:List α}{k:Nat}(h:k<l.length):nth (l.map f) k=f (nth l k):=by
 unfold nth;simp[fZ,h]
theorem IA{kind i:Int}{w k:Nat}(h:k<w):(⟨kind,i,(k:Int)⟩:aT)∈cZ kind i w:=mF.2 ⟨k,tv.2 h,rfl⟩
section
variable {p:Pr}
theorem YB:∀{n i k:Nat},i<n→k<(nth p.aC i).w→(⟨1,(i:Int),(k:Int)⟩:aT)∈gW p n
 |n+1,i,k,h,hk=>by
  rw[gW]
  by_cases e:i<n
  ·exact List.mem_append_left _ (YB e hk)
  ·have:i=n:=by omega
   subst this
   exact List.mem_append_right _ (IA hk)
theorem jp0{x:aT}(h:x∈gW p p.aC.length):∀n,x∈gM p n
 |0=>h
 |n+1=>by rw[gM];exact List.mem_append_left _ (List.mem_append_left _ (jp0 h n))
theorem jp1:∀{n i k:Nat},i<n→k<(nth p.ag i).w→(⟨2,(i:Int),(k:Int)⟩:aT)∈gM p n
 |n+1,i,k,h,hk=>by
  rw[gM]
  by_cases e:i<n
  ·exact List.mem_append_left _ (List.mem_append_left _ (jp1 e hk))
  ·have:i=n:=by omega
   subst this
   exact List.mem_append_left _ (List.mem_append_right _ (IA hk))
theorem jp2:∀{n i:Nat},i<n→(⟨3,(i:Int),0⟩:aT)∈gM p n
 |n+1,i,h=>by
  rw[gM]
  by_cases e:i<n
  ·exact List.mem_append_left _ (List.mem_append_left _ (jp2 e))
  ·have:i=n:=by omega
   subst this
   exact List.mem_append_right _ (IA (k:=0) (by decide))
theorem KN{x:aT}(h:x∈gM p p.ag.length):∀n,x∈iN p n
 |0=>h
 |n+1=>by rw[iN];exact List.mem_append_left _ (KN h n)
theorem jp3:∀{n i:Nat},i<n→(⟨4,(i:Int),0⟩:aT)∈iN p n
 |n+1,i,h=>by
  rw[iN]
  by_cases e:i<n
  ·exact List.mem_append_left _ (jp3 e)
  ·have:i=n:=by omega
   subst this
   exact List.mem_append_right _ (IA (k:=0) (by decide))
theorem y3{i k:Nat}(h:i<p.aC.length)(hk:k<(nth p.aC i).w):(⟨1,(i:Int),(k:Int)⟩:aT)∈aU p:=KN (jp0 (YB h hk) _) _
theorem KU{i k:Nat}(h:i<p.ag.length)(hk:k<(nth p.ag i).w):(⟨2,(i:Int),(k:Int)⟩:aT)∈aU p:=KN (jp1 h hk) _
theorem O6{i:Nat}(h:i<p.ag.length):(⟨3,(i:Int),((0:Nat):Int)⟩:aT)∈aU p:=KN (jp2 h) _
theorem O5{i:Nat}(h:i<p.aE.length):(⟨4,(i:Int),((0:Nat):Int)⟩:aT)∈aU p:=jp3 h
theorem tY{kind:Int}{i k:Nat}(h:(⟨kind,(i:Int),(k:Int)⟩:aT)∈aU p)(gs:Gs):bm (mP p) gs (cG p kind i k):=by
 have:=(yE h).1
 unfold bm cG mP
 constructor<;>omega
theorem JY(h:cB p):C1 (aR p) (cG p) (mP p):=⟨fun i k hi hk=>by
 have ya:i<p.aC.length:=by simpa[aR]using hi
 have e:nth (aR p).aC i=(nth p.aC i).w:=tE ya
 rw[e]at hk
 have:=tY (y3 ya hk) []
 exact⟨this.1,by have:=this.2;simpa using this⟩⟩
theorem nL:2≤mP p:=by unfold mP;omega
theorem JX{i:Nat}(h:i<p.ag.length):nth (aR p).ag i=(nth p.ag i).w:=tE h
structure Ik (p:Pr) (k:Nat) (s:Fi):Prop where
 gi:GI (mP p) s.gs
 len:s.gs.length≤vx p k
 tl:s.ag.length=k
 tn:∀i,i<k→bm (mP p) s.gs (nth s.ag i)
 dl:s.data.length=k
 dw:∀i,i<k→(nth s.data i).length=(nth p.ag i).w
 dn:∀i,i<k→∀j,j<(nth p.ag i).w→bm (mP p) s.gs (nth (nth s.data i) j)
theorem BQ{α:Type}[Inhabited α]{l:List α}{x:α}{i k:Nat}(hl:l.length=k)(hi:i<k+1):(i<k∧nth (l++[x]) i=nth l i)∨(i=k∧nth (l++[x]) i=x):=by
 by_cases h:i<k
 ·exact .inl ⟨h,xZ (by omega)⟩
 ·have:i=l.length:=by omega
  exact .inr ⟨by omega,by rw[this,Gd]⟩
structure TkS (p:Pr) (k:Nat) (s:Fi) (r:Gs × List Int):Prop where
 b:Bs (mP p) (cf (aR p) (nth p.ag k).wh) 1 s.gs r
 t:Bs (mP p) (1*(nth p.ag k).w) (nth p.ag k).w r.1 (bL (fun gs i=>dj (mP p) gs (nth r.2 0) (cG p 2 k i)) r.1 (nth p.ag k).w)
theorem OM(h:cB p){k:Nat}(hk:k<p.ag.length){s:Fi}(hs:Ik p k s):TkS p k s (dW p s.data s.gs (nth p.ag k).wh):=by
 have hw:=h.tw k hk
 have hb:=LA (q:=false) (data:=s.data) nL h.ct (JY h) (nth p.ag k).wh hs.gi (mo.mk (by intro e;cases e) (by intro e;cases e) (by intro e;cases e)) hw.1
 rw[hw.2]at hb
 exact⟨hb,kz hb.gi fun i hi fH hp hg=>rK nL hg (hb.at hp (by decide)) (tY (KU hk hi) _)⟩
theorem vb(h:cB p):∀k,k≤p.ag.length→Ik p k (eU p k)
 |0,_=>⟨GI.nil _,by simp[eU],rfl,fun i hi=>by omega,rfl,fun i hi=>by omega,fun i hi=>by omega⟩
 |k+1,hk=>by
  have ih:=vb h k (by omega)
  obtain⟨hb,ht⟩:=OM h (show k<p.ag.length by omega) ih
  simp only[eU]
  generalize eU p k=s at *
  generalize dW p s.data s.gs (nth p.ag k).wh=r at *
  generalize bL (fun gs i=>dj (mP p) gs (nth r.2 0) (cG p 2 k i)) r.1 (nth p.ag k).w=t at *
  have hpt:=hb.pre.trans ht.pre
  refine⟨ht.gi,?_,by simp[ih.tl],fun i hi=>?_,by simp[ih.dl],fun i hi=>?_,fun i hi j hj=>?_⟩
  ·have h1:=ih.len;have h2:=hb.len;have h3:=ht.len
   rw[vx];simp only;omega
  ·rcases BQ (x:=nth r.2 0) ih.tl hi with⟨hl,e⟩|⟨hl,e⟩
   ·simp only;rw[e];exact(ih.tn i hl).pre hpt
   ·simp only;rw[e];exact hb.at ht.pre (by decide)
  ·rcases BQ (x:=t.2) ih.dl hi with⟨hl,e⟩|⟨hl,e⟩
   ·simp only;rw[e];exact ih.dw i hl
   ·simp only;rw[e,hl];exact ht.wid
  ·rcases BQ (x:=t.2) ih.dl hi with⟨hl,e⟩|⟨hl,e⟩
   ·simp only;rw[e];exact(ih.dn i hl j hj).pre hpt
   ·simp only;rw[e];subst hl;exact ht.nd j hj
theorem yw(h:cB p){gs:Gs}(hp:(eU p p.ag.length).gs<+:gs):mo (aR p) true (mP p) gs (bU p):=by
 have ht:=vb h _ (bJ _)
 refine⟨fun _=>by show(eU p p.ag.length).data.length=_;rw[ht.dl];simp[aR],fun _ i hi=>?_,fun _ i hi k hk=>?_⟩
 ·have ya:i<p.ag.length:=by simpa[aR]using hi
  rw[JX ya];exact ht.dw i ya
 ·have ya:i<p.ag.length:=by simpa[aR]using hi
  rw[JX ya]at hk
  exact(ht.dn i ya k hk).pre hp
theorem jp4(h:cB p){gs:Gs}(hg:GI (mP p) gs)(hp:(eU p p.ag.length).gs<+:gs){e:Ex}(ht:WT (aR p) true e):Bs (mP p) (cf (aR p) e) (bV (aR p) e) gs (dW p (bU p) gs e):=
 LA nL h.ct (JY h) e hg (yw h hp) ht
structure Il (p:Pr) (k:Nat) (s:Fq):Prop where
 pre:(eU p p.ag.length).gs<+:s.gs
 gi:GI (mP p) s.gs
 len:s.gs.length≤uP p k
 ql:s.aE.length=k
 qn:∀i,i<k→bm (mP p) s.gs (nth s.aE i)
theorem Oh(h:cB p){k:Nat}(hk:k<p.aE.length){s:Fq}(hs:Il p k s):Bs (mP p) (cf (aR p) (nth p.aE k).wh) 1 s.gs (dW p (bU p) s.gs (nth p.aE k).wh):=by
 have:=jp4 h hs.gi hs.pre (h.qw k hk).1
 rwa[(h.qw k hk).2]at this
theorem tX(h:cB p):∀k,k≤p.aE.length→Il p k (jf p k)
 |0,_=>by
  have ht:=vb h _ (bJ _)
  exact⟨List.prefix_refl _,ht.gi,ht.len,rfl,fun i hi=>by omega⟩
 |k+1,hk=>by
  have ih:=tX h k (by omega)
  have hb:=Oh h (show k<p.aE.length by omega) ih
  unfold bU at hb
  simp only[jf]
  generalize jf p k=s at *
  generalize dW p (eU p p.ag.length).data s.gs (nth p.aE k).wh=r at *
  refine⟨ih.pre.trans hb.pre,hb.gi,?_,by simp[ih.ql],fun i hi=>?_⟩
  ·have h1:=ih.len;have h2:=hb.len
   rw[uP];simp only;omega
  ·rcases BQ (x:=nth r.2 0) ih.ql hi with⟨hl,e⟩|⟨hl,e⟩
   ·simp only;rw[e];exact(ih.qn i hl).pre hb.pre
   ·simp only;rw[e];exact hb.nd 0 (by decide)
theorem Lz{m:Nat}{gs:Gs}{f d x:Int}(h2:2≤m)(h:GI m gs)(hf:bm m gs f)(hd:bm m gs d)(hx:bm m gs x):Rs m 3 gs (zP m gs f d x):=by
 have hn:=oH h2 h hd
 have ho:=yp h2 hn.gi hn.nd (hx.pre hn.pre)
 have ha:=rK h2 ho.gi (hf.pre (hn.pre.trans ho.pre)) ho.nd
 exact((hn.trans ho).trans ha).mono (by omega)
theorem IG(h:cB p):∀k,k≤p.ag.length→Rs (mP p) (3*k) (jf p p.aE.length).gs (pR p k)
 |0,_=>Rs.same (tX h _ (bJ _)).gi ⟨by decide,by have:=@nL p;omega⟩
 |k+1,hk=>by
  have ih:=IG h k (by omega)
  have hq:=tX h _ (bJ _)
  have ht:=vb h _ (bJ _)
  exact(ih.trans (Lz nL ih.gi ih.nd ((ht.tn k (by omega)).pre (hq.pre.trans ih.pre)) (tY (O6 (by omega)) _))).mono (by omega)
theorem BP(h:cB p):∀k,k≤p.aE.length→Rs (mP p) (3*p.ag.length+3*k) (jf p p.aE.length).gs (qx p k)
 |0,_=>IG h _ (bJ _)
 |k+1,hk=>by
  have ih:=BP h k (by omega)
  have hq:=tX h _ (bJ _)
  exact(ih.trans (Lz nL ih.gi ih.nd ((hq.qn k (by omega)).pre ih.pre) (tY (O5 (by omega)) _))).mono (by omega)
structure fP (p:Pr) (n:Nat) (s:Os):Prop where
 pre:(qx p p.aE.length).1<+:s.gs
 gi:GI (mP p) s.gs
 len:s.gs.length≤n
 ol:s.out.length=s.dr.length
 dn:∀i,i<s.dr.length→bm (mP p) s.gs (nth s.dr i)
section
variable {n:Nat} {s:Os}
theorem fP.tp(h:cB p)(hs:fP p n s):(eU p p.ag.length).gs<+:s.gs:=(tX h _ (bJ _)).pre.trans ((BP h _ (bJ _)).pre.trans hs.pre)
theorem fP.bits(h:cB p)(hs:fP p n s){gs:Gs}(hp:s.gs<+:gs)(hg:GI (mP p) gs){e:Ex}(ht:WT (aR p) true e):Bs (mP p) (cf (aR p) e) (bV (aR p) e) gs (dW p (bU p) gs e):=jp4 h hg ((hs.tp h).trans hp) ht
theorem fP.jZ(h:cB p)(hs:fP p n s){gs:Gs}(hp:s.gs<+:gs):bm (mP p) gs (ft p):=(BP h _ (bJ _)).nd.pre (hs.pre.trans hp)
theorem fP.CS(h:cB p)(hs:fP p n s){gs:Gs}(hp:s.gs<+:gs){i:Nat}(hi:i<p.ag.length):bm (mP p) gs (nth (iE p) i):=((vb h _ (bJ _)).tn i hi).pre ((hs.tp h).trans hp)
theorem fP.CT(h:cB p)(hs:fP p n s){gs:Gs}(hp:s.gs<+:gs){i:Nat}(hi:i<p.aE.length):bm (mP p) gs (nth (iC p) i):=((tX h _ (bJ _)).qn i hi).pre ((BP h _ (bJ _)).pre.trans (hs.pre.trans hp))
theorem fP.app(hs:fP p n s){k:Nat}{gs:Gs}{o:List aT}{d:List Int}(hp:s.gs<+:gs)(hg:GI (mP p) gs)(hl:gs.length≤k)(ho:o.length=d.length)(hd:∀i,i<d.length→bm (mP p) gs (nth d i)):fP p k ⟨gs,s.out++o,s.dr++d⟩:=by
 refine⟨hs.pre.trans hp,hg,hl,by simp[hs.ol,ho],fun i hi=>?_⟩
 simp only at hi ⊢
 by_cases h:i<s.dr.length
 ·rw[xZ h];exact(hs.dn i h).pre hp
 ·rw[DG (by omega)];exact hd _ (by simp at hi;omega)
end
structure RgS (p:Pr) (i:Nat) (s:Os) (r:Gs × List Int):Prop where
 b:Bs (mP p) (cf (aR p) (nth p.aC i).next) (nth p.aC i).w s.gs r
 t:Bs (mP p) (2*(nth p.aC i).w) (nth p.aC i).w r.1 (bL (fun gs k=>hU (mP p) gs (ft p) (nth r.2 k) (cG p 1 i k)) r.1 (nth p.aC i).w)
theorem zY(h:cB p){i n:Nat}{s:Os}(hi:i<p.aC.length)(hs:fP p n s):RgS p i s (dW p (bU p) s.gs (nth p.aC i).next):=by
 have hb:=hs.bits h (List.prefix_refl _) hs.gi (h.rn i hi).1
 rw[(h.rn i hi).2]at hb
 exact⟨hb,kz hb.gi fun k hk fH hp hg=>C4 nL hg (hs.jZ h (hb.pre.trans hp)) (hb.at hp hk) (tY (y3 hi hk) _)⟩
theorem yA(h:cB p):∀i,i≤p.aC.length→fP p (oT p i) (fg p i)
 |0,_=>by
  have hf:=BP h _ (bJ _)
  have hq:=tX h _ (bJ _)
  exact⟨List.prefix_refl _,hf.gi,by have:=hf.len;have:=hq.len;simp only[fg,oT];omega,rfl,fun i hi=>by simp[fg]at hi⟩
 |i+1,hi=>by
  have ih:=yA h i (by omega)
  obtain⟨hb,ht⟩:=zY h (show i<p.aC.length by omega) ih
  simp only[fg]
  generalize fg p i=s at *
  generalize dW p (bU p) s.gs (nth p.aC i).next=r at *
  rw[hb.wid]
  refine ih.app (hb.pre.trans ht.pre) ht.gi ?_ (by rw[dD,ht.wid]) fun k hk=>ht.nd k (by rw[ht.wid]at hk;exact hk)
  have h1:=ih.len;have h2:=hb.len;have h3:=ht.len
  rw[oT];omega
theorem Iz(h:cB p):∀i,i≤p.ag.length→fP p (oT p p.aC.length+i) (gT p i)
 |0,_=>yA h _ (bJ _)
 |i+1,hi=>by
  have ih:=Iz h i (by omega)
  have ha:=rK nL ih.gi (ih.jZ h (List.prefix_refl _)) (ih.CS h (List.prefix_refl _) (show i<p.ag.length by omega))
  simp only[gT]
  exact ih.app ha.pre ha.gi (by have:=ha.len;have:=ih.len;omega) rfl (ON ha.nd)
structure PuS (p:Pr) (i:Nat) (s:Os) (a:Re) (r:Gs × List Int):Prop where
 ha:Rs (mP p) 1 s.gs a
 hb:Bs (mP p) (cf (aR p) (nth p.aE i).da) (nth p.aE i).w a.1 r
 ht:Bs (mP p) (1*(nth p.aE i).w) (nth p.aE i).w r.1 (bL (fun gs k=>dj (mP p) gs a.2 (nth r.2 k)) r.1 (nth p.aE i).w)
theorem By(h:cB p){i n:Nat}{s:Os}(hi:i<p.aE.length)(hs:fP p n s):PuS p i s (dj (mP p) s.gs (ft p) (nth (iC p) i)) (dW p (bU p) (dj (mP p) s.gs (ft p) (nth (iC p) i)).1 (nth p.aE i).da):=by
 have ha:=rK nL hs.gi (hs.jZ h (List.prefix_refl _)) (hs.CT h (List.prefix_refl _) hi)
 have hb:=hs.bits h ha.pre ha.gi (h.qd i hi).1
 rw[(h.qd i hi).2]at hb
 exact⟨ha,hb,kz hb.gi fun k hk fH hp hg=>rK nL hg (ha.nd.pre (hb.pre.trans hp)) (hb.at hp hk)⟩
theorem Ad(h:cB p):∀i,i≤p.aE.length→fP p (tR p i) (gN p i)
 |0,_=>Iz h _ (bJ _)
 |i+1,hi=>by
  have ih:=Ad h i (by omega)
  obtain⟨ha,hb,ht⟩:=By h (show i<p.aE.length by omega) ih
  simp only[gN]
  generalize gN p i=s at *
  generalize dj (mP p) s.gs (ft p) (nth (iC p) i)=a at *
  generalize dW p (bU p) a.1 (nth p.aE i).da=r at *
  rw[hb.wid,List.append_assoc,List.append_assoc]
  refine ih.app (ha.pre.trans (hb.pre.trans ht.pre)) ht.gi ?_ (by simp[dD,ht.wid]) fun k hk=>?_
  ·have h1:=ih.len;have h2:=hb.len;have h3:=ht.len;have h4:=ha.len
   rw[tR];omega
  ·simp only[List.length_append,List.length_cons,List.length_nil,ht.wid]at hk
   by_cases e:k=0
   ·subst e;exact ha.nd.pre (hb.pre.trans ht.pre)
   ·rw[DG (by simp only[List.length_cons,List.length_nil];omega)];exact ht.nd _ (by simp only[List.length_cons,List.length_nil];omega)
structure MeS (p:Pr) (i:Nat) (s:Os) (e:Gs × List Int) (a:Re) (d w:Gs × List Int):Prop where
 he:Bs (mP p) (cf (aR p) (nth p.au i).en) 1 s.gs e
 ha:Rs (mP p) 1 e.1 a
 hd:Bs (mP p) (cf (aR p) (nth p.au i).ad) (bV (aR p) (nth p.au i).ad) a.1 d
 hw:Bs (mP p) (cf (aR p) (nth p.au i).da) (nth p.au i).w d.1 w
theorem Bx(h:cB p){i n:Nat}{s:Os}(hi:i<p.au.length)(hs:fP p n s){e:Gs × List Int}{a:Re}{d w:Gs × List Int}(he:e=dW p (bU p) s.gs (nth p.au i).en)(ha:a=dj (mP p) e.1 (ft p) (nth e.2 0))(hd:d=dW p (bU p) a.1 (nth p.au i).ad)(hw:w=dW p (bU p) d.1 (nth p.au i).da):MeS p i s e a d w:=by
 have h1:=hs.bits h (List.prefix_refl _) hs.gi (h.me i hi).1
 rw[(h.me i hi).2,←he]at h1
 have h2:=rK nL h1.gi (hs.jZ h h1.pre) (h1.nd 0 (by decide))
 rw[←ha]at h2
 have h3:=hs.bits h (h1.pre.trans h2.pre) h2.gi (h.ma i hi)
 rw[←hd]at h3
 have h4:=hs.bits h (h1.pre.trans (h2.pre.trans h3.pre)) h3.gi (h.md i hi).1
 rw[(h.md i hi).2,←hw]at h4
 exact⟨h1,h2,h3,h4⟩
theorem va(l:List Int)(n:Nat):(jg l n).length=3:=by simp[jg]
theorem ub(h:cB p):∀i,i≤p.au.length→fP p (tS p i) (eu p i)
 |0,_=>Ad h _ (bJ _)
 |i+1,hi=>by
  have ih:=ub h i (by omega)
  simp only[eu]
  generalize eu p i=s at *
  generalize he:dW p (bU p) s.gs (nth p.au i).en=e
  generalize ha:dj (mP p) e.1 (ft p) (nth e.2 0)=a
  generalize hd:dW p (bU p) a.1 (nth p.au i).ad=d
  generalize hw:dW p (bU p) d.1 (nth p.au i).da=w
  obtain⟨h1,h2,h3,h4⟩:=Bx h (show i<p.au.length by omega) ih he.symm ha.symm hd.symm hw.symm
  rw[h4.wid,List.append_assoc,List.append_assoc,List.append_assoc,List.append_assoc]
  refine ih.app (h1.pre.trans (h2.pre.trans (h3.pre.trans h4.pre))) h4.gi ?_ (by simp[dD,h4.wid,va]) fun k hk=>?_
  ·have l1:=ih.len;have l2:=h1.len;have l3:=h2.len;have l4:=h3.len;have l5:=h4.len
   rw[tS];omega
  ·simp only[List.length_append,List.length_cons,List.length_nil,h4.wid,va]at hk
   by_cases e0:k=0
   ·subst e0;exact h2.nd.pre (h3.pre.trans h4.pre)
   ·rw[DG (by simp only[List.length_cons,List.length_nil];omega)]
    simp only[List.length_cons,List.length_nil]
    by_cases e1:k - (0+1)<3
    ·rw[xZ (by rw[va];exact e1)]
     exact(C3 nL (fun j hj=>h3.nd j (by rw[h3.wid]at hj;exact hj)) e1).pre h4.pre
    ·rw[DG (by rw[va];omega),va]
     exact h4.nd _ (by omega)
end
theorem E3{f:Nat→Nat}(h:∀k,f k≤f (k+1)){a b:Nat}(uN:a≤b):f a≤f b:=by
 induction b with
 |zero=>
   have:a=0:=by omega
   subst this;exact bJ _
 |succ b ih=>
  by_cases e:a=b+1
  ·subst e;exact bJ _
  ·exact Nat.le_trans (ih (by omega)) (h b)
section
variable {p:Pr}
theorem EU{k:Nat}(hk:k≤p.au.length):tS p k≤oG p:=E3 (fun k=>by rw[tS];omega) hk
theorem ET{k:Nat}(hk:k≤p.aE.length):tR p k≤oG p:=Nat.le_trans (E3 (fun k=>by rw[tR];omega) hk) (EU (k:=0) (by omega))
theorem ES{k:Nat}(hk:k≤p.aC.length):oT p k≤oG p:=Nat.le_trans (E3 (fun k=>by rw[oT];omega) hk) (Nat.le_trans (by rw[tR];omega) (ET (k:=0) (by omega)))
theorem ER{k:Nat}(hk:k≤p.aE.length):uP p k≤oG p:=Nat.le_trans (E3 (fun k=>by rw[uP];omega) hk) (Nat.le_trans (by rw[oT];omega) (ES (k:=0) (by omega)))
theorem Z9{k:Nat}(hk:k≤p.ag.length):vx p k≤oG p:=Nat.le_trans (E3 (fun k=>by rw[vx];omega) hk) (Nat.le_trans (by rw[uP];omega) (ER (k:=0) (by omega)))
end
end
theorem yev{n:Int}(h:kJ n):(Lit.int .i64 n).wf=true:=by
 obtain⟨h1,h2⟩:=h
 simp[Lit.wf];exact⟨h1,by omega⟩
theorem Ac{P:Program}{e:TypeId}(hu:P.underlying e=some (.int .i64)){n:Int}(hn:kJ n)(d:Nat):P.keyLits (d+1) e [.int .i64 n]=some [.int .i64 n]:=by
 simp[Program.keyLits,hu,yev hn]
theorem jcu{n:Nat}(h:Nat.ble 1 n=true):∃d,n=d+1:=⟨n - 1,by have:=cn h;omega⟩
theorem n9{n:Int}(h0: -1000000000000≤n)(h1:n≤1000000000000):kJ n:=⟨by omega,by omega⟩
def wV(w:aT):Value:=.agg #[.int .i64 w.kind,.int .i64 w.i,.int .i64 w.bit]
def gV(g:Gate):Value:=.agg #[.int .i64 g.op,.int .i64 g.a,.int .i64 g.b,.int .i64 g.c,.int .i64 g.n]
theorem jx5{a b:aT}(h:wV a=wV b):a=b:=by
 unfold wV at h
 injection h with h
 have h':=congrArg Array.toList h
 cases a;cases b
 simpa using h'
theorem jx6{a b:Gate}(h:gV a=gV b):a=b:=by
 unfold gV at h
 injection h with h
 have h':=congrArg Array.toList h
 cases a;cases b
 simpa using h'
theorem EP{a b c:Int}(ha:kJ a)(hb:kJ b)(hc:kJ c):pL prog 189 (.agg #[.int .i64 a,.int .i64 b,.int .i64 c]):=by
 refine⟨rfl,fun kt et hm=>?_⟩
 have h0:j5 prog 189=some (121,3):=by kernel_rfl
 rw[h0]at hm;cases hm
 obtain⟨nn,sG⟩:∃nn,prog.types.size=nn+1:=jcu (by kernel_rfl)
 have h1:prog.keyType 121=true:=by kernel_rfl
 have h2:prog.cellsOf 121=3:=by kernel_rfl
 have h3:prog.cellsOf 3=1:=by kernel_rfl
 unfold keyOf
 rw[underlying121]
 have h4:Value.formed prog 121 (.agg #[.int .i64 a,.int .i64 b,.int .i64 c])=true:=by
  unfold Value.formed
  simp only[underlying121,h2];rfl
 simp only[h1,h4,Bool.and_self,if_true,sG]
 unfold Program.keyLits
 simp only[underlying121,h2,h3,Value.cells,List.mapM_cons,List.mapM_nil,List.drop_zero,List.drop_succ_cons,List.take_succ_cons,List.take_zero,Ac underlying3 ha,Ac underlying3 hb,Ac underlying3 hc]
 rw[if_pos ⟨rfl,by first|rfl|decide|simp⟩];rfl
theorem jx7{a b c d e:Int}(ha:kJ a)(hb:kJ b)(hc:kJ c)(hd:kJ d)(he:kJ e):pL prog 188 (.agg #[.int .i64 a,.int .i64 b,.int .i64 c,.int .i64 d,.int .i64 e]):=by
 refine⟨rfl,fun kt et hm=>?_⟩
 have h0:j5 prog 188=some (123,3):=by kernel_rfl
 rw[h0]at hm;cases hm
 obtain⟨nn,sG⟩:∃nn,prog.types.size=nn+1:=jcu (by kernel_rfl)
 have h1:prog.keyType 123=true:=by kernel_rfl
 have h2:prog.cellsOf 123=5:=by kernel_rfl
 have h3:prog.cellsOf 3=1:=by kernel_rfl
 unfold keyOf
 rw[underlying123]
 have h4:Value.formed prog 123 (.agg #[.int .i64 a,.int .i64 b,.int .i64 c,.int .i64 d,.int .i64 e])=true:=by
  unfold Value.formed
  simp only[underlying123,h2];rfl
 simp only[h1,h4,Bool.and_self,if_true,sG]
 unfold Program.keyLits
 simp only[underlying123,h2,h3,Value.cells,List.mapM_cons,List.mapM_nil,List.drop_zero,List.drop_succ_cons,List.take_succ_cons,List.take_zero,Ac underlying3 ha,Ac underlying3 hb,Ac underlying3 hc,Ac underlying3 hd,Ac underlying3 he]
 rw[if_pos ⟨rfl,by first|rfl|decide|simp⟩];rfl
end Go.Proofs.YtapjobndmmkanaaGreat
