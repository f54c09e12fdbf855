/- The builder of netlists, as functions; what it keeps. -/
import Derived.Test.YtapjobndmmkanaaGreatDb
import Derived.Test.YtapjobndmmkanaaGreatTy
import Derived.Test.YtapjobndmmkanaaGreatAZ
set_option linter.unusedVariables false
set_option linter.unusedSimpArgs false
namespace Go.Proofs.YtapjobndmmkanaaGreat
open Go.Proofs.Tryz
open Go Go.RowKit
section
instance:DecidableEq Gate:=fun⟨a1,a2,a3,a4,a5⟩ ⟨b1,b2,b3,b4,b5⟩=>
 if h:a1=b1∧a2=b2∧a3=b3∧a4=b4∧a5=b5 then isTrue (by obtain⟨h1,h2,h3,h4,h5⟩:=h;subst h1 h2 h3 h4 h5;rfl)
 else isFalse fun e=>h (by cases e;exact⟨rfl,rfl,rfl,rfl,rfl⟩)
abbrev Gs:=List Gate
def zy9(g:Gate):Gs→Nat
 |[]=>0
 |x::l=>if x=g then 0 else zy9 g l+1
theorem zu1{g:Gate}:∀{l:Gs},g∈l→zy9 g l<l.length∧nth l (zy9 g l)=g
 |[],h=>by cases h
 |x::l,h=>by
  rw[zy9]
  by_cases e:x=g
  ·rw[if_pos e];exact⟨by simp,by simpa[nth]using e⟩
  ·rw[if_neg e]
   have hl:g∈l:=by
    rcases List.mem_cons.1 h with h|h
    ·exact absurd h.symm e
    ·exact h
   obtain⟨h1,h2⟩:=zu1 hl
   exact⟨by simpa using h1,by simpa[nth]using h2⟩
theorem jdw{g:Gate}:∀{l m:Gs},g∈l→zy9 g (l++m)=zy9 g l
 |[],_,h=>by cases h
 |x::l,m,h=>by
  rw[List.cons_append,zy9,zy9]
  by_cases e:x=g
  ·rw[if_pos e,if_pos e]
  ·rw[if_neg e,if_neg e]
   have hl:g∈l:=by
    rcases List.mem_cons.1 h with h|h
    ·exact absurd h.symm e
    ·exact h
   rw[jdw hl]
theorem jdx{g:Gate}:∀{l:Gs},¬g∈l→zy9 g (l++[g])=l.length
 |[],_=>by simp[zy9]
 |x::l,h=>by
  rw[List.cons_append,zy9,if_neg (fun e=>h (by simp[e])),jdx (fun h'=>h (qbb _ h'))];rfl
abbrev Re:=Gs × Int
def zc8(m:Nat)(gs:Gs)(g:Gate):Re:=if g∈gs then(gs,((m+zy9 g gs:Nat):Int))else(gs++[g],((m+gs.length:Nat):Int))
def zig(m:Nat)(gs:Gs)(x:Int):Int:=if(m:Int)≤x∧(nth gs (x - m).toNat).op=1 then(nth gs (x - m).toNat).a else -1
def zod(m:Nat)(gs:Gs)(x y:Int):Bool:=decide (zig m gs x=y)||decide (zig m gs y=x)
def zdx(m:Nat)(gs:Gs)(x:Int):Re:=if x<2 then(gs,1 - x)else if 0≤zig m gs x then(gs,zig m gs x)else zc8 m gs ⟨1,x,0,0,0⟩
def jue(m:Nat)(gs:Gs)(x y:Int):Re:=if x=0∨zod m gs x y=true then(gs,0)else if x=1∨x=y then(gs,y)else zc8 m gs ⟨2,x,y,0,0⟩
def zdn(m:Nat)(gs:Gs)(x y:Int):Re:=jue m gs (min x y) (max x y)
def orS(m:Nat)(gs:Gs)(x y:Int):Re:=if x=1∨zod m gs x y=true then(gs,1)else if x=0∨x=y then(gs,y)else zc8 m gs ⟨3,x,y,0,0⟩
def orB(m:Nat)(gs:Gs)(x y:Int):Re:=orS m gs (min x y) (max x y)
def juf(m:Nat)(gs:Gs)(x y:Int):Re:=if x=0 then(gs,y)else if x=1 then zdx m gs y else if x=y then(gs,0)else if zod m gs x y=true then(gs,1)else zc8 m gs ⟨4,x,y,0,0⟩
def zh0(m:Nat)(gs:Gs)(x y:Int):Re:=juf m gs (min x y) (max x y)
def zlf(m:Nat)(gs:Gs)(x y z:Int):Re:=
 if x=0 then(gs,z)else if x=1∨y=z then(gs,y)else if y=1 then orB m gs x z else if z=0 then zdn m gs x y
 else if y=0 then(let n:=zdx m gs x;zdn m n.1 n.2 z)else if z=1 then(let n:=zdx m gs x;orB m n.1 n.2 y)else zc8 m gs ⟨5,x,y,z,0⟩
def jug(m:Nat)(gs:Gs)(x y z:Int):Re:=if x=0 then zdn m gs y z else if x=1 then orB m gs y z else if x=y∨y=z then(gs,y)else zc8 m gs ⟨6,x,y,z,0⟩
def lo3(x y z:Int):Int:=min (min x y) z
def hi3(x y z:Int):Int:=max (max x y) z
def jdy(m:Nat)(gs:Gs)(x y z:Int):Re:=jug m gs (lo3 x y z) (x+y+z - lo3 x y z - hi3 x y z) (hi3 x y z)
def zbu(st:Gs→Nat→Re)(gs:Gs):Nat→Gs × List Int
 |0=>(gs,[])
 |k+1=>let s:=zbu st gs k;let r:=st s.1 k;(r.1,s.2++[r.2])
theorem zu2{st:Gs→Nat→Re}{gs:Gs}:∀k,(zbu st gs k).2.length=k
 |0=>rfl
 |k+1=>by simp[zbu,zu2 k]
def opB(o:Int)(m:Nat)(gs:Gs)(x y:Int):Re:=if o=3 then zdn m gs x y else if o=4 then orB m gs x y else zh0 m gs x y
structure Sm where
 gs:Gs
 c:Int
 l:List Int
def zhm(m:Nat)(gs:Gs)(x y:List Int)(c:Int):Nat→Sm
 |0=>⟨gs,c,[]⟩
 |k+1=>
  let s:=zhm m gs x y c k
  let a:=zh0 m s.gs (nth x k) (nth y k)
  let b:=zh0 m a.1 a.2 s.c
  if k+1<x.length then(let d:=jdy m b.1 (nth x k) (nth y k) s.c;⟨d.1,d.2,s.l++[b.2]⟩)else⟨b.1,s.c,s.l++[b.2]⟩
def zsk(m:Nat)(gs:Gs)(x y:List Int):Nat→Re
 |0=>(gs,1)
 |k+1=>let s:=zsk m gs x y k;let a:=zh0 m s.1 (nth x k) (nth y k);let n:=zdx m a.1 a.2;zdn m n.1 s.2 n.2
def ltB(m:Nat)(gs:Gs)(x y:List Int):Nat→Re
 |0=>(gs,1)
 |k+1=>let s:=ltB m gs x y k;let n:=zdx m s.1 (nth y k);jdy m n.1 (nth x k) n.2 s.2
inductive Ex where
 |con (v w:Nat)
 |reg (i:Nat)
 |dat (i:Nat)
 |not (a:Ex)
 |two (o:Int) (a b:Ex)
 |add (a b:Ex)
 |sub (a b:Ex)
 |eq (a b:Ex)
 |lt (a b:Ex)
 |mux (a b c:Ex)
 |cat (a b:Ex)
 |slc (k w:Nat) (a:Ex)
 |ext (w:Nat) (a:Ex)
 |rd (k:Nat) (a:Ex)
 deriving Inhabited
structure Ct where
 regs:List Nat
 takes:List Nat
 mems:List (Nat × Nat)
def zhu(l:List Int)(words:Nat):List Int:=(List.range 3).map fun k=>if k<l.length∧2^k<words then nth l k else 0
def zbh(c:Ct)(inp:Int→Nat→Nat→Int)(m:Nat)(data:List (List Int)):Gs→Ex→Gs × List Int
 |gs,.con v w=>(gs,(List.range w).map fun i=>((v / 2^i % 2:Nat):Int))
 |gs,.reg i=>(gs,(List.range (nth c.regs i)).map fun k=>inp 1 i k)
 |gs,.dat i=>(gs,nth data i)
 |gs,.not a=>let r:=zbh c inp m data gs a;zbu (fun gs i=>zdx m gs (nth r.2 i)) r.1 r.2.length
 |gs,.two o a b=>let r:=zbh c inp m data gs a;let s:=zbh c inp m data r.1 b;zbu (fun gs i=>opB o m gs (nth r.2 i) (nth s.2 i)) s.1 r.2.length
 |gs,.add a b=>let r:=zbh c inp m data gs a;let s:=zbh c inp m data r.1 b;let t:=zhm m s.1 r.2 s.2 0 r.2.length;(t.gs,t.l)
 |gs,.sub a b=>let r:=zbh c inp m data gs a;let s:=zbh c inp m data r.1 b;let n:=zbu (fun gs i=>zdx m gs (nth s.2 i)) s.1 s.2.length;let t:=zhm m n.1 r.2 n.2 1 r.2.length;(t.gs,t.l)
 |gs,.eq a b=>let r:=zbh c inp m data gs a;let s:=zbh c inp m data r.1 b;let t:=zsk m s.1 r.2 s.2 r.2.length;(t.1,[t.2])
 |gs,.lt a b=>let r:=zbh c inp m data gs a;let s:=zbh c inp m data r.1 b;let t:=ltB m s.1 r.2 s.2 r.2.length;let n:=zdx m t.1 t.2;(n.1,[n.2])
 |gs,.mux a b d=>let r:=zbh c inp m data gs a;let s:=zbh c inp m data r.1 b;let t:=zbh c inp m data s.1 d;zbu (fun gs i=>zlf m gs (nth r.2 0) (nth s.2 i) (nth t.2 i)) t.1 s.2.length
 |gs,.cat a b=>let r:=zbh c inp m data gs a;let s:=zbh c inp m data r.1 b;(s.1,s.2++r.2)
 |gs,.slc k w a=>let r:=zbh c inp m data gs a;(r.1,(r.2.drop k).take w)
 |gs,.ext w a=>let r:=zbh c inp m data gs a;(r.1,r.2++List.replicate (w - r.2.length) 0)
 |gs,.rd k a=>let r:=zbh c inp m data gs a;let d:=zhu r.2 (nth c.mems k).1;zbu (fun gs i=>zc8 m gs ⟨7,nth d 0,nth d 1,nth d 2,((8*k+i:Nat):Int)⟩) r.1 (nth c.mems k).2
def NdB(m:Nat)(gs:Gs)(x:Int):Prop:=0≤x∧x<(m:Int)+gs.length
structure RgG (lim:Int) (g:Gate):Prop where
 o1:1≤g.op
 o2:g.op≤7
 a0:0≤g.a
 a1:g.a<lim
 b0:0≤g.b
 b1:g.b<lim
 c0:0≤g.c
 c1:g.c<lim
 n0:0≤g.n
 n1:g.n<64
 nz:g.op≠7→g.n=0
 bz:g.op=1→g.b=0
 cz:g.op≤4→g.c=0
structure NoG (m:Nat) (gs:Gs) (g:Gate):Prop where
 nt:g.op=1→2≤g.a∧zig m gs g.a= -1
 tw:2≤g.op→g.op≤4→2≤g.a∧g.a<g.b∧zig m gs g.a≠g.b∧zig m gs g.b≠g.a
 mx:g.op=5→2≤g.a∧2≤g.b∧2≤g.c∧g.b≠g.c
 mj:g.op=6→2≤g.a∧g.a<g.b∧g.b<g.c
structure GI (m:Nat) (gs:Gs):Prop where
 rg:∀k,k<gs.length→RgG ((m:Int)+k) (nth gs k)
 no:∀k,k<gs.length→NoG m gs (nth gs k)
 nd:gs.Nodup
theorem zsl{α:Type}[Inhabited α]{l t:List α}{k:Nat}(h:k<l.length):nth (l++t) k=nth l k:=by
 unfold nth;simp[qai,qaj h]
theorem jxh{α:Type}[Inhabited α]{l:List α}{x:α}:nth (l++[x]) l.length=x:=by unfold nth;simp[qai]
theorem zza{m:Nat}{gs t:Gs}{x:Int}(h:x<(m:Int)+gs.length):zig m (gs++t) x=zig m gs x:=by
 unfold zig
 by_cases hx:(m:Int)≤x
 ·rw[zsl (show(x - m).toNat<gs.length by omega)]
 ·rw[if_neg (fun e=>hx e.1),if_neg (fun e=>hx e.1)]
theorem NdB.pre{m:Nat}{gs gs':Gs}{x:Int}(h:NdB m gs x)(hp:gs<+:gs'):NdB m gs' x:=by
 have:=hp.length_le
 exact⟨h.1,by have:=h.2;omega⟩
theorem NoG.app{m:Nat}{gs t:Gs}{g:Gate}(h:NoG m gs g)(hr:RgG ((m:Int)+gs.length) g):NoG m (gs++t) g:=by
 have ha:=hr.a1
 have hb:=hr.b1
 exact⟨fun e=>by rw[zza ha];exact h.nt e,fun e f=>by rw[zza ha,zza hb];exact h.tw e f,h.mx,h.mj⟩
theorem RgG.mono{a b:Int}{g:Gate}(h:RgG a g)(hab:a≤b):RgG b g:=by
 obtain⟨o1,o2,a0,a1,b0,b1,c0,c1,n0,n1,z1,z2,z3⟩:=h
 exact⟨o1,o2,a0,by omega,b0,by omega,c0,by omega,n0,n1,z1,z2,z3⟩
theorem GI.nil(m:Nat):GI m []:=⟨fun k h=>by simp at h,fun k h=>by simp at h,.nil⟩
theorem GI.snoc{m:Nat}{gs:Gs}{g:Gate}(h:GI m gs)(hr:RgG ((m:Int)+gs.length) g)(hn:NoG m gs g)(hm:¬g∈gs):GI m (gs++[g]):=by
 refine⟨fun k hk=>?_,fun k hk=>?_,?_⟩
 ·by_cases hl:k<gs.length
  ·rw[zsl hl];exact h.rg k hl
  ·have:k=gs.length:=by simp at hk;omega
   subst this
   rw[jxh];exact hr
 ·by_cases hl:k<gs.length
  ·rw[zsl hl];exact(h.no k hl).app ((h.rg k hl).mono (by omega))
  ·have:k=gs.length:=by simp at hk;omega
   subst this
   rw[jxh];exact hn.app hr
 ·rw[List.nodup_append]
  exact⟨h.nd,by simp,fun a ha b hb e=>by simp at hb;subst hb;subst e;exact hm ha⟩
structure Rs (m n:Nat) (gs:Gs) (r:Re):Prop where
 pre:gs<+:r.1
 gi:GI m r.1
 len:r.1.length≤gs.length+n
 nd:NdB m r.1 r.2
theorem Rs.mono{m n k:Nat}{gs:Gs}{r:Re}(h:Rs m n gs r)(hk:n≤k):Rs m k gs r:=⟨h.pre,h.gi,by have:=h.len;omega,h.nd⟩
theorem Rs.same{m n:Nat}{gs:Gs}{x:Int}(h:GI m gs)(hx:NdB m gs x):Rs m n gs (gs,x):=⟨List.prefix_refl _,h,by simp,hx⟩
theorem zih{m:Nat}{gs:Gs}{g:Gate}(h:GI m gs)(hr:RgG ((m:Int)+gs.length) g)(hn:NoG m gs g):Rs m 1 gs (zc8 m gs g):=by
 unfold zc8
 by_cases hm:g∈gs
 ·rw[if_pos hm]
  have:=(zu1 hm).1
  exact Rs.same h ⟨by omega,by omega⟩
 ·rw[if_neg hm]
  exact⟨List.prefix_append _ _,h.snoc hr hn hm,by simp,by simp only;omega,by simp;omega⟩
theorem jrw{m:Nat}{gs:Gs}{x:Int}(h:GI m gs)(hx:NdB m gs x):zig m gs x= -1∨(2≤zig m gs x∧zig m gs x<x∧zig m gs (zig m gs x)= -1):=by
 by_cases e:(m:Int)≤x∧(nth gs (x - m).toNat).op=1
 ·right
  have hk:(x - m).toNat<gs.length:=by have:=hx.2;omega
  have h1:=h.rg _ hk
  have h2:=(h.no _ hk).nt e.2
  have e1:zig m gs x=(nth gs (x - m).toNat).a:=by unfold zig;rw[if_pos e]
  have:=h1.a1
  rw[e1]
  exact⟨h2.1,by omega,h2.2⟩
 ·left;unfold zig;rw[if_neg e]
theorem zer{m:Nat}{gs:Gs}{x:Int}(h2:2≤m)(h:GI m gs)(hx:NdB m gs x):Rs m 1 gs (zdx m gs x):=by
 unfold zdx
 by_cases h1:x<2
 ·rw[if_pos h1];exact Rs.same h ⟨by have:=hx.1;omega,by have:=hx.1;omega⟩
 ·rw[if_neg h1]
  rcases jrw h hx with hi|⟨hi,hj,_⟩
  ·rw[if_neg (by omega)]
   have hx1:=hx.2
   exact zih h ⟨by simp,by simp,hx.1,hx1,by simp,by simp only;omega,by simp,by simp only;omega,by simp,by simp,fun _=>rfl,fun _=>rfl,fun _=>rfl⟩ ⟨fun _=>⟨by simp only;omega,hi⟩,fun a=>absurd a (by simp),fun a=>absurd a (by simp),fun a=>absurd a (by simp)⟩
  ·rw[if_pos (by omega)]
   exact Rs.same h ⟨by omega,by have:=hx.2;omega⟩
theorem zt1{m:Nat}{gs:Gs}{x y o:Int}(h2:2≤m)(o1:2≤o)(o2:o≤4)(hx:NdB m gs x)(hy:NdB m gs y):RgG ((m:Int)+gs.length) ⟨o,x,y,0,0⟩:=
 ⟨by simp only;omega,by simp only;omega,hx.1,hx.2,hy.1,hy.2,by simp,by simp only;omega,by simp,by simp,fun _=>rfl,fun e=>absurd e (by simp only;omega),fun _=>rfl⟩
theorem jjl{m:Nat}{gs:Gs}{x y o:Int}(o1:2≤o)(o2:o≤4)(hx:2≤x)(hxy:x<y)(hi:zod m gs x y=false):NoG m gs ⟨o,x,y,0,0⟩:=by
 simp only[zod,Bool.or_eq_false_iff,decide_eq_false_iff_not]at hi
 exact⟨fun e=>absurd e (by simp only;omega),fun _ _=>⟨hx,hxy,hi.1,hi.2⟩,fun e=>absurd e (by simp only;omega),fun e=>absurd e (by simp only;omega)⟩
theorem yh1{m:Nat}{gs:Gs}{x y:Int}(h2:2≤m)(h:GI m gs)(hx:NdB m gs x)(hy:NdB m gs y)(hxy:x≤y):Rs m 1 gs (jue m gs x y):=by
 unfold jue
 have x0:=hx.1
 by_cases h1:x=0∨zod m gs x y=true
 ·rw[if_pos h1];exact Rs.same h ⟨by omega,by omega⟩
 ·rw[if_neg h1]
  by_cases h3:x=1∨x=y
  ·rw[if_pos h3];exact Rs.same h hy
  ·rw[if_neg h3]
   exact zih h (zt1 h2 (by decide) (by decide) hx hy) (jjl (by decide) (by decide) (by omega) (by omega) (by simpa using fun e=>h1 (.inr e)))
theorem ym1{m:Nat}{gs:Gs}{x y:Int}(h2:2≤m)(h:GI m gs)(hx:NdB m gs x)(hy:NdB m gs y)(hxy:x≤y):Rs m 1 gs (orS m gs x y):=by
 unfold orS
 have x0:=hx.1
 by_cases h1:x=1∨zod m gs x y=true
 ·rw[if_pos h1];exact Rs.same h ⟨by omega,by omega⟩
 ·rw[if_neg h1]
  by_cases h3:x=0∨x=y
  ·rw[if_pos h3];exact Rs.same h hy
  ·rw[if_neg h3]
   exact zih h (zt1 h2 (by decide) (by decide) hx hy) (jjl (by decide) (by decide) (by omega) (by omega) (by simpa using fun e=>h1 (.inr e)))
theorem yh2{m:Nat}{gs:Gs}{x y:Int}(h2:2≤m)(h:GI m gs)(hx:NdB m gs x)(hy:NdB m gs y)(hxy:x≤y):Rs m 1 gs (juf m gs x y):=by
 unfold juf
 have x0:=hx.1
 by_cases h1:x=0
 ·rw[if_pos h1];exact Rs.same h hy
 ·rw[if_neg h1]
  by_cases h3:x=1
  ·rw[if_pos h3];exact zer h2 h hy
  ·rw[if_neg h3]
   by_cases h4:x=y
   ·rw[if_pos h4];exact Rs.same h ⟨by omega,by omega⟩
   ·rw[if_neg h4]
    by_cases h5:zod m gs x y=true
    ·rw[if_pos h5];exact Rs.same h ⟨by omega,by omega⟩
    ·rw[if_neg h5]
     exact zih h (zt1 h2 (by decide) (by decide) hx hy) (jjl (by decide) (by decide) (by omega) (by omega) (by simpa using h5))
theorem zm6{m:Nat}{gs:Gs}{x y:Int}(hx:NdB m gs x)(hy:NdB m gs y):NdB m gs (min x y):=by rcases Int.le_total x y with h|h<;>simp only[h,Int.min_eq_left,Int.min_eq_right]<;>assumption
theorem zm7{m:Nat}{gs:Gs}{x y:Int}(hx:NdB m gs x)(hy:NdB m gs y):NdB m gs (max x y):=by rcases Int.le_total x y with h|h<;>simp only[h,Int.max_eq_left,Int.max_eq_right]<;>assumption
theorem jfc(x y:Int):min x y≤max x y:=by omega
section
variable {m:Nat} {gs:Gs} {x y z:Int}
theorem zfy(h2:2≤m)(h:GI m gs)(hx:NdB m gs x)(hy:NdB m gs y):Rs m 1 gs (zdn m gs x y):=yh1 h2 h (zm6 hx hy) (zm7 hx hy) (jfc x y)
theorem zw0(h2:2≤m)(h:GI m gs)(hx:NdB m gs x)(hy:NdB m gs y):Rs m 1 gs (orB m gs x y):=ym1 h2 h (zm6 hx hy) (zm7 hx hy) (jfc x y)
theorem zjr(h2:2≤m)(h:GI m gs)(hx:NdB m gs x)(hy:NdB m gs y):Rs m 1 gs (zh0 m gs x y):=yh2 h2 h (zm6 hx hy) (zm7 hx hy) (jfc x y)
theorem Rs.trans{n k:Nat}{r s:Re}(h:Rs m n gs r)(t:Rs m k r.1 s):Rs m (n+k) gs s:=⟨h.pre.trans t.pre,t.gi,by have:=h.len;have:=t.len;omega,t.nd⟩
theorem ya9{o:Int}(h2:2≤m)(h:GI m gs)(hx:NdB m gs x)(hy:NdB m gs y):Rs m 1 gs (opB o m gs x y):=by
 unfold opB
 split
 ·exact zfy h2 h hx hy
 ·split
  ·exact zw0 h2 h hx hy
  ·exact zjr h2 h hx hy
theorem zt2(h2:2≤m)(h:GI m gs)(hx:NdB m gs x)(hy:NdB m gs y)(hz:NdB m gs z):Rs m 2 gs (zlf m gs x y z):=by
 have x0:=hx.1
 have y0:=hy.1
 have z0:=hz.1
 unfold zlf
 by_cases h1:x=0
 ·rw[if_pos h1];exact Rs.same h hz
 rw[if_neg h1]
 by_cases h3:x=1∨y=z
 ·rw[if_pos h3];exact Rs.same h hy
 rw[if_neg h3]
 by_cases h4:y=1
 ·rw[if_pos h4];exact(zw0 h2 h hx hz).mono (by omega)
 rw[if_neg h4]
 by_cases h5:z=0
 ·rw[if_pos h5];exact(zfy h2 h hx hy).mono (by omega)
 rw[if_neg h5]
 have hn:=zer h2 h hx
 by_cases h6:y=0
 ·rw[if_pos h6];exact hn.trans (zfy h2 hn.gi hn.nd (hz.pre hn.pre))
 rw[if_neg h6]
 by_cases h7:z=1
 ·rw[if_pos h7];exact hn.trans (zw0 h2 hn.gi hn.nd (hy.pre hn.pre))
 rw[if_neg h7]
 exact(zih h ⟨by simp,by simp,x0,hx.2,y0,hy.2,z0,hz.2,by simp,by simp,fun _=>rfl,fun e=>absurd e (by simp),fun e=>absurd e (by simp)⟩
  ⟨fun e=>absurd e (by simp),fun _ e=>absurd e (by simp),fun _=>⟨by simp only;omega,by simp only;omega,by simp only;omega,fun e=>h3 (.inr e)⟩,fun e=>absurd e (by simp)⟩).mono (by omega)
theorem yh3(h2:2≤m)(h:GI m gs)(hx:NdB m gs x)(hy:NdB m gs y)(hz:NdB m gs z)(h1:x≤y)(h3:y≤z):Rs m 1 gs (jug m gs x y z):=by
 have x0:=hx.1
 unfold jug
 by_cases h4:x=0
 ·rw[if_pos h4];exact zfy h2 h hy hz
 rw[if_neg h4]
 by_cases h5:x=1
 ·rw[if_pos h5];exact zw0 h2 h hy hz
 rw[if_neg h5]
 by_cases h6:x=y∨y=z
 ·rw[if_pos h6];exact Rs.same h hy
 rw[if_neg h6]
 exact zih h ⟨by simp,by simp,x0,hx.2,hy.1,hy.2,hz.1,hz.2,by simp,by simp,fun _=>rfl,fun e=>absurd e (by simp),fun e=>absurd e (by simp)⟩
  ⟨fun e=>absurd e (by simp),fun _ e=>absurd e (by simp),fun e=>absurd e (by simp),fun _=>⟨by simp only;omega,by simp only;omega,by simp only;omega⟩⟩
theorem juh(x y z:Int):∃a b c,lo3 x y z=a∧x+y+z - lo3 x y z - hi3 x y z=b∧hi3 x y z=c∧a≤b∧b≤c∧((a=x∧b=y∧c=z)∨(a=x∧b=z∧c=y)∨(a=y∧b=x∧c=z)∨(a=y∧b=z∧c=x)∨(a=z∧b=x∧c=y)∨(a=z∧b=y∧c=x)):=by
 refine⟨_,_,_,rfl,rfl,rfl,?_,?_,?_⟩<;>unfold lo3 hi3<;>omega
theorem jjm(h2:2≤m)(h:GI m gs)(hx:NdB m gs x)(hy:NdB m gs y)(hz:NdB m gs z):Rs m 1 gs (jdy m gs x y z):=by
 unfold jdy
 obtain⟨a,b,c,e1,e2,e3,h1,h3,hh⟩:=juh x y z
 rw[e2,e1,e3]
 refine yh3 h2 h ?_ ?_ ?_ h1 h3<;>(rcases hh with⟨rfl,rfl,rfl⟩|⟨rfl,rfl,rfl⟩|⟨rfl,rfl,rfl⟩|⟨rfl,rfl,rfl⟩|⟨rfl,rfl,rfl⟩|⟨rfl,rfl,rfl⟩<;>assumption)
end
structure Bs (m n w:Nat) (gs:Gs) (r:Gs × List Int):Prop where
 pre:gs<+:r.1
 gi:GI m r.1
 len:r.1.length≤gs.length+n
 wid:r.2.length=w
 nd:∀k,k<w→NdB m r.1 (nth r.2 k)
theorem Bs.at{m n w:Nat}{gs:Gs}{r:Gs × List Int}(h:Bs m n w gs r){gs':Gs}(hp:r.1<+:gs'){k:Nat}(hk:k<w):NdB m gs' (nth r.2 k):=(h.nd k hk).pre hp
theorem zc3{m q:Nat}{gs:Gs}{st:Gs→Nat→Re}(h:GI m gs):∀{n:Nat},(∀k,k<n→∀gs',gs<+:gs'→GI m gs'→Rs m q gs' (st gs' k))→Bs m (q*n) n gs (zbu st gs n)
 |0,_=>⟨List.prefix_refl _,h,by simp[zbu],rfl,fun k hk=>by omega⟩
 |n+1,hs=>by
  have ih:=zc3 (n:=n) h fun k hk=>hs k (by omega)
  have s:=hs n (by omega) _ ih.pre ih.gi
  refine⟨ih.pre.trans s.pre,s.gi,?_,by simp[zbu,ih.wid],fun k hk=>?_⟩
  ·have h1:=ih.len
   have h2:=s.len
   show(st (zbu st gs n).1 n).1.length≤_
   rw[Nat.mul_succ];omega
  ·show NdB m (st (zbu st gs n).1 n).1 (nth ((zbu st gs n).2++[(st (zbu st gs n).1 n).2]) k)
   by_cases hl:k<n
   ·rw[zsl (by rw[ih.wid];exact hl)];exact(ih.nd k hl).pre s.pre
   ·have:k=(zbu st gs n).2.length:=by rw[ih.wid];omega
    rw[this,jxh];exact s.nd
structure Ss (m n w:Nat) (gs:Gs) (s:Sm):Prop where
 bs:Bs m n w gs (s.gs,s.l)
 c:NdB m s.gs s.c
theorem zw1{m:Nat}{gs:Gs}{x y:List Int}{c:Int}(h2:2≤m)(h:GI m gs)(hx:∀k,k<x.length→NdB m gs (nth x k))(hy:∀k,k<x.length→NdB m gs (nth y k))(hc:NdB m gs c):∀k,k≤x.length→Ss m (3*k) k gs (zhm m gs x y c k)
 |0,_=>⟨⟨List.prefix_refl _,h,by simp[zhm],rfl,fun k hk=>by omega⟩,hc⟩
 |k+1,hk=>by
  obtain⟨ih,ihc⟩:=zw1 h2 h hx hy hc k (by omega)
  generalize es:zhm m gs x y c k=s at *
  have ha:=zjr h2 ih.gi ((hx k (by omega)).pre ih.pre) ((hy k (by omega)).pre ih.pre)
  have hb:=zjr h2 ha.gi ha.nd (ihc.pre ha.pre)
  have hab:=ha.trans hb
  have bsr:∀r:Re,Rs m 1 (zh0 m (zh0 m s.gs (nth x k) (nth y k)).1 (zh0 m s.gs (nth x k) (nth y k)).2 s.c).1 r→Bs m (3*(k+1)) (k+1) gs (r.1,s.l++[(zh0 m (zh0 m s.gs (nth x k) (nth y k)).1 (zh0 m s.gs (nth x k) (nth y k)).2 s.c).2]):=fun r hr=>by
   have ht:=hab.trans hr
   refine⟨ih.pre.trans ht.pre,ht.gi,?_,by simp[show s.l.length=k from ih.wid],fun j hj=>?_⟩
   ·have h1:=ih.len
    have h3:=ht.len
    simp only at *
    omega
   ·have hw:s.l.length=k:=ih.wid
    by_cases hl:j<k
    ·simp only
     rw[zsl (by rw[hw];exact hl)];exact(ih.nd j hl).pre ht.pre
    ·have:j=s.l.length:=by omega
     simp only
     rw[this,jxh];exact hb.nd.pre hr.pre
  rw[zhm]
  simp only[es]
  split
  ·have hd:=jjm h2 hb.gi ((hx k (by omega)).pre (ih.pre.trans hab.pre)) ((hy k (by omega)).pre (ih.pre.trans hab.pre)) (ihc.pre hab.pre)
   exact⟨bsr _ hd,hd.nd⟩
  ·exact⟨bsr (_,s.c) (Rs.same hb.gi (ihc.pre hab.pre)),ihc.pre hab.pre⟩
theorem jm3{m:Nat}{gs:Gs}{x y:List Int}(h2:2≤m)(h:GI m gs)(hx:∀k,k<x.length→NdB m gs (nth x k))(hy:∀k,k<x.length→NdB m gs (nth y k)):∀k,k≤x.length→Rs m (3*k) gs (zsk m gs x y k)
 |0,_=>Rs.same h ⟨by decide,by omega⟩
 |k+1,hk=>by
  have ih:=jm3 h2 h hx hy k (by omega)
  have ha:=zjr h2 ih.gi ((hx k (by omega)).pre ih.pre) ((hy k (by omega)).pre ih.pre)
  have hn:=zer h2 ha.gi ha.nd
  have hd:=zfy h2 hn.gi (ih.nd.pre (ha.pre.trans hn.pre)) hn.nd
  exact(((ih.trans ha).trans hn).trans hd).mono (by omega)
theorem jjn{m:Nat}{gs:Gs}{x y:List Int}(h2:2≤m)(h:GI m gs)(hx:∀k,k<x.length→NdB m gs (nth x k))(hy:∀k,k<x.length→NdB m gs (nth y k)):∀k,k≤x.length→Rs m (2*k) gs (ltB m gs x y k)
 |0,_=>Rs.same h ⟨by decide,by omega⟩
 |k+1,hk=>by
  have ih:=jjn h2 h hx hy k (by omega)
  have hn:=zer h2 ih.gi ((hy k (by omega)).pre ih.pre)
  have hd:=jjm h2 hn.gi ((hx k (by omega)).pre (ih.pre.trans hn.pre)) hn.nd (ih.nd.pre hn.pre)
  exact((ih.trans hn).trans hd).mono (by omega)
def za7(c:Ct):Ex→Nat
 | .con _ w=>w
 | .reg i=>nth c.regs i
 | .dat i=>nth c.takes i
 | .not a=>za7 c a
 | .two _ a _=>za7 c a
 | .add a _=>za7 c a
 | .sub a _=>za7 c a
 | .eq _ _=>1
 | .lt _ _=>1
 | .mux _ b _=>za7 c b
 | .cat a b=>za7 c a+za7 c b
 | .slc _ w _=>w
 | .ext w _=>w
 | .rd k _=>(nth c.mems k).2
def za8(c:Ct):Ex→Nat
 | .con _ _=>0
 | .reg _=>0
 | .dat _=>0
 | .not a=>za8 c a+za7 c a
 | .two _ a b=>za8 c a+za8 c b+za7 c a
 | .add a b=>za8 c a+za8 c b+3*za7 c a
 | .sub a b=>za8 c a+za8 c b+4*za7 c a
 | .eq a b=>za8 c a+za8 c b+3*za7 c a
 | .lt a b=>za8 c a+za8 c b+(2*za7 c a+1)
 | .mux a b d=>za8 c a+za8 c b+za8 c d+2*za7 c b
 | .cat a b=>za8 c a+za8 c b
 | .slc _ _ a=>za8 c a
 | .ext _ a=>za8 c a
 | .rd k a=>za8 c a+(nth c.mems k).2
def WT(c:Ct)(q:Bool):Ex→Prop
 | .con v w=>1≤w∧w≤8∧v<2^w
 | .reg i=>i<c.regs.length
 | .dat i=>q=true∧i<c.takes.length
 | .not a=>WT c q a
 | .two o a b=>(o=3∨o=4∨o=5)∧WT c q a∧WT c q b∧za7 c a=za7 c b
 | .add a b=>WT c q a∧WT c q b∧za7 c a=za7 c b
 | .sub a b=>WT c q a∧WT c q b∧za7 c a=za7 c b
 | .eq a b=>WT c q a∧WT c q b∧za7 c a=za7 c b
 | .lt a b=>WT c q a∧WT c q b∧za7 c a=za7 c b
 | .mux a b d=>WT c q a∧WT c q b∧WT c q d∧za7 c a=1∧za7 c b=za7 c d
 | .cat a b=>WT c q a∧WT c q b∧za7 c a+za7 c b≤8
 | .slc k w a=>WT c q a∧1≤w∧k+w≤za7 c a
 | .ext w a=>WT c q a∧za7 c a≤w∧w≤8
 | .rd k a=>WT c q a∧k<c.mems.length
structure CtOk (c:Ct):Prop where
 r:∀i,i<c.regs.length→1≤nth c.regs i∧nth c.regs i≤8
 t:∀i,i<c.takes.length→1≤nth c.takes i∧nth c.takes i≤8
 m:∀i,i<c.mems.length→1≤(nth c.mems i).1∧(nth c.mems i).1≤8∧1≤(nth c.mems i).2∧(nth c.mems i).2≤8
 l:c.mems.length≤8
theorem zcn{c:Ct}{q:Bool}(hc:CtOk c):∀{e:Ex},WT c q e→1≤za7 c e∧za7 c e≤8
 | .con v w,h=>⟨h.1,h.2.1⟩
 | .reg i,h=>hc.r i h
 | .dat i,h=>hc.t i h.2
 | .not a,h=>zcn hc (e:=a) h
 | .two o a b,h=>zcn hc (e:=a) h.2.1
 | .add a b,h=>zcn hc (e:=a) h.1
 | .sub a b,h=>zcn hc (e:=a) h.1
 | .eq a b,h=>⟨qao 1,by simp[za7]⟩
 | .lt a b,h=>⟨qao 1,by simp[za7]⟩
 | .mux a b d,h=>zcn hc (e:=b) h.2.1
 | .cat a b,h=>by have:=zcn hc (e:=a) h.1;have:=h.2.2;simp only[za7];omega
 | .slc k w a,h=>by have:=zcn hc (e:=a) h.1;have:=h.2;simp only[za7];omega
 | .ext w a,h=>by have:=zcn hc (e:=a) h.1;have:=h.2;simp only[za7];omega
 | .rd k a,h=>(hc.m k h.2).2.2
structure InOk (c:Ct) (inp:Int→Nat→Nat→Int) (m:Nat):Prop where
 r:∀i k,i<c.regs.length→k<nth c.regs i→0≤inp 1 i k∧inp 1 i k<m
structure DaOk (c:Ct) (q:Bool) (m:Nat) (gs:Gs) (data:List (List Int)):Prop where
 l:q=true→data.length=c.takes.length
 w:q=true→∀i,i<c.takes.length→(nth data i).length=nth c.takes i
 nd:q=true→∀i,i<c.takes.length→∀k,k<nth c.takes i→NdB m gs (nth (nth data i) k)
theorem DaOk.pre{c:Ct}{q:Bool}{m:Nat}{gs gs':Gs}{data:List (List Int)}(h:DaOk c q m gs data)(hp:gs<+:gs'):DaOk c q m gs' data:=⟨h.l,h.w,fun e i hi k hk=>(h.nd e i hi k hk).pre hp⟩
theorem Bs.ext{m n w k:Nat}{gs:Gs}{r:Gs × List Int}(h:Bs m n w gs r)(hk:n≤k):Bs m k w gs r:=⟨h.pre,h.gi,by have:=h.len;omega,h.wid,h.nd⟩
theorem Bs.trans{m n k w v:Nat}{gs:Gs}{r s:Gs × List Int}(h:Bs m n w gs r)(t:Bs m k v r.1 s):Bs m (n+k) v gs s:=⟨h.pre.trans t.pre,t.gi,by have:=h.len;have:=t.len;omega,t.wid,t.nd⟩
theorem zt3{m:Nat}{gs:Gs}{l:List Int}{words j:Nat}(h2:2≤m)(h:∀k,k<l.length→NdB m gs (nth l k))(hj:j<3):NdB m gs (nth (zhu l words) j):=by
 have e:nth (zhu l words) j=if j<l.length∧2^j<words then nth l j else 0:=by
  unfold zhu nth;simp[qai,hj]
 rw[e]
 split
 ·rename_i hh;exact h j hh.1
 ·exact⟨by decide,by omega⟩
theorem zfq{β:Type}[Inhabited β]{f:Nat→β}{n k:Nat}(h:k<n):nth ((List.range n).map f) k=f k:=by unfold nth;simp[qai,h]
theorem jrx{n k:Nat}{x:Int}(h:k<n):nth (List.replicate n x) k=x:=by unfold nth;simp[qai,h]
theorem zw2{α:Type}[Inhabited α]{l t:List α}{k:Nat}(h:l.length≤k):nth (l++t) k=nth t (k - l.length):=by
 unfold nth;simp[qai,qak h]
theorem jry{α:Type}[Inhabited α]{l:List α}{a w k:Nat}(h:k<w):nth ((l.drop a).take w) k=nth l (a+k):=by
 unfold nth;simp[qai,List.getElem?_take_of_lt h]
theorem jjo{m:Nat}{gs:Gs}{x:Int}(h:NdB m gs x):∀k,k<1→NdB m gs (nth [x] k)
 |0,_=>h
 |k+1,hk=>by omega
theorem zc9{c:Ct}{q:Bool}{inp:Int→Nat→Nat→Int}{m:Nat}{data:List (List Int)}(h2:2≤m)(hc:CtOk c)(hi:InOk c inp m)(e:Ex):∀{gs:Gs},GI m gs→DaOk c q m gs data→WT c q e→Bs m (za8 c e) (za7 c e) gs (zbh c inp m data gs e):=by
 induction e with
 |con v w=>
  intro gs h hd ht
  refine⟨List.prefix_refl _,h,by simp[zbh],by simp[zbh,za7],fun k hk=>?_⟩
  simp only[zbh,za7]at hk ⊢
  rw[zfq hk]
  have:=Nat.mod_lt (v / 2^k) (show 0<2 by decide)
  exact⟨by omega,by omega⟩
 |reg i=>
  intro gs h hd ht
  refine⟨List.prefix_refl _,h,by simp[zbh],by simp[zbh,za7],fun k hk=>?_⟩
  simp only[zbh,za7]at hk ⊢
  rw[zfq hk]
  have:=hi.r i k ht hk
  exact⟨this.1,by omega⟩
 |dat i=>
  intro gs h hd ht
  exact⟨List.prefix_refl _,h,by simp[zbh],hd.w ht.1 i ht.2,fun k hk=>hd.nd ht.1 i ht.2 k hk⟩
 |not a iha=>
  intro gs h hd ht
  have ha:=iha h hd ht
  simp only[zbh,za8,za7]
  generalize zbh c inp m data gs a=r at *
  rw[ha.wid]
  exact(ha.trans (zc3 (q:=1) ha.gi fun k hk gs' hp hg=>zer h2 hg (ha.at hp hk))).ext (by omega)
 |two o a b iha ihb=>
  intro gs h hd ht
  obtain⟨_,ta,tb,hw⟩:=ht
  have ha:=iha h hd ta
  simp only[zbh,za8,za7]
  generalize zbh c inp m data gs a=r at *
  have hb:=ihb ha.gi (hd.pre ha.pre) tb
  generalize zbh c inp m data r.1 b=s at *
  rw[ha.wid]
  exact((ha.trans hb).trans (zc3 (q:=1) hb.gi fun k hk gs' hp hg=>ya9 h2 hg (ha.at (hb.pre.trans hp) hk) (hb.at hp (by omega)))).ext (by omega)
 |add a b iha ihb=>
  intro gs h hd ht
  obtain⟨ta,tb,hw⟩:=ht
  have ha:=iha h hd ta
  simp only[zbh,za8,za7]
  generalize zbh c inp m data gs a=r at *
  have hb:=ihb ha.gi (hd.pre ha.pre) tb
  generalize zbh c inp m data r.1 b=s at *
  rw[ha.wid]
  exact((ha.trans hb).trans (zw1 h2 hb.gi (fun k hk=>ha.at hb.pre (by rw[ha.wid]at hk;exact hk)) (fun k hk=>hb.nd k (by rw[ha.wid]at hk;omega)) ⟨by decide,by omega⟩ _ (by rw[ha.wid];exact qao _)).bs).ext (by omega)
 |sub a b iha ihb=>
  intro gs h hd ht
  obtain⟨ta,tb,hw⟩:=ht
  have ha:=iha h hd ta
  simp only[zbh,za8,za7]
  generalize zbh c inp m data gs a=r at *
  have hb:=ihb ha.gi (hd.pre ha.pre) tb
  generalize zbh c inp m data r.1 b=s at *
  rw[ha.wid,hb.wid]
  have hn:=zc3 (q:=1) (n:=za7 c b) hb.gi (st:=fun gs i=>zdx m gs (nth s.2 i)) fun k hk gs' hp hg=>zer h2 hg (hb.at hp hk)
  generalize zbu (fun gs i=>zdx m gs (nth s.2 i)) s.1 (za7 c b)=n at *
  exact(((ha.trans hb).trans hn).trans (zw1 h2 hn.gi (fun k hk=>ha.at (hb.pre.trans hn.pre) (by rw[ha.wid]at hk;exact hk)) (fun k hk=>hn.nd k (by rw[ha.wid]at hk;omega)) ⟨by decide,by omega⟩ _ (by rw[ha.wid];exact qao _)).bs).ext (by omega)
 |eq a b iha ihb=>
  intro gs h hd ht
  obtain⟨ta,tb,hw⟩:=ht
  have ha:=iha h hd ta
  simp only[zbh,za8,za7]
  generalize zbh c inp m data gs a=r at *
  have hb:=ihb ha.gi (hd.pre ha.pre) tb
  generalize zbh c inp m data r.1 b=s at *
  have hs:=jm3 h2 hb.gi (x:=r.2) (y:=s.2) (fun k hk=>ha.at hb.pre (by rw[ha.wid]at hk;exact hk)) (fun k hk=>hb.nd k (by rw[ha.wid]at hk;omega)) _ (qao _)
  rw[ha.wid]at hs ⊢
  exact((ha.trans hb).trans (k:=3*za7 c a) (v:=1) ⟨hs.pre,hs.gi,hs.len,rfl,jjo hs.nd⟩).ext (by omega)
 |lt a b iha ihb=>
  intro gs h hd ht
  obtain⟨ta,tb,hw⟩:=ht
  have ha:=iha h hd ta
  simp only[zbh,za8,za7]
  generalize zbh c inp m data gs a=r at *
  have hb:=ihb ha.gi (hd.pre ha.pre) tb
  generalize zbh c inp m data r.1 b=s at *
  have hs0:=jjn h2 hb.gi (x:=r.2) (y:=s.2) (fun k hk=>ha.at hb.pre (by rw[ha.wid]at hk;exact hk)) (fun k hk=>hb.nd k (by rw[ha.wid]at hk;omega)) _ (qao _)
  rw[ha.wid]at hs0 ⊢
  have hs:=hs0.trans (zer h2 hs0.gi hs0.nd)
  exact((ha.trans hb).trans (k:=2*za7 c a+1) (v:=1) ⟨hs.pre,hs.gi,hs.len,rfl,jjo hs.nd⟩).ext (by omega)
 |mux a b d iha ihb ihd=>
  intro gs h hd ht
  obtain⟨ta,tb,td,w1,hw⟩:=ht
  have ha:=iha h hd ta
  simp only[zbh,za8,za7]
  generalize zbh c inp m data gs a=r at *
  have hb:=ihb ha.gi (hd.pre ha.pre) tb
  generalize zbh c inp m data r.1 b=s at *
  have hdd:=ihd hb.gi (hd.pre (ha.pre.trans hb.pre)) td
  generalize zbh c inp m data s.1 d=t at *
  rw[hb.wid]
  exact(((ha.trans hb).trans hdd).trans (zc3 (q:=2) hdd.gi fun k hk gs' hp hg=>zt2 h2 hg (ha.at (hb.pre.trans (hdd.pre.trans hp)) (by omega)) (hb.at (hdd.pre.trans hp) hk) (hdd.at hp (by omega)))).ext (by omega)
 |cat a b iha ihb=>
  intro gs h hd ht
  obtain⟨ta,tb,hw⟩:=ht
  have ha:=iha h hd ta
  simp only[zbh,za8,za7]
  generalize zbh c inp m data gs a=r at *
  have hb:=ihb ha.gi (hd.pre ha.pre) tb
  generalize zbh c inp m data r.1 b=s at *
  have hab:=ha.trans hb
  refine⟨hab.pre,hab.gi,hab.len,by simp only[List.length_append,hb.wid,ha.wid];omega,fun k hk=>?_⟩
  by_cases hl:k<s.2.length
  ·rw[show(s.1,s.2++r.2).2=s.2++r.2 from rfl,zsl hl];exact hb.nd k (by rw[←hb.wid];exact hl)
  ·rw[show(s.1,s.2++r.2).2=s.2++r.2 from rfl,zw2 (by omega)];exact ha.at hb.pre (by rw[hb.wid]at hl ⊢;omega)
 |slc k w a iha=>
  intro gs h hd ht
  obtain⟨ta,w1,hw⟩:=ht
  have ha:=iha h hd ta
  simp only[zbh,za8,za7]
  generalize zbh c inp m data gs a=r at *
  refine⟨ha.pre,ha.gi,ha.len,by simp only[List.length_take,List.length_drop,ha.wid];omega,fun j hj=>?_⟩
  rw[show(r.1,(r.2.drop k).take w).2=(r.2.drop k).take w from rfl,jry hj]
  exact ha.nd _ (by omega)
 |ext w a iha=>
  intro gs h hd ht
  obtain⟨ta,hw,w8⟩:=ht
  have ha:=iha h hd ta
  simp only[zbh,za8,za7]
  generalize zbh c inp m data gs a=r at *
  refine⟨ha.pre,ha.gi,ha.len,by simp only[List.length_append,List.length_replicate,ha.wid];omega,fun k hk=>?_⟩
  by_cases hl:k<r.2.length
  ·rw[show(r.1,r.2++List.replicate (w - r.2.length) (0:Int)).2=r.2++List.replicate (w - r.2.length) 0 from rfl,zsl hl];exact ha.nd k (by rw[←ha.wid];exact hl)
  ·rw[show(r.1,r.2++List.replicate (w - r.2.length) (0:Int)).2=r.2++List.replicate (w - r.2.length) 0 from rfl,zw2 (by omega),jrx (by omega)];exact⟨by decide,by omega⟩
 |rd k a iha=>
  intro gs h hd ht
  obtain⟨ta,hk⟩:=ht
  have ha:=iha h hd ta
  simp only[zbh,za8,za7]
  generalize zbh c inp m data gs a=r at *
  have hm:=hc.m k hk
  have hl:=hc.l
  refine(ha.trans (zc3 (q:=1) (n:=(nth c.mems k).2) ha.gi fun i hik gs' hp hg=>?_)).ext (by omega)
  have n0:=zt3 (m:=m) (gs:=gs') (l:=r.2) (words:=(nth c.mems k).1) (j:=0) h2 (fun j hj=>ha.at hp (by rw[ha.wid]at hj;exact hj)) (by decide)
  have n1:=zt3 (m:=m) (gs:=gs') (l:=r.2) (words:=(nth c.mems k).1) (j:=1) h2 (fun j hj=>ha.at hp (by rw[ha.wid]at hj;exact hj)) (by decide)
  have n2:=zt3 (m:=m) (gs:=gs') (l:=r.2) (words:=(nth c.mems k).1) (j:=2) h2 (fun j hj=>ha.at hp (by rw[ha.wid]at hj;exact hj)) (by decide)
  exact zih hg ⟨by simp,by simp,n0.1,n0.2,n1.1,n1.2,n2.1,n2.2,by simp only;omega,by simp only;omega,fun e=>absurd rfl e,fun e=>absurd e (by simp),fun e=>absurd e (by simp)⟩
   ⟨fun e=>absurd e (by simp),fun _ e=>absurd e (by simp),fun e=>absurd e (by simp),fun e=>absurd e (by simp)⟩
end
section
structure PReg where
 name:ByteArray
 w:Nat
 init:Int
 next:Ex
 rk:Int
 rf:ByteArray
 rn:Int
 deriving Inhabited
structure PMem where
 name:ByteArray
 w:Nat
 words:Nat
 en:Ex
 ad:Ex
 da:Ex
 rk:Int
 rf:ByteArray
 rn:Int
 deriving Inhabited
structure PTake where
 chan:Int
 w:Nat
 wh:Ex
 deriving Inhabited
structure PPut where
 chan:Int
 w:Nat
 wh:Ex
 da:Ex
 deriving Inhabited
structure Pr where
 name:ByteArray
 clock:ByteArray
 regs:List PReg
 mems:List PMem
 takes:List PTake
 puts:List PPut
 deriving Inhabited
def ctP(p:Pr):Ct:=⟨p.regs.map (·.w),p.takes.map (·.w),p.mems.map fun x=>(x.words,x.w)⟩
def zcr(kind i:Int)(w:Nat):List Wire:=(List.range w).map fun(k:Nat)=>(⟨kind,i,(k:Int)⟩:Wire)
theorem zb3(kind i:Int)(w:Nat):(zcr kind i w).length=w:=by simp[zcr]
theorem zk3(kind i:Int)(w:Nat):zcr kind i (w+1)=zcr kind i w++[⟨kind,i,(w:Int)⟩]:=by simp[zcr,qav]
def zns(p:Pr):Nat→List Wire
 |0=>[]
 |k+1=>zns p k++zcr 1 k (nth p.regs k).w
def zlg(p:Pr):Nat→List Wire
 |0=>zns p p.regs.length
 |k+1=>zlg p k++zcr 2 k (nth p.takes k).w++zcr 3 k 1
def zpa(p:Pr):Nat→List Wire
 |0=>zlg p p.takes.length
 |k+1=>zpa p k++zcr 4 k 1
def zh9(p:Pr):List Wire:=zpa p p.puts.length
def mP(p:Pr):Nat:=2+(zh9 p).length
instance:DecidableEq Wire:=fun⟨a1,a2,a3⟩ ⟨b1,b2,b3⟩=>
 if h:a1=b1∧a2=b2∧a3=b3 then isTrue (by obtain⟨h1,h2,h3⟩:=h;subst h1 h2 h3;rfl)
 else isFalse fun e=>h (by cases e;exact⟨rfl,rfl,rfl⟩)
def zqo(g:Wire):List Wire→Nat
 |[]=>0
 |x::l=>if x=g then 0 else zqo g l+1
theorem zm8{g:Wire}:∀{l:List Wire},g∈l→zqo g l<l.length∧nth l (zqo g l)=g
 |[],h=>by cases h
 |x::l,h=>by
  rw[zqo]
  by_cases e:x=g
  ·rw[if_pos e];exact⟨by simp,by simpa[nth]using e⟩
  ·rw[if_neg e]
   have hl:g∈l:=by
    rcases List.mem_cons.1 h with h|h
    ·exact absurd h.symm e
    ·exact h
   obtain⟨h1,h2⟩:=zm8 hl
   exact⟨by simpa using h1,by simpa[nth]using h2⟩
theorem jdz{g:Wire}:∀{l m:List Wire},g∈l→zqo g (l++m)=zqo g l
 |[],_,h=>by cases h
 |x::l,m,h=>by
  rw[List.cons_append,zqo,zqo]
  by_cases e:x=g
  ·rw[if_pos e,if_pos e]
  ·rw[if_neg e,if_neg e]
   have hl:g∈l:=by
    rcases List.mem_cons.1 h with h|h
    ·exact absurd h.symm e
    ·exact h
   rw[jdz hl]
def inp(p:Pr)(kind:Int)(i k:Nat):Int:=((2+zqo ⟨kind,(i:Int),(k:Int)⟩ (zh9 p):Nat):Int)
structure Fi where
 gs:Gs
 takes:List Int
 data:List (List Int)
structure Fq where
 gs:Gs
 puts:List Int
def zci(p:Pr)(data:List (List Int))(gs:Gs)(e:Ex):Gs × List Int:=zbh (ctP p) (inp p) (mP p) data gs e
def zc0(p:Pr):Nat→Fi
 |0=>⟨[],[],[]⟩
 |k+1=>
  let s:=zc0 p k
  let r:=zci p s.data s.gs (nth p.takes k).wh
  let t:=zbu (fun gs i=>zdn (mP p) gs (nth r.2 0) (inp p 2 k i)) r.1 (nth p.takes k).w
  ⟨t.1,s.takes++[nth r.2 0],s.data++[t.2]⟩
def zl3(p:Pr):Nat→Fq
 |0=>⟨(zc0 p p.takes.length).gs,[]⟩
 |k+1=>
  let s:=zl3 p k
  let r:=zci p (zc0 p p.takes.length).data s.gs (nth p.puts k).wh
  ⟨r.1,s.puts++[nth r.2 0]⟩
def zu3(m:Nat)(gs:Gs)(fire due x:Int):Re:=let n:=zdx m gs due;let o:=orB m n.1 n.2 x;zdn m o.1 fire o.2
def zi6(p:Pr):Nat→Re
 |0=>((zl3 p p.puts.length).gs,1)
 |k+1=>let s:=zi6 p k;zu3 (mP p) s.1 s.2 (nth (zc0 p p.takes.length).takes k) (inp p 3 k 0)
def zi7(p:Pr):Nat→Re
 |0=>zi6 p p.takes.length
 |k+1=>let s:=zi7 p k;zu3 (mP p) s.1 s.2 (nth (zl3 p p.puts.length).puts k) (inp p 4 k 0)
def zfz(p:Pr):List Int:=(zc0 p p.takes.length).takes
def ze4(p:Pr):List Int:=(zl3 p p.puts.length).puts
def zbb(p:Pr):List (List Int):=(zc0 p p.takes.length).data
def zcs(p:Pr):Int:=(zi7 p p.puts.length).2
structure Os where
 gs:Gs
 out:List Wire
 dr:List Int
def zet(p:Pr):Nat→Os
 |0=>⟨(zi7 p p.puts.length).1,[],[]⟩
 |i+1=>
  let s:=zet p i
  let r:=zci p (zbb p) s.gs (nth p.regs i).next
  let t:=zbu (fun gs k=>zlf (mP p) gs (zcs p) (nth r.2 k) (inp p 1 i k)) r.1 r.2.length
  ⟨t.1,s.out++zcr 1 i r.2.length,s.dr++t.2⟩
def zgm(p:Pr):Nat→Os
 |0=>zet p p.regs.length
 |i+1=>
  let s:=zgm p i
  let a:=zdn (mP p) s.gs (zcs p) (nth (zfz p) i)
  ⟨a.1,s.out++[⟨5,i,0⟩],s.dr++[a.2]⟩
def zf0(p:Pr):Nat→Os
 |0=>zgm p p.takes.length
 |i+1=>
  let s:=zf0 p i
  let a:=zdn (mP p) s.gs (zcs p) (nth (ze4 p) i)
  let r:=zci p (zbb p) a.1 (nth p.puts i).da
  let t:=zbu (fun gs k=>zdn (mP p) gs a.2 (nth r.2 k)) r.1 r.2.length
  ⟨t.1,s.out++[⟨6,i,0⟩]++zcr 7 i r.2.length,s.dr++[a.2]++t.2⟩
def zd4(p:Pr):Nat→Os
 |0=>zf0 p p.puts.length
 |i+1=>
  let s:=zd4 p i
  let e:=zci p (zbb p) s.gs (nth p.mems i).en
  let a:=zdn (mP p) e.1 (zcs p) (nth e.2 0)
  let d:=zci p (zbb p) a.1 (nth p.mems i).ad
  let w:=zci p (zbb p) d.1 (nth p.mems i).da
  ⟨w.1,s.out++[⟨8,i,0⟩]++zcr 9 i 3++zcr 10 i w.2.length,s.dr++[a.2]++zhu d.2 (nth p.mems i).words++w.2⟩
def zd5(p:Pr):Net:=let o:=zd4 p p.mems.length;⟨zh9 p,o.gs,o.out,o.dr⟩
def cTP(p:Pr):Nat→Nat
 |0=>0
 |k+1=>cTP p k+(za8 (ctP p) (nth p.takes k).wh+(nth p.takes k).w)
def cQP(p:Pr):Nat→Nat
 |0=>cTP p p.takes.length
 |k+1=>cQP p k+za8 (ctP p) (nth p.puts k).wh
def cRP(p:Pr):Nat→Nat
 |0=>cQP p p.puts.length+3*p.takes.length+3*p.puts.length
 |k+1=>cRP p k+(za8 (ctP p) (nth p.regs k).next+2*(nth p.regs k).w)
def cUP(p:Pr):Nat→Nat
 |0=>cRP p p.regs.length+p.takes.length
 |k+1=>cUP p k+(1+za8 (ctP p) (nth p.puts k).da+(nth p.puts k).w)
def cMP(p:Pr):Nat→Nat
 |0=>cUP p p.puts.length
 |k+1=>cMP p k+(za8 (ctP p) (nth p.mems k).en+1+za8 (ctP p) (nth p.mems k).ad+za8 (ctP p) (nth p.mems k).da)
def zoe(p:Pr):Nat:=cMP p p.mems.length
structure PrOk (p:Pr):Prop where
 ct:CtOk (ctP p)
 tw:∀i,i<p.takes.length→WT (ctP p) false (nth p.takes i).wh∧za7 (ctP p) (nth p.takes i).wh=1
 rn:∀i,i<p.regs.length→WT (ctP p) true (nth p.regs i).next∧za7 (ctP p) (nth p.regs i).next=(nth p.regs i).w
 qw:∀i,i<p.puts.length→WT (ctP p) true (nth p.puts i).wh∧za7 (ctP p) (nth p.puts i).wh=1
 qd:∀i,i<p.puts.length→WT (ctP p) true (nth p.puts i).da∧za7 (ctP p) (nth p.puts i).da=(nth p.puts i).w
 qb:∀i,i<p.puts.length→1≤(nth p.puts i).w∧(nth p.puts i).w≤8
 me:∀i,i<p.mems.length→WT (ctP p) true (nth p.mems i).en∧za7 (ctP p) (nth p.mems i).en=1
 ma:∀i,i<p.mems.length→WT (ctP p) true (nth p.mems i).ad
 md:∀i,i<p.mems.length→WT (ctP p) true (nth p.mems i).da∧za7 (ctP p) (nth p.mems i).da=(nth p.mems i).w
 rl:p.regs.length≤100
 tl:p.takes.length≤100
 ql:p.puts.length≤100
 cl:zoe p≤100000
theorem zt4{α β:Type}[Inhabited α][Inhabited β]{f:α→β}{l:List α}{k:Nat}(h:k<l.length):nth (l.map f) k=f (nth l k):=by
 unfold nth;simp[qai,h]
theorem zu4{kind i:Int}{w k:Nat}(h:k<w):(⟨kind,i,(k:Int)⟩:Wire)∈zcr kind i w:=qat.2 ⟨k,qaq.2 h,rfl⟩
section
variable {p:Pr}
theorem yba:∀{n i k:Nat},i<n→k<(nth p.regs i).w→(⟨1,(i:Int),(k:Int)⟩:Wire)∈zns p n
 |n+1,i,k,h,hk=>by
  rw[zns]
  by_cases e:i<n
  ·exact List.mem_append_left _ (yba e hk)
  ·have:i=n:=by omega
   subst this
   exact List.mem_append_right _ (zu4 hk)
theorem jrz{x:Wire}(h:x∈zns p p.regs.length):∀n,x∈zlg p n
 |0=>h
 |n+1=>by rw[zlg];exact List.mem_append_left _ (List.mem_append_left _ (jrz h n))
theorem jr0:∀{n i k:Nat},i<n→k<(nth p.takes i).w→(⟨2,(i:Int),(k:Int)⟩:Wire)∈zlg p n
 |n+1,i,k,h,hk=>by
  rw[zlg]
  by_cases e:i<n
  ·exact List.mem_append_left _ (List.mem_append_left _ (jr0 e hk))
  ·have:i=n:=by omega
   subst this
   exact List.mem_append_left _ (List.mem_append_right _ (zu4 hk))
theorem jr1:∀{n i:Nat},i<n→(⟨3,(i:Int),0⟩:Wire)∈zlg p n
 |n+1,i,h=>by
  rw[zlg]
  by_cases e:i<n
  ·exact List.mem_append_left _ (List.mem_append_left _ (jr1 e))
  ·have:i=n:=by omega
   subst this
   exact List.mem_append_right _ (zu4 (k:=0) (by decide))
theorem jd0{x:Wire}(h:x∈zlg p p.takes.length):∀n,x∈zpa p n
 |0=>h
 |n+1=>by rw[zpa];exact List.mem_append_left _ (jd0 h n)
theorem jr2:∀{n i:Nat},i<n→(⟨4,(i:Int),0⟩:Wire)∈zpa p n
 |n+1,i,h=>by
  rw[zpa]
  by_cases e:i<n
  ·exact List.mem_append_left _ (jr2 e)
  ·have:i=n:=by omega
   subst this
   exact List.mem_append_right _ (zu4 (k:=0) (by decide))
theorem in1{i k:Nat}(h:i<p.regs.length)(hk:k<(nth p.regs i).w):(⟨1,(i:Int),(k:Int)⟩:Wire)∈zh9 p:=jd0 (jrz (yba h hk) _) _
theorem in2{i k:Nat}(h:i<p.takes.length)(hk:k<(nth p.takes i).w):(⟨2,(i:Int),(k:Int)⟩:Wire)∈zh9 p:=jd0 (jr0 h hk) _
theorem in3{i:Nat}(h:i<p.takes.length):(⟨3,(i:Int),((0:Nat):Int)⟩:Wire)∈zh9 p:=jd0 (jr1 h) _
theorem in4{i:Nat}(h:i<p.puts.length):(⟨4,(i:Int),((0:Nat):Int)⟩:Wire)∈zh9 p:=jr2 h
theorem zh1{kind:Int}{i k:Nat}(h:(⟨kind,(i:Int),(k:Int)⟩:Wire)∈zh9 p)(gs:Gs):NdB (mP p) gs (inp p kind i k):=by
 have:=(zm8 h).1
 unfold NdB inp mP
 constructor<;>omega
theorem ygs(h:PrOk p):InOk (ctP p) (inp p) (mP p):=⟨fun i k hi hk=>by
 have hi':i<p.regs.length:=by simpa[ctP]using hi
 have e:nth (ctP p).regs i=(nth p.regs i).w:=zt4 hi'
 rw[e]at hk
 have:=zh1 (in1 hi' hk) []
 exact⟨this.1,by have:=this.2;simpa using this⟩⟩
theorem mP2:2≤mP p:=by unfold mP;omega
theorem jui{i:Nat}(h:i<p.takes.length):nth (ctP p).takes i=(nth p.takes i).w:=zt4 h
structure TkOk (p:Pr) (k:Nat) (s:Fi):Prop where
 gi:GI (mP p) s.gs
 len:s.gs.length≤cTP p k
 tl:s.takes.length=k
 tn:∀i,i<k→NdB (mP p) s.gs (nth s.takes i)
 dl:s.data.length=k
 dw:∀i,i<k→(nth s.data i).length=(nth p.takes i).w
 dn:∀i,i<k→∀j,j<(nth p.takes i).w→NdB (mP p) s.gs (nth (nth s.data i) j)
theorem zeg{α:Type}[Inhabited α]{l:List α}{x:α}{i k:Nat}(hl:l.length=k)(hi:i<k+1):(i<k∧nth (l++[x]) i=nth l i)∨(i=k∧nth (l++[x]) i=x):=by
 by_cases h:i<k
 ·exact .inl ⟨h,zsl (by omega)⟩
 ·have:i=l.length:=by omega
  exact .inr ⟨by omega,by rw[this,jxh]⟩
structure TkS (p:Pr) (k:Nat) (s:Fi) (r:Gs × List Int):Prop where
 b:Bs (mP p) (za8 (ctP p) (nth p.takes k).wh) 1 s.gs r
 t:Bs (mP p) (1*(nth p.takes k).w) (nth p.takes k).w r.1 (zbu (fun gs i=>zdn (mP p) gs (nth r.2 0) (inp p 2 k i)) r.1 (nth p.takes k).w)
theorem jjp(h:PrOk p){k:Nat}(hk:k<p.takes.length){s:Fi}(hs:TkOk p k s):TkS p k s (zci p s.data s.gs (nth p.takes k).wh):=by
 have hw:=h.tw k hk
 have hb:=zc9 (q:=false) (data:=s.data) mP2 h.ct (ygs h) (nth p.takes k).wh hs.gi (DaOk.mk (by intro e;cases e) (by intro e;cases e) (by intro e;cases e)) hw.1
 rw[hw.2]at hb
 exact⟨hb,zc3 hb.gi fun i hi gs' hp hg=>zfy mP2 hg (hb.at hp (by decide)) (zh1 (in2 hk hi) _)⟩
theorem zgc(h:PrOk p):∀k,k≤p.takes.length→TkOk p k (zc0 p k)
 |0,_=>⟨GI.nil _,by simp[zc0],rfl,fun i hi=>by omega,rfl,fun i hi=>by omega,fun i hi=>by omega⟩
 |k+1,hk=>by
  have ih:=zgc h k (by omega)
  obtain⟨hb,ht⟩:=jjp h (show k<p.takes.length by omega) ih
  simp only[zc0]
  generalize zc0 p k=s at *
  generalize zci p s.data s.gs (nth p.takes k).wh=r at *
  generalize zbu (fun gs i=>zdn (mP p) gs (nth r.2 0) (inp p 2 k i)) r.1 (nth p.takes k).w=t at *
  have hpt:=hb.pre.trans ht.pre
  refine⟨ht.gi,?_,by simp[ih.tl],fun i hi=>?_,by simp[ih.dl],fun i hi=>?_,fun i hi j hj=>?_⟩
  ·have h1:=ih.len;have h2:=hb.len;have h3:=ht.len
   rw[cTP];simp only;omega
  ·rcases zeg (x:=nth r.2 0) ih.tl hi with⟨hl,e⟩|⟨hl,e⟩
   ·simp only;rw[e];exact(ih.tn i hl).pre hpt
   ·simp only;rw[e];exact hb.at ht.pre (by decide)
  ·rcases zeg (x:=t.2) ih.dl hi with⟨hl,e⟩|⟨hl,e⟩
   ·simp only;rw[e];exact ih.dw i hl
   ·simp only;rw[e,hl];exact ht.wid
  ·rcases zeg (x:=t.2) ih.dl hi with⟨hl,e⟩|⟨hl,e⟩
   ·simp only;rw[e];exact(ih.dn i hl j hj).pre hpt
   ·simp only;rw[e];subst hl;exact ht.nd j hj
theorem jm4(h:PrOk p){gs:Gs}(hp:(zc0 p p.takes.length).gs<+:gs):DaOk (ctP p) true (mP p) gs (zbb p):=by
 have ht:=zgc h _ (qao _)
 refine⟨fun _=>by show(zc0 p p.takes.length).data.length=_;rw[ht.dl];simp[ctP],fun _ i hi=>?_,fun _ i hi k hk=>?_⟩
 ·have hi':i<p.takes.length:=by simpa[ctP]using hi
  rw[jui hi'];exact ht.dw i hi'
 ·have hi':i<p.takes.length:=by simpa[ctP]using hi
  rw[jui hi']at hk
  exact(ht.dn i hi' k hk).pre hp
theorem jr3(h:PrOk p){gs:Gs}(hg:GI (mP p) gs)(hp:(zc0 p p.takes.length).gs<+:gs){e:Ex}(ht:WT (ctP p) true e):Bs (mP p) (za8 (ctP p) e) (za7 (ctP p) e) gs (zci p (zbb p) gs e):=
 zc9 mP2 h.ct (ygs h) e hg (jm4 h hp) ht
structure PtOk (p:Pr) (k:Nat) (s:Fq):Prop where
 pre:(zc0 p p.takes.length).gs<+:s.gs
 gi:GI (mP p) s.gs
 len:s.gs.length≤cQP p k
 ql:s.puts.length=k
 qn:∀i,i<k→NdB (mP p) s.gs (nth s.puts i)
theorem juj(h:PrOk p){k:Nat}(hk:k<p.puts.length){s:Fq}(hs:PtOk p k s):Bs (mP p) (za8 (ctP p) (nth p.puts k).wh) 1 s.gs (zci p (zbb p) s.gs (nth p.puts k).wh):=by
 have:=jr3 h hs.gi hs.pre (h.qw k hk).1
 rwa[(h.qw k hk).2]at this
theorem zhn(h:PrOk p):∀k,k≤p.puts.length→PtOk p k (zl3 p k)
 |0,_=>by
  have ht:=zgc h _ (qao _)
  exact⟨List.prefix_refl _,ht.gi,ht.len,rfl,fun i hi=>by omega⟩
 |k+1,hk=>by
  have ih:=zhn h k (by omega)
  have hb:=juj h (show k<p.puts.length by omega) ih
  unfold zbb at hb
  simp only[zl3]
  generalize zl3 p k=s at *
  generalize zci p (zc0 p p.takes.length).data s.gs (nth p.puts k).wh=r at *
  refine⟨ih.pre.trans hb.pre,hb.gi,?_,by simp[ih.ql],fun i hi=>?_⟩
  ·have h1:=ih.len;have h2:=hb.len
   rw[cQP];simp only;omega
  ·rcases zeg (x:=nth r.2 0) ih.ql hi with⟨hl,e⟩|⟨hl,e⟩
   ·simp only;rw[e];exact(ih.qn i hl).pre hb.pre
   ·simp only;rw[e];exact hb.nd 0 (by decide)
theorem zzb{m:Nat}{gs:Gs}{f d x:Int}(h2:2≤m)(h:GI m gs)(hf:NdB m gs f)(hd:NdB m gs d)(hx:NdB m gs x):Rs m 3 gs (zu3 m gs f d x):=by
 have hn:=zer h2 h hd
 have ho:=zw0 h2 hn.gi hn.nd (hx.pre hn.pre)
 have ha:=zfy h2 ho.gi (hf.pre (hn.pre.trans ho.pre)) ho.nd
 exact((hn.trans ho).trans ha).mono (by omega)
theorem zqp(h:PrOk p):∀k,k≤p.takes.length→Rs (mP p) (3*k) (zl3 p p.puts.length).gs (zi6 p k)
 |0,_=>Rs.same (zhn h _ (qao _)).gi ⟨by decide,by have:=@mP2 p;omega⟩
 |k+1,hk=>by
  have ih:=zqp h k (by omega)
  have hq:=zhn h _ (qao _)
  have ht:=zgc h _ (qao _)
  exact(ih.trans (zzb mP2 ih.gi ih.nd ((ht.tn k (by omega)).pre (hq.pre.trans ih.pre)) (zh1 (in3 (by omega)) _))).mono (by omega)
theorem zfr(h:PrOk p):∀k,k≤p.puts.length→Rs (mP p) (3*p.takes.length+3*k) (zl3 p p.puts.length).gs (zi7 p k)
 |0,_=>zqp h _ (qao _)
 |k+1,hk=>by
  have ih:=zfr h k (by omega)
  have hq:=zhn h _ (qao _)
  exact(ih.trans (zzb mP2 ih.gi ih.nd ((hq.qn k (by omega)).pre ih.pre) (zh1 (in4 (by omega)) _))).mono (by omega)
structure OsOk (p:Pr) (n:Nat) (s:Os):Prop where
 pre:(zi7 p p.puts.length).1<+:s.gs
 gi:GI (mP p) s.gs
 len:s.gs.length≤n
 ol:s.out.length=s.dr.length
 dn:∀i,i<s.dr.length→NdB (mP p) s.gs (nth s.dr i)
section
variable {n:Nat} {s:Os}
theorem OsOk.tp(h:PrOk p)(hs:OsOk p n s):(zc0 p p.takes.length).gs<+:s.gs:=(zhn h _ (qao _)).pre.trans ((zfr h _ (qao _)).pre.trans hs.pre)
theorem OsOk.bits(h:PrOk p)(hs:OsOk p n s){gs:Gs}(hp:s.gs<+:gs)(hg:GI (mP p) gs){e:Ex}(ht:WT (ctP p) true e):Bs (mP p) (za8 (ctP p) e) (za7 (ctP p) e) gs (zci p (zbb p) gs e):=jr3 h hg ((hs.tp h).trans hp) ht
theorem OsOk.fire(h:PrOk p)(hs:OsOk p n s){gs:Gs}(hp:s.gs<+:gs):NdB (mP p) gs (zcs p):=(zfr h _ (qao _)).nd.pre (hs.pre.trans hp)
theorem OsOk.dueT(h:PrOk p)(hs:OsOk p n s){gs:Gs}(hp:s.gs<+:gs){i:Nat}(hi:i<p.takes.length):NdB (mP p) gs (nth (zfz p) i):=((zgc h _ (qao _)).tn i hi).pre ((hs.tp h).trans hp)
theorem OsOk.dueQ(h:PrOk p)(hs:OsOk p n s){gs:Gs}(hp:s.gs<+:gs){i:Nat}(hi:i<p.puts.length):NdB (mP p) gs (nth (ze4 p) i):=((zhn h _ (qao _)).qn i hi).pre ((zfr h _ (qao _)).pre.trans (hs.pre.trans hp))
theorem OsOk.app(hs:OsOk p n s){k:Nat}{gs:Gs}{o:List Wire}{d:List Int}(hp:s.gs<+:gs)(hg:GI (mP p) gs)(hl:gs.length≤k)(ho:o.length=d.length)(hd:∀i,i<d.length→NdB (mP p) gs (nth d i)):OsOk p k ⟨gs,s.out++o,s.dr++d⟩:=by
 refine⟨hs.pre.trans hp,hg,hl,by simp[hs.ol,ho],fun i hi=>?_⟩
 simp only at hi ⊢
 by_cases h:i<s.dr.length
 ·rw[zsl h];exact(hs.dn i h).pre hp
 ·rw[zw2 (by omega)];exact hd _ (by simp at hi;omega)
end
structure RgS (p:Pr) (i:Nat) (s:Os) (r:Gs × List Int):Prop where
 b:Bs (mP p) (za8 (ctP p) (nth p.regs i).next) (nth p.regs i).w s.gs r
 t:Bs (mP p) (2*(nth p.regs i).w) (nth p.regs i).w r.1 (zbu (fun gs k=>zlf (mP p) gs (zcs p) (nth r.2 k) (inp p 1 i k)) r.1 (nth p.regs i).w)
theorem zrr(h:PrOk p){i n:Nat}{s:Os}(hi:i<p.regs.length)(hs:OsOk p n s):RgS p i s (zci p (zbb p) s.gs (nth p.regs i).next):=by
 have hb:=hs.bits h (List.prefix_refl _) hs.gi (h.rn i hi).1
 rw[(h.rn i hi).2]at hb
 exact⟨hb,zc3 hb.gi fun k hk gs' hp hg=>zt2 mP2 hg (hs.fire h (hb.pre.trans hp)) (hb.at hp hk) (zh1 (in1 hi hk) _)⟩
theorem zjs(h:PrOk p):∀i,i≤p.regs.length→OsOk p (cRP p i) (zet p i)
 |0,_=>by
  have hf:=zfr h _ (qao _)
  have hq:=zhn h _ (qao _)
  exact⟨List.prefix_refl _,hf.gi,by have:=hf.len;have:=hq.len;simp only[zet,cRP];omega,rfl,fun i hi=>by simp[zet]at hi⟩
 |i+1,hi=>by
  have ih:=zjs h i (by omega)
  obtain⟨hb,ht⟩:=zrr h (show i<p.regs.length by omega) ih
  simp only[zet]
  generalize zet p i=s at *
  generalize zci p (zbb p) s.gs (nth p.regs i).next=r at *
  rw[hb.wid]
  refine ih.app (hb.pre.trans ht.pre) ht.gi ?_ (by rw[zb3,ht.wid]) fun k hk=>ht.nd k (by rw[ht.wid]at hk;exact hk)
  have h1:=ih.len;have h2:=hb.len;have h3:=ht.len
  rw[cRP];omega
theorem zu5(h:PrOk p):∀i,i≤p.takes.length→OsOk p (cRP p p.regs.length+i) (zgm p i)
 |0,_=>zjs h _ (qao _)
 |i+1,hi=>by
  have ih:=zu5 h i (by omega)
  have ha:=zfy mP2 ih.gi (ih.fire h (List.prefix_refl _)) (ih.dueT h (List.prefix_refl _) (show i<p.takes.length by omega))
  simp only[zgm]
  exact ih.app ha.pre ha.gi (by have:=ha.len;have:=ih.len;omega) rfl (jjo ha.nd)
structure PuS (p:Pr) (i:Nat) (s:Os) (a:Re) (r:Gs × List Int):Prop where
 ha:Rs (mP p) 1 s.gs a
 hb:Bs (mP p) (za8 (ctP p) (nth p.puts i).da) (nth p.puts i).w a.1 r
 ht:Bs (mP p) (1*(nth p.puts i).w) (nth p.puts i).w r.1 (zbu (fun gs k=>zdn (mP p) gs a.2 (nth r.2 k)) r.1 (nth p.puts i).w)
theorem zrs(h:PrOk p){i n:Nat}{s:Os}(hi:i<p.puts.length)(hs:OsOk p n s):PuS p i s (zdn (mP p) s.gs (zcs p) (nth (ze4 p) i)) (zci p (zbb p) (zdn (mP p) s.gs (zcs p) (nth (ze4 p) i)).1 (nth p.puts i).da):=by
 have ha:=zfy mP2 hs.gi (hs.fire h (List.prefix_refl _)) (hs.dueQ h (List.prefix_refl _) hi)
 have hb:=hs.bits h ha.pre ha.gi (h.qd i hi).1
 rw[(h.qd i hi).2]at hb
 exact⟨ha,hb,zc3 hb.gi fun k hk gs' hp hg=>zfy mP2 hg (ha.nd.pre (hb.pre.trans hp)) (hb.at hp hk)⟩
theorem zjt(h:PrOk p):∀i,i≤p.puts.length→OsOk p (cUP p i) (zf0 p i)
 |0,_=>zu5 h _ (qao _)
 |i+1,hi=>by
  have ih:=zjt h i (by omega)
  obtain⟨ha,hb,ht⟩:=zrs h (show i<p.puts.length by omega) ih
  simp only[zf0]
  generalize zf0 p i=s at *
  generalize zdn (mP p) s.gs (zcs p) (nth (ze4 p) i)=a at *
  generalize zci p (zbb p) a.1 (nth p.puts i).da=r at *
  rw[hb.wid,List.append_assoc,List.append_assoc]
  refine ih.app (ha.pre.trans (hb.pre.trans ht.pre)) ht.gi ?_ (by simp[zb3,ht.wid]) fun k hk=>?_
  ·have h1:=ih.len;have h2:=hb.len;have h3:=ht.len;have h4:=ha.len
   rw[cUP];omega
  ·simp only[List.length_append,List.length_cons,List.length_nil,ht.wid]at hk
   by_cases e:k=0
   ·subst e;exact ha.nd.pre (hb.pre.trans ht.pre)
   ·rw[zw2 (by simp only[List.length_cons,List.length_nil];omega)];exact ht.nd _ (by simp only[List.length_cons,List.length_nil];omega)
structure MeS (p:Pr) (i:Nat) (s:Os) (e:Gs × List Int) (a:Re) (d w:Gs × List Int):Prop where
 he:Bs (mP p) (za8 (ctP p) (nth p.mems i).en) 1 s.gs e
 ha:Rs (mP p) 1 e.1 a
 hd:Bs (mP p) (za8 (ctP p) (nth p.mems i).ad) (za7 (ctP p) (nth p.mems i).ad) a.1 d
 hw:Bs (mP p) (za8 (ctP p) (nth p.mems i).da) (nth p.mems i).w d.1 w
theorem zrt(h:PrOk p){i n:Nat}{s:Os}(hi:i<p.mems.length)(hs:OsOk p n s){e:Gs × List Int}{a:Re}{d w:Gs × List Int}(he:e=zci p (zbb p) s.gs (nth p.mems i).en)(ha:a=zdn (mP p) e.1 (zcs p) (nth e.2 0))(hd:d=zci p (zbb p) a.1 (nth p.mems i).ad)(hw:w=zci p (zbb p) d.1 (nth p.mems i).da):MeS p i s e a d w:=by
 have h1:=hs.bits h (List.prefix_refl _) hs.gi (h.me i hi).1
 rw[(h.me i hi).2,←he]at h1
 have h2:=zfy mP2 h1.gi (hs.fire h h1.pre) (h1.nd 0 (by decide))
 rw[←ha]at h2
 have h3:=hs.bits h (h1.pre.trans h2.pre) h2.gi (h.ma i hi)
 rw[←hd]at h3
 have h4:=hs.bits h (h1.pre.trans (h2.pre.trans h3.pre)) h3.gi (h.md i hi).1
 rw[(h.md i hi).2,←hw]at h4
 exact⟨h1,h2,h3,h4⟩
theorem ze5(l:List Int)(n:Nat):(zhu l n).length=3:=by simp[zhu]
theorem zgv(h:PrOk p):∀i,i≤p.mems.length→OsOk p (cMP p i) (zd4 p i)
 |0,_=>zjt h _ (qao _)
 |i+1,hi=>by
  have ih:=zgv h i (by omega)
  simp only[zd4]
  generalize zd4 p i=s at *
  generalize he:zci p (zbb p) s.gs (nth p.mems i).en=e
  generalize ha:zdn (mP p) e.1 (zcs p) (nth e.2 0)=a
  generalize hd:zci p (zbb p) a.1 (nth p.mems i).ad=d
  generalize hw:zci p (zbb p) d.1 (nth p.mems i).da=w
  obtain⟨h1,h2,h3,h4⟩:=zrt h (show i<p.mems.length by omega) ih he.symm ha.symm hd.symm hw.symm
  rw[h4.wid,List.append_assoc,List.append_assoc,List.append_assoc,List.append_assoc]
  refine ih.app (h1.pre.trans (h2.pre.trans (h3.pre.trans h4.pre))) h4.gi ?_ (by simp[zb3,h4.wid,ze5]) fun k hk=>?_
  ·have l1:=ih.len;have l2:=h1.len;have l3:=h2.len;have l4:=h3.len;have l5:=h4.len
   rw[cMP];omega
  ·simp only[List.length_append,List.length_cons,List.length_nil,h4.wid,ze5]at hk
   by_cases e0:k=0
   ·subst e0;exact h2.nd.pre (h3.pre.trans h4.pre)
   ·rw[zw2 (by simp only[List.length_cons,List.length_nil];omega)]
    simp only[List.length_cons,List.length_nil]
    by_cases e1:k - (0+1)<3
    ·rw[zsl (by rw[ze5];exact e1)]
     exact(zt3 mP2 (fun j hj=>h3.nd j (by rw[h3.wid]at hj;exact hj)) e1).pre h4.pre
    ·rw[zw2 (by rw[ze5];omega),ze5]
     exact h4.nd _ (by omega)
end
theorem zru{f:Nat→Nat}(h:∀k,f k≤f (k+1)){a b:Nat}(hab:a≤b):f a≤f b:=by
 induction b with
 |zero=>
   have:a=0:=by omega
   subst this;exact qao _
 |succ b ih=>
  by_cases e:a=b+1
  ·subst e;exact qao _
  ·exact Nat.le_trans (ih (by omega)) (h b)
section
variable {p:Pr}
theorem jjq{k:Nat}(hk:k≤p.mems.length):cMP p k≤zoe p:=zru (fun k=>by rw[cMP];omega) hk
theorem jjr{k:Nat}(hk:k≤p.puts.length):cUP p k≤zoe p:=Nat.le_trans (zru (fun k=>by rw[cUP];omega) hk) (jjq (k:=0) (by omega))
theorem jd1{k:Nat}(hk:k≤p.regs.length):cRP p k≤zoe p:=Nat.le_trans (zru (fun k=>by rw[cRP];omega) hk) (Nat.le_trans (by rw[cUP];omega) (jjr (k:=0) (by omega)))
theorem jjs{k:Nat}(hk:k≤p.puts.length):cQP p k≤zoe p:=Nat.le_trans (zru (fun k=>by rw[cQP];omega) hk) (Nat.le_trans (by rw[cRP];omega) (jd1 (k:=0) (by omega)))
theorem ybb{k:Nat}(hk:k≤p.takes.length):cTP p k≤zoe p:=Nat.le_trans (zru (fun k=>by rw[cTP];omega) hk) (Nat.le_trans (by rw[cQP];omega) (jjs (k:=0) (by omega)))
end
end
theorem yh4{n:Int}(h:I64 n):(Lit.int .i64 n).wf=true:=by
 obtain⟨h1,h2⟩:=h
 simp[Lit.wf];exact⟨h1,by omega⟩
theorem zgd{P:Program}{e:TypeId}(hu:P.underlying e=some (.int .i64)){n:Int}(hn:I64 n)(d:Nat):P.keyLits (d+1) e [.int .i64 n]=some [.int .i64 n]:=by
 simp[Program.keyLits,hu,yh4 hn]
theorem zqq{n:Nat}(h:Nat.ble 1 n=true):∃d,n=d+1:=⟨n - 1,by have:=qaf h;omega⟩
theorem zh2{n:Int}(h0: -1000000000000≤n)(h1:n≤1000000000000):I64 n:=⟨by omega,by omega⟩
def eV(a b:Int):Value:=.agg #[.int .i64 a,.int .i64 b]
def wV(w:Wire):Value:=.agg #[.int .i64 w.kind,.int .i64 w.i,.int .i64 w.bit]
def gV(g:Gate):Value:=.agg #[.int .i64 g.op,.int .i64 g.a,.int .i64 g.b,.int .i64 g.c,.int .i64 g.n]
theorem jr4{a b a' b':Int}(h:eV a b=eV a' b'):a=a'∧b=b':=by
 unfold eV at h
 injection h with h
 have h':=congrArg Array.toList h
 simpa using h'
theorem ybc{a b:Wire}(h:wV a=wV b):a=b:=by
 unfold wV at h
 injection h with h
 have h':=congrArg Array.toList h
 cases a;cases b
 simpa using h'
theorem ybd{a b:Gate}(h:gV a=gV b):a=b:=by
 unfold gV at h
 injection h with h
 have h':=congrArg Array.toList h
 cases a;cases b
 simpa using h'
theorem zw3{a b:Int}(ha:I64 a)(hb:I64 b):zk8 prog 287 (.agg #[.int .i64 a,.int .i64 b]):=by
 refine⟨rfl,fun kt et hm=>?_⟩
 have h0:zj6 prog 287=some (290,4):=by kernel_rfl
 rw[h0]at hm;cases hm
 obtain⟨nn,hnn⟩:∃nn,prog.types.size=nn+1:=zqq (by kernel_rfl)
 have h1:prog.keyType 290=true:=by kernel_rfl
 have h2:prog.cellsOf 290=2:=by kernel_rfl
 have h3:prog.cellsOf 3=1:=by kernel_rfl
 unfold keyOf
 rw[underlying290]
 have h4:Value.formed prog 290 (.agg #[.int .i64 a,.int .i64 b])=true:=by
  unfold Value.formed
  simp only[underlying290,h2];rfl
 simp only[h1,h4,Bool.and_self,if_true,hnn]
 unfold Program.keyLits
 simp only[underlying290,h2,h3,Value.cells,List.mapM_cons,List.mapM_nil,List.drop_zero,List.drop_succ_cons,List.take_succ_cons,List.take_zero,zgd underlying3 ha,zgd underlying3 hb]
 rw[if_pos ⟨rfl,by first|rfl|decide|simp⟩];rfl
theorem zt5{a b:Int}(ha:I64 a)(hb:I64 b):zk8 prog 288 (.agg #[.int .i64 a,.int .i64 b]):=by
 refine⟨rfl,fun kt et hm=>?_⟩
 have h0:zj6 prog 288=some (290,3):=by kernel_rfl
 rw[h0]at hm;cases hm
 obtain⟨nn,hnn⟩:∃nn,prog.types.size=nn+1:=zqq (by kernel_rfl)
 have h1:prog.keyType 290=true:=by kernel_rfl
 have h2:prog.cellsOf 290=2:=by kernel_rfl
 have h3:prog.cellsOf 3=1:=by kernel_rfl
 unfold keyOf
 rw[underlying290]
 have h4:Value.formed prog 290 (.agg #[.int .i64 a,.int .i64 b])=true:=by
  unfold Value.formed
  simp only[underlying290,h2];rfl
 simp only[h1,h4,Bool.and_self,if_true,hnn]
 unfold Program.keyLits
 simp only[underlying290,h2,h3,Value.cells,List.mapM_cons,List.mapM_nil,List.drop_zero,List.drop_succ_cons,List.take_succ_cons,List.take_zero,zgd underlying3 ha,zgd underlying3 hb]
 rw[if_pos ⟨rfl,by first|rfl|decide|simp⟩];rfl
theorem zw4{a b c:Int}(ha:I64 a)(hb:I64 b)(hc:I64 c):zk8 prog 189 (.agg #[.int .i64 a,.int .i64 b,.int .i64 c]):=by
 refine⟨rfl,fun kt et hm=>?_⟩
 have h0:zj6 prog 189=some (121,3):=by kernel_rfl
 rw[h0]at hm;cases hm
 obtain⟨nn,hnn⟩:∃nn,prog.types.size=nn+1:=zqq (by kernel_rfl)
 have h1:prog.keyType 121=true:=by kernel_rfl
 have h2:prog.cellsOf 121=3:=by kernel_rfl
 have h3:prog.cellsOf 3=1:=by kernel_rfl
 unfold keyOf
 rw[underlying121]
 have h4:Value.formed prog 121 (.agg #[.int .i64 a,.int .i64 b,.int .i64 c])=true:=by
  unfold Value.formed
  simp only[underlying121,h2];rfl
 simp only[h1,h4,Bool.and_self,if_true,hnn]
 unfold Program.keyLits
 simp only[underlying121,h2,h3,Value.cells,List.mapM_cons,List.mapM_nil,List.drop_zero,List.drop_succ_cons,List.take_succ_cons,List.take_zero,zgd underlying3 ha,zgd underlying3 hb,zgd underlying3 hc]
 rw[if_pos ⟨rfl,by first|rfl|decide|simp⟩];rfl
theorem ybe{a b c d e:Int}(ha:I64 a)(hb:I64 b)(hc:I64 c)(hd:I64 d)(he:I64 e):zk8 prog 188 (.agg #[.int .i64 a,.int .i64 b,.int .i64 c,.int .i64 d,.int .i64 e]):=by
 refine⟨rfl,fun kt et hm=>?_⟩
 have h0:zj6 prog 188=some (123,3):=by kernel_rfl
 rw[h0]at hm;cases hm
 obtain⟨nn,hnn⟩:∃nn,prog.types.size=nn+1:=zqq (by kernel_rfl)
 have h1:prog.keyType 123=true:=by kernel_rfl
 have h2:prog.cellsOf 123=5:=by kernel_rfl
 have h3:prog.cellsOf 3=1:=by kernel_rfl
 unfold keyOf
 rw[underlying123]
 have h4:Value.formed prog 123 (.agg #[.int .i64 a,.int .i64 b,.int .i64 c,.int .i64 d,.int .i64 e])=true:=by
  unfold Value.formed
  simp only[underlying123,h2];rfl
 simp only[h1,h4,Bool.and_self,if_true,hnn]
 unfold Program.keyLits
 simp only[underlying123,h2,h3,Value.cells,List.mapM_cons,List.mapM_nil,List.drop_zero,List.drop_succ_cons,List.take_succ_cons,List.take_zero,zgd underlying3 ha,zgd underlying3 hb,zgd underlying3 hc,zgd underlying3 hd,zgd underlying3 he]
 rw[if_pos ⟨rfl,by first|rfl|decide|simp⟩];rfl
end Go.Proofs.YtapjobndmmkanaaGreat
