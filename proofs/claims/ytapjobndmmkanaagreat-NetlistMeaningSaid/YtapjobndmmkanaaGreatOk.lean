/- The builder of netlists, as functions; what it keeps. -/
import Derived.Test.YtapjobndmmkanaaGreatDb
import Derived.Test.YtapjobndmmkanaaGreatTy
import Derived.Test.YtapjobndmmkanaaGreatAZ
set_option linter.unusedVariables false
set_option linter.unusedSimpArgs false
namespace Go.Proofs.YtapjobndmmkanaaGreat
open Go.Proofs.Tryz
open Go Go.RowKit
section
instance:DecidableEq Gate:=fun⟨a1,a2,a3,a4,a5⟩ ⟨b1,b2,b3,b4,b5⟩=>
 if h:a1=b1∧a2=b2∧a3=b3∧a4=b4∧a5=b5 then isTrue (by obtain⟨h1,h2,h3,h4,h5⟩:=h;subst h1 h2 h3 h4 h5;rfl)
 else isFalse fun e=>h (by cases e;exact⟨rfl,rfl,rfl,rfl,rfl⟩)
abbrev Gs:=List Gate
def sv(g:Gate):Gs→Nat
 |[]=>0
 |x::l=>if x=g then 0 else sv g l+1
theorem ML{g:Gate}:∀{l:Gs},g∈l→sv g l<l.length∧nth l (sv g l)=g
 |[],h=>by cases h
 |x::l,h=>by
  rw[sv]
  by_cases e:x=g
  ·rw[if_pos e];exact⟨by simp,by simpa[nth]using e⟩
  ·rw[if_neg e]
   have hl:g∈l:=by
    rcases List.mem_cons.1 h with h|h
    ·exact absurd h.symm e
    ·exact h
   obtain⟨h1,h2⟩:=ML hl
   exact⟨by simpa using h1,by simpa[nth]using h2⟩
theorem jep{g:Gate}:∀{l m:Gs},g∈l→sv g (l++m)=sv g l
 |[],_,h=>by cases h
 |x::l,m,h=>by
  rw[List.cons_append,sv,sv]
  by_cases e:x=g
  ·rw[if_pos e,if_pos e]
  ·rw[if_neg e,if_neg e]
   have hl:g∈l:=by
    rcases List.mem_cons.1 h with h|h
    ·exact absurd h.symm e
    ·exact h
   rw[jep hl]
theorem jeq{g:Gate}:∀{l:Gs},¬g∈l→sv g (l++[g])=l.length
 |[],_=>by simp[sv]
 |x::l,h=>by
  rw[List.cons_append,sv,if_neg (fun e=>h (by simp[e])),jeq (fun h'=>h (wq _ h'))];rfl
abbrev Re:=Gs × Int
def gX(m:Nat)(gs:Gs)(g:Gate):Re:=if g∈gs then(gs,((m+sv g gs:Nat):Int))else(gs++[g],((m+gs.length:Nat):Int))
def iM(m:Nat)(gs:Gs)(x:Int):Int:=if(m:Int)≤x∧(nth gs (x - m).toNat).op=1 then(nth gs (x - m).toNat).a else -1
def kZ(m:Nat)(gs:Gs)(x y:Int):Bool:=decide (iM m gs x=y)||decide (iM m gs y=x)
def dW(m:Nat)(gs:Gs)(x:Int):Re:=if x<2 then(gs,1 - x)else if 0≤iM m gs x then(gs,iM m gs x)else gX m gs ⟨1,x,0,0,0⟩
def CA(m:Nat)(gs:Gs)(x y:Int):Re:=if x=0∨kZ m gs x y=true then(gs,0)else if x=1∨x=y then(gs,y)else gX m gs ⟨2,x,y,0,0⟩
def du(m:Nat)(gs:Gs)(x y:Int):Re:=CA m gs (min x y) (max x y)
def Cj(m:Nat)(gs:Gs)(x y:Int):Re:=if x=1∨kZ m gs x y=true then(gs,1)else if x=0∨x=y then(gs,y)else gX m gs ⟨3,x,y,0,0⟩
def ko(m:Nat)(gs:Gs)(x y:Int):Re:=Cj m gs (min x y) (max x y)
def Cz(m:Nat)(gs:Gs)(x y:Int):Re:=if x=0 then(gs,y)else if x=1 then dW m gs y else if x=y then(gs,0)else if kZ m gs x y=true then(gs,1)else gX m gs ⟨4,x,y,0,0⟩
def iq(m:Nat)(gs:Gs)(x y:Int):Re:=Cz m gs (min x y) (max x y)
def jF(m:Nat)(gs:Gs)(x y z:Int):Re:=
 if x=0 then(gs,z)else if x=1∨y=z then(gs,y)else if y=1 then ko m gs x z else if z=0 then du m gs x y
 else if y=0 then(let n:=dW m gs x;du m n.1 n.2 z)else if z=1 then(let n:=dW m gs x;ko m n.1 n.2 y)else gX m gs ⟨5,x,y,z,0⟩
def Cy(m:Nat)(gs:Gs)(x y z:Int):Re:=if x=0 then du m gs y z else if x=1 then ko m gs y z else if x=y∨y=z then(gs,y)else gX m gs ⟨6,x,y,z,0⟩
def GQ(x y z:Int):Int:=min (min x y) z
def Bx(x y z:Int):Int:=max (max x y) z
def um(m:Nat)(gs:Gs)(x y z:Int):Re:=Cy m gs (GQ x y z) (x+y+z - GQ x y z - Bx x y z) (Bx x y z)
def dh(st:Gs→Nat→Re)(gs:Gs):Nat→Gs × List Int
 |0=>(gs,[])
 |k+1=>let s:=dh st gs k;let r:=st s.1 k;(r.1,s.2++[r.2])
theorem MK{st:Gs→Nat→Re}{gs:Gs}:∀k,(dh st gs k).2.length=k
 |0=>rfl
 |k+1=>by simp[dh,MK k]
def DX(o:Int)(m:Nat)(gs:Gs)(x y:Int):Re:=if o=3 then du m gs x y else if o=4 then ko m gs x y else iq m gs x y
structure Sm where
 gs:Gs
 c:Int
 l:List Int
def gO(m:Nat)(gs:Gs)(x y:List Int)(c:Int):Nat→Sm
 |0=>⟨gs,c,[]⟩
 |k+1=>
  let s:=gO m gs x y c k
  let a:=iq m s.gs (nth x k) (nth y k)
  let b:=iq m a.1 a.2 s.c
  if k+1<x.length then(let d:=um m b.1 (nth x k) (nth y k) s.c;⟨d.1,d.2,s.l++[b.2]⟩)else⟨b.1,s.c,s.l++[b.2]⟩
def nR(m:Nat)(gs:Gs)(x y:List Int):Nat→Re
 |0=>(gs,1)
 |k+1=>let s:=nR m gs x y k;let a:=iq m s.1 (nth x k) (nth y k);let n:=dW m a.1 a.2;du m n.1 s.2 n.2
def nJ(m:Nat)(gs:Gs)(x y:List Int):Nat→Re
 |0=>(gs,1)
 |k+1=>let s:=nJ m gs x y k;let n:=dW m s.1 (nth y k);um m n.1 (nth x k) n.2 s.2
inductive Ex where
 |lM (v w:Nat)
 |fe (i:Nat)
 |dZ (i:Nat)
 |not (a:Ex)
 |two (o:Int) (a b:Ex)
 |add (a b:Ex)
 |sub (a b:Ex)
 |eq (a b:Ex)
 |lt (a b:Ex)
 |lU (a b c:Ex)
 |cat (a b:Ex)
 |mT (k w:Nat) (a:Ex)
 |ext (w:Nat) (a:Ex)
 |rd (k:Nat) (a:Ex)
 deriving Inhabited
structure Ct where
 ag:List Nat
 ae:List Nat
 mems:List (Nat × Nat)
def gS(l:List Int)(words:Nat):List Int:=(List.range 3).map fun k=>if k<l.length∧2^k<words then nth l k else 0
def cK(c:Ct)(bL:Int→Nat→Nat→Int)(m:Nat)(data:List (List Int)):Gs→Ex→Gs × List Int
 |gs,.lM v w=>(gs,(List.range w).map fun i=>((v / 2^i % 2:Nat):Int))
 |gs,.fe i=>(gs,(List.range (nth c.ag i)).map fun k=>bL 1 i k)
 |gs,.dZ i=>(gs,nth data i)
 |gs,.not a=>let r:=cK c bL m data gs a;dh (fun gs i=>dW m gs (nth r.2 i)) r.1 r.2.length
 |gs,.two o a b=>let r:=cK c bL m data gs a;let s:=cK c bL m data r.1 b;dh (fun gs i=>DX o m gs (nth r.2 i) (nth s.2 i)) s.1 r.2.length
 |gs,.add a b=>let r:=cK c bL m data gs a;let s:=cK c bL m data r.1 b;let t:=gO m s.1 r.2 s.2 0 r.2.length;(t.gs,t.l)
 |gs,.sub a b=>let r:=cK c bL m data gs a;let s:=cK c bL m data r.1 b;let n:=dh (fun gs i=>dW m gs (nth s.2 i)) s.1 s.2.length;let t:=gO m n.1 r.2 n.2 1 r.2.length;(t.gs,t.l)
 |gs,.eq a b=>let r:=cK c bL m data gs a;let s:=cK c bL m data r.1 b;let t:=nR m s.1 r.2 s.2 r.2.length;(t.1,[t.2])
 |gs,.lt a b=>let r:=cK c bL m data gs a;let s:=cK c bL m data r.1 b;let t:=nJ m s.1 r.2 s.2 r.2.length;let n:=dW m t.1 t.2;(n.1,[n.2])
 |gs,.lU a b d=>let r:=cK c bL m data gs a;let s:=cK c bL m data r.1 b;let t:=cK c bL m data s.1 d;dh (fun gs i=>jF m gs (nth r.2 0) (nth s.2 i) (nth t.2 i)) t.1 s.2.length
 |gs,.cat a b=>let r:=cK c bL m data gs a;let s:=cK c bL m data r.1 b;(s.1,s.2++r.2)
 |gs,.mT k w a=>let r:=cK c bL m data gs a;(r.1,(r.2.drop k).take w)
 |gs,.ext w a=>let r:=cK c bL m data gs a;(r.1,r.2++List.replicate (w - r.2.length) 0)
 |gs,.rd k a=>let r:=cK c bL m data gs a;let d:=gS r.2 (nth c.mems k).1;dh (fun gs i=>gX m gs ⟨7,nth d 0,nth d 1,nth d 2,((8*k+i:Nat):Int)⟩) r.1 (nth c.mems k).2
def br(m:Nat)(gs:Gs)(x:Int):Prop:=0≤x∧x<(m:Int)+gs.length
structure ya (lim:Int) (g:Gate):Prop where
 o1:1≤g.op
 o2:g.op≤7
 a0:0≤g.a
 a1:g.a<lim
 b0:0≤g.b
 b1:g.b<lim
 c0:0≤g.c
 c1:g.c<lim
 n0:0≤g.n
 n1:g.n<64
 nz:g.op≠7→g.n=0
 bz:g.op=1→g.b=0
 cz:g.op≤4→g.c=0
structure Dl (m:Nat) (gs:Gs) (g:Gate):Prop where
 nt:g.op=1→2≤g.a∧iM m gs g.a= -1
 tw:2≤g.op→g.op≤4→2≤g.a∧g.a<g.b∧iM m gs g.a≠g.b∧iM m gs g.b≠g.a
 mx:g.op=5→2≤g.a∧2≤g.b∧2≤g.c∧g.b≠g.c
 mj:g.op=6→2≤g.a∧g.a<g.b∧g.b<g.c
structure GI (m:Nat) (gs:Gs):Prop where
 rg:∀k,k<gs.length→ya ((m:Int)+k) (nth gs k)
 no:∀k,k<gs.length→Dl m gs (nth gs k)
 nd:gs.Nodup
theorem nQ{α:Type}[Inhabited α]{l t:List α}{k:Nat}(h:k<l.length):nth (l++t) k=nth l k:=by
 unfold nth;simp[gp,iI h]
theorem Eg{α:Type}[Inhabited α]{l:List α}{x:α}:nth (l++[x]) l.length=x:=by unfold nth;simp[gp]
theorem Mw{m:Nat}{gs t:Gs}{x:Int}(h:x<(m:Int)+gs.length):iM m (gs++t) x=iM m gs x:=by
 unfold iM
 by_cases hx:(m:Int)≤x
 ·rw[nQ (show(x - m).toNat<gs.length by omega)]
 ·rw[if_neg (fun e=>hx e.1),if_neg (fun e=>hx e.1)]
theorem br.pre{m:Nat}{gs cW:Gs}{x:Int}(h:br m gs x)(hp:gs<+:cW):br m cW x:=by
 have:=hp.length_le
 exact⟨h.1,by have:=h.2;omega⟩
theorem Dl.app{m:Nat}{gs t:Gs}{g:Gate}(h:Dl m gs g)(hr:ya ((m:Int)+gs.length) g):Dl m (gs++t) g:=by
 have ha:=hr.a1
 have hb:=hr.b1
 exact⟨fun e=>by rw[Mw ha];exact h.nt e,fun e f=>by rw[Mw ha,Mw hb];exact h.tw e f,h.mx,h.mj⟩
theorem ya.mono{a b:Int}{g:Gate}(h:ya a g)(vE:a≤b):ya b g:=by
 obtain⟨o1,o2,a0,a1,b0,b1,c0,c1,n0,n1,z1,z2,z3⟩:=h
 exact⟨o1,o2,a0,by omega,b0,by omega,c0,by omega,n0,n1,z1,z2,z3⟩
theorem GI.nil(m:Nat):GI m []:=⟨fun k h=>by simp at h,fun k h=>by simp at h,.nil⟩
theorem GI.snoc{m:Nat}{gs:Gs}{g:Gate}(h:GI m gs)(hr:ya ((m:Int)+gs.length) g)(hn:Dl m gs g)(hm:¬g∈gs):GI m (gs++[g]):=by
 refine⟨fun k hk=>?_,fun k hk=>?_,?_⟩
 ·by_cases hl:k<gs.length
  ·rw[nQ hl];exact h.rg k hl
  ·have:k=gs.length:=by simp at hk;omega
   subst this
   rw[Eg];exact hr
 ·by_cases hl:k<gs.length
  ·rw[nQ hl];exact(h.no k hl).app ((h.rg k hl).mono (by omega))
  ·have:k=gs.length:=by simp at hk;omega
   subst this
   rw[Eg];exact hn.app hr
 ·rw[List.nodup_append]
  exact⟨h.nd,by simp,fun a ha b hb e=>by simp at hb;subst hb;subst e;exact hm ha⟩
structure Rs (m n:Nat) (gs:Gs) (r:Re):Prop where
 pre:gs<+:r.1
 gi:GI m r.1
 len:r.1.length≤gs.length+n
 nd:br m r.1 r.2
theorem Rs.mono{m n k:Nat}{gs:Gs}{r:Re}(h:Rs m n gs r)(hk:n≤k):Rs m k gs r:=⟨h.pre,h.gi,by have:=h.len;omega,h.nd⟩
theorem Rs.same{m n:Nat}{gs:Gs}{x:Int}(h:GI m gs)(hx:br m gs x):Rs m n gs (gs,x):=⟨List.prefix_refl _,h,by simp,hx⟩
theorem ze{m:Nat}{gs:Gs}{g:Gate}(h:GI m gs)(hr:ya ((m:Int)+gs.length) g)(hn:Dl m gs g):Rs m 1 gs (gX m gs g):=by
 unfold gX
 by_cases hm:g∈gs
 ·rw[if_pos hm]
  have:=(ML hm).1
  exact Rs.same h ⟨by omega,by omega⟩
 ·rw[if_neg hm]
  exact⟨List.prefix_append _ _,h.snoc hr hn hm,by simp,by simp only;omega,by simp;omega⟩
theorem js1{m:Nat}{gs:Gs}{x:Int}(h:GI m gs)(hx:br m gs x):iM m gs x= -1∨(2≤iM m gs x∧iM m gs x<x∧iM m gs (iM m gs x)= -1):=by
 by_cases e:(m:Int)≤x∧(nth gs (x - m).toNat).op=1
 ·right
  have hk:(x - m).toNat<gs.length:=by have:=hx.2;omega
  have h1:=h.rg _ hk
  have h2:=(h.no _ hk).nt e.2
  have e1:iM m gs x=(nth gs (x - m).toNat).a:=by unfold iM;rw[if_pos e]
  have:=h1.a1
  rw[e1]
  exact⟨h2.1,by omega,h2.2⟩
 ·left;unfold iM;rw[if_neg e]
theorem oL{m:Nat}{gs:Gs}{x:Int}(h2:2≤m)(h:GI m gs)(hx:br m gs x):Rs m 1 gs (dW m gs x):=by
 unfold dW
 by_cases h1:x<2
 ·rw[if_pos h1];exact Rs.same h ⟨by have:=hx.1;omega,by have:=hx.1;omega⟩
 ·rw[if_neg h1]
  rcases js1 h hx with hi|⟨hi,hj,_⟩
  ·rw[if_neg (by omega)]
   have Qy:=hx.2
   exact ze h ⟨by simp,by simp,hx.1,Qy,by simp,by simp only;omega,by simp,by simp only;omega,by simp,by simp,fun _=>rfl,fun _=>rfl,fun _=>rfl⟩ ⟨fun _=>⟨by simp only;omega,hi⟩,fun a=>absurd a (by simp),fun a=>absurd a (by simp),fun a=>absurd a (by simp)⟩
  ·rw[if_pos (by omega)]
   exact Rs.same h ⟨by omega,by have:=hx.2;omega⟩
theorem Dv{m:Nat}{gs:Gs}{x y o:Int}(h2:2≤m)(o1:2≤o)(o2:o≤4)(hx:br m gs x)(hy:br m gs y):ya ((m:Int)+gs.length) ⟨o,x,y,0,0⟩:=
 ⟨by simp only;omega,by simp only;omega,hx.1,hx.2,hy.1,hy.2,by simp,by simp only;omega,by simp,by simp,fun _=>rfl,fun e=>absurd e (by simp only;omega),fun _=>rfl⟩
theorem PJ{m:Nat}{gs:Gs}{x y o:Int}(o1:2≤o)(o2:o≤4)(hx:2≤x)(qm:x<y)(hi:kZ m gs x y=false):Dl m gs ⟨o,x,y,0,0⟩:=by
 simp only[kZ,Bool.or_eq_false_iff,decide_eq_false_iff_not]at hi
 exact⟨fun e=>absurd e (by simp only;omega),fun _ _=>⟨hx,qm,hi.1,hi.2⟩,fun e=>absurd e (by simp only;omega),fun e=>absurd e (by simp only;omega)⟩
theorem yjy{m:Nat}{gs:Gs}{x y:Int}(h2:2≤m)(h:GI m gs)(hx:br m gs x)(hy:br m gs y)(qm:x≤y):Rs m 1 gs (CA m gs x y):=by
 unfold CA
 have x0:=hx.1
 by_cases h1:x=0∨kZ m gs x y=true
 ·rw[if_pos h1];exact Rs.same h ⟨by omega,by omega⟩
 ·rw[if_neg h1]
  by_cases h3:x=1∨x=y
  ·rw[if_pos h3];exact Rs.same h hy
  ·rw[if_neg h3]
   exact ze h (Dv h2 (by decide) (by decide) hx hy) (PJ (by decide) (by decide) (by omega) (by omega) (by simpa using fun e=>h1 (.inr e)))
theorem ype{m:Nat}{gs:Gs}{x y:Int}(h2:2≤m)(h:GI m gs)(hx:br m gs x)(hy:br m gs y)(qm:x≤y):Rs m 1 gs (Cj m gs x y):=by
 unfold Cj
 have x0:=hx.1
 by_cases h1:x=1∨kZ m gs x y=true
 ·rw[if_pos h1];exact Rs.same h ⟨by omega,by omega⟩
 ·rw[if_neg h1]
  by_cases h3:x=0∨x=y
  ·rw[if_pos h3];exact Rs.same h hy
  ·rw[if_neg h3]
   exact ze h (Dv h2 (by decide) (by decide) hx hy) (PJ (by decide) (by decide) (by omega) (by omega) (by simpa using fun e=>h1 (.inr e)))
theorem yjz{m:Nat}{gs:Gs}{x y:Int}(h2:2≤m)(h:GI m gs)(hx:br m gs x)(hy:br m gs y)(qm:x≤y):Rs m 1 gs (Cz m gs x y):=by
 unfold Cz
 have x0:=hx.1
 by_cases h1:x=0
 ·rw[if_pos h1];exact Rs.same h hy
 ·rw[if_neg h1]
  by_cases h3:x=1
  ·rw[if_pos h3];exact oL h2 h hy
  ·rw[if_neg h3]
   by_cases h4:x=y
   ·rw[if_pos h4];exact Rs.same h ⟨by omega,by omega⟩
   ·rw[if_neg h4]
    by_cases h5:kZ m gs x y=true
    ·rw[if_pos h5];exact Rs.same h ⟨by omega,by omega⟩
    ·rw[if_neg h5]
     exact ze h (Dv h2 (by decide) (by decide) hx hy) (PJ (by decide) (by decide) (by omega) (by omega) (by simpa using h5))
theorem y5{m:Nat}{gs:Gs}{x y:Int}(hx:br m gs x)(hy:br m gs y):br m gs (min x y):=by rcases Int.le_total x y with h|h<;>simp only[h,Int.min_eq_left,Int.min_eq_right]<;>assumption
theorem zc{m:Nat}{gs:Gs}{x y:Int}(hx:br m gs x)(hy:br m gs y):br m gs (max x y):=by rcases Int.le_total x y with h|h<;>simp only[h,Int.max_eq_left,Int.max_eq_right]<;>assumption
theorem EM(x y:Int):min x y≤max x y:=by omega
section
variable {m:Nat} {gs:Gs} {x y z:Int}
theorem qJ(h2:2≤m)(h:GI m gs)(hx:br m gs x)(hy:br m gs y):Rs m 1 gs (du m gs x y):=yjy h2 h (y5 hx hy) (zc hx hy) (EM x y)
theorem Am(h2:2≤m)(h:GI m gs)(hx:br m gs x)(hy:br m gs y):Rs m 1 gs (ko m gs x y):=ype h2 h (y5 hx hy) (zc hx hy) (EM x y)
theorem w7(h2:2≤m)(h:GI m gs)(hx:br m gs x)(hy:br m gs y):Rs m 1 gs (iq m gs x y):=yjz h2 h (y5 hx hy) (zc hx hy) (EM x y)
theorem Rs.trans{n k:Nat}{r s:Re}(h:Rs m n gs r)(t:Rs m k r.1 s):Rs m (n+k) gs s:=⟨h.pre.trans t.pre,t.gi,by have:=h.len;have:=t.len;omega,t.nd⟩
theorem YU{o:Int}(h2:2≤m)(h:GI m gs)(hx:br m gs x)(hy:br m gs y):Rs m 1 gs (DX o m gs x y):=by
 unfold DX
 split
 ·exact qJ h2 h hx hy
 ·split
  ·exact Am h2 h hx hy
  ·exact w7 h2 h hx hy
theorem Du(h2:2≤m)(h:GI m gs)(hx:br m gs x)(hy:br m gs y)(hz:br m gs z):Rs m 2 gs (jF m gs x y z):=by
 have x0:=hx.1
 have y0:=hy.1
 have z0:=hz.1
 unfold jF
 by_cases h1:x=0
 ·rw[if_pos h1];exact Rs.same h hz
 rw[if_neg h1]
 by_cases h3:x=1∨y=z
 ·rw[if_pos h3];exact Rs.same h hy
 rw[if_neg h3]
 by_cases h4:y=1
 ·rw[if_pos h4];exact(Am h2 h hx hz).mono (by omega)
 rw[if_neg h4]
 by_cases h5:z=0
 ·rw[if_pos h5];exact(qJ h2 h hx hy).mono (by omega)
 rw[if_neg h5]
 have hn:=oL h2 h hx
 by_cases h6:y=0
 ·rw[if_pos h6];exact hn.trans (qJ h2 hn.gi hn.nd (hz.pre hn.pre))
 rw[if_neg h6]
 by_cases h7:z=1
 ·rw[if_pos h7];exact hn.trans (Am h2 hn.gi hn.nd (hy.pre hn.pre))
 rw[if_neg h7]
 exact(ze h ⟨by simp,by simp,x0,hx.2,y0,hy.2,z0,hz.2,by simp,by simp,fun _=>rfl,fun e=>absurd e (by simp),fun e=>absurd e (by simp)⟩
  ⟨fun e=>absurd e (by simp),fun _ e=>absurd e (by simp),fun _=>⟨by simp only;omega,by simp only;omega,by simp only;omega,fun e=>h3 (.inr e)⟩,fun e=>absurd e (by simp)⟩).mono (by omega)
theorem yj0(h2:2≤m)(h:GI m gs)(hx:br m gs x)(hy:br m gs y)(hz:br m gs z)(h1:x≤y)(h3:y≤z):Rs m 1 gs (Cy m gs x y z):=by
 have x0:=hx.1
 unfold Cy
 by_cases h4:x=0
 ·rw[if_pos h4];exact qJ h2 h hy hz
 rw[if_neg h4]
 by_cases h5:x=1
 ·rw[if_pos h5];exact Am h2 h hy hz
 rw[if_neg h5]
 by_cases h6:x=y∨y=z
 ·rw[if_pos h6];exact Rs.same h hy
 rw[if_neg h6]
 exact ze h ⟨by simp,by simp,x0,hx.2,hy.1,hy.2,hz.1,hz.2,by simp,by simp,fun _=>rfl,fun e=>absurd e (by simp),fun e=>absurd e (by simp)⟩
  ⟨fun e=>absurd e (by simp),fun _ e=>absurd e (by simp),fun e=>absurd e (by simp),fun _=>⟨by simp only;omega,by simp only;omega,by simp only;omega⟩⟩
theorem Pa(x y z:Int):∃a b c,GQ x y z=a∧x+y+z - GQ x y z - Bx x y z=b∧Bx x y z=c∧a≤b∧b≤c∧((a=x∧b=y∧c=z)∨(a=x∧b=z∧c=y)∨(a=y∧b=x∧c=z)∨(a=y∧b=z∧c=x)∨(a=z∧b=x∧c=y)∨(a=z∧b=y∧c=x)):=by
 refine⟨_,_,_,rfl,rfl,rfl,?_,?_,?_⟩<;>unfold GQ Bx<;>omega
theorem PI(h2:2≤m)(h:GI m gs)(hx:br m gs x)(hy:br m gs y)(hz:br m gs z):Rs m 1 gs (um m gs x y z):=by
 unfold um
 obtain⟨a,b,c,e1,e2,e3,h1,h3,hh⟩:=Pa x y z
 rw[e2,e1,e3]
 refine yj0 h2 h ?_ ?_ ?_ h1 h3<;>(rcases hh with⟨rfl,rfl,rfl⟩|⟨rfl,rfl,rfl⟩|⟨rfl,rfl,rfl⟩|⟨rfl,rfl,rfl⟩|⟨rfl,rfl,rfl⟩|⟨rfl,rfl,rfl⟩<;>assumption)
end
structure Bs (m n w:Nat) (gs:Gs) (r:Gs × List Int):Prop where
 pre:gs<+:r.1
 gi:GI m r.1
 len:r.1.length≤gs.length+n
 wid:r.2.length=w
 nd:∀k,k<w→br m r.1 (nth r.2 k)
theorem Bs.at{m n w:Nat}{gs:Gs}{r:Gs × List Int}(h:Bs m n w gs r){cW:Gs}(hp:r.1<+:cW){k:Nat}(hk:k<w):br m cW (nth r.2 k):=(h.nd k hk).pre hp
theorem nB{m q:Nat}{gs:Gs}{st:Gs→Nat→Re}(h:GI m gs):∀{n:Nat},(∀k,k<n→∀cW,gs<+:cW→GI m cW→Rs m q cW (st cW k))→Bs m (q*n) n gs (dh st gs n)
 |0,_=>⟨List.prefix_refl _,h,by simp[dh],rfl,fun k hk=>by omega⟩
 |n+1,hs=>by
  have ih:=nB (n:=n) h fun k hk=>hs k (by omega)
  have s:=hs n (by omega) _ ih.pre ih.gi
  refine⟨ih.pre.trans s.pre,s.gi,?_,by simp[dh,ih.wid],fun k hk=>?_⟩
  ·have h1:=ih.len
   have h2:=s.len
   show(st (dh st gs n).1 n).1.length≤_
   rw[Nat.mul_succ];omega
  ·show br m (st (dh st gs n).1 n).1 (nth ((dh st gs n).2++[(st (dh st gs n).1 n).2]) k)
   by_cases hl:k<n
   ·rw[nQ (by rw[ih.wid];exact hl)];exact(ih.nd k hl).pre s.pre
   ·have:k=(dh st gs n).2.length:=by rw[ih.wid];omega
    rw[this,Eg];exact s.nd
structure Ss (m n w:Nat) (gs:Gs) (s:Sm):Prop where
 bs:Bs m n w gs (s.gs,s.l)
 c:br m s.gs s.c
theorem Fx{m:Nat}{gs:Gs}{x y:List Int}{c:Int}(h2:2≤m)(h:GI m gs)(hx:∀k,k<x.length→br m gs (nth x k))(hy:∀k,k<x.length→br m gs (nth y k))(hc:br m gs c):∀k,k≤x.length→Ss m (3*k) k gs (gO m gs x y c k)
 |0,_=>⟨⟨List.prefix_refl _,h,by simp[gO],rfl,fun k hk=>by omega⟩,hc⟩
 |k+1,hk=>by
  obtain⟨ih,xE⟩:=Fx h2 h hx hy hc k (by omega)
  generalize es:gO m gs x y c k=s at *
  have ha:=w7 h2 ih.gi ((hx k (by omega)).pre ih.pre) ((hy k (by omega)).pre ih.pre)
  have hb:=w7 h2 ha.gi ha.nd (xE.pre ha.pre)
  have vE:=ha.trans hb
  have bsr:∀r:Re,Rs m 1 (iq m (iq m s.gs (nth x k) (nth y k)).1 (iq m s.gs (nth x k) (nth y k)).2 s.c).1 r→Bs m (3*(k+1)) (k+1) gs (r.1,s.l++[(iq m (iq m s.gs (nth x k) (nth y k)).1 (iq m s.gs (nth x k) (nth y k)).2 s.c).2]):=fun r hr=>by
   have ht:=vE.trans hr
   refine⟨ih.pre.trans ht.pre,ht.gi,?_,by simp[show s.l.length=k from ih.wid],fun j hj=>?_⟩
   ·have h1:=ih.len
    have h3:=ht.len
    simp only at *
    omega
   ·have hw:s.l.length=k:=ih.wid
    by_cases hl:j<k
    ·simp only
     rw[nQ (by rw[hw];exact hl)];exact(ih.nd j hl).pre ht.pre
    ·have:j=s.l.length:=by omega
     simp only
     rw[this,Eg];exact hb.nd.pre hr.pre
  rw[gO]
  simp only[es]
  split
  ·have hd:=PI h2 hb.gi ((hx k (by omega)).pre (ih.pre.trans vE.pre)) ((hy k (by omega)).pre (ih.pre.trans vE.pre)) (xE.pre vE.pre)
   exact⟨bsr _ hd,hd.nd⟩
  ·exact⟨bsr (_,s.c) (Rs.same hb.gi (xE.pre vE.pre)),xE.pre vE.pre⟩
theorem Ln{m:Nat}{gs:Gs}{x y:List Int}(h2:2≤m)(h:GI m gs)(hx:∀k,k<x.length→br m gs (nth x k))(hy:∀k,k<x.length→br m gs (nth y k)):∀k,k≤x.length→Rs m (3*k) gs (nR m gs x y k)
 |0,_=>Rs.same h ⟨by decide,by omega⟩
 |k+1,hk=>by
  have ih:=Ln h2 h hx hy k (by omega)
  have ha:=w7 h2 ih.gi ((hx k (by omega)).pre ih.pre) ((hy k (by omega)).pre ih.pre)
  have hn:=oL h2 ha.gi ha.nd
  have hd:=qJ h2 hn.gi (ih.nd.pre (ha.pre.trans hn.pre)) hn.nd
  exact(((ih.trans ha).trans hn).trans hd).mono (by omega)
theorem Hg{m:Nat}{gs:Gs}{x y:List Int}(h2:2≤m)(h:GI m gs)(hx:∀k,k<x.length→br m gs (nth x k))(hy:∀k,k<x.length→br m gs (nth y k)):∀k,k≤x.length→Rs m (2*k) gs (nJ m gs x y k)
 |0,_=>Rs.same h ⟨by decide,by omega⟩
 |k+1,hk=>by
  have ih:=Hg h2 h hx hy k (by omega)
  have hn:=oL h2 ih.gi ((hy k (by omega)).pre ih.pre)
  have hd:=PI h2 hn.gi ((hx k (by omega)).pre (ih.pre.trans hn.pre)) hn.nd (ih.nd.pre hn.pre)
  exact((ih.trans hn).trans hd).mono (by omega)
def aM(c:Ct):Ex→Nat
 | .lM _ w=>w
 | .fe i=>nth c.ag i
 | .dZ i=>nth c.ae i
 | .not a=>aM c a
 | .two _ a _=>aM c a
 | .add a _=>aM c a
 | .sub a _=>aM c a
 | .eq _ _=>1
 | .lt _ _=>1
 | .lU _ b _=>aM c b
 | .cat a b=>aM c a+aM c b
 | .mT _ w _=>w
 | .ext w _=>w
 | .rd k _=>(nth c.mems k).2
def bQ(c:Ct):Ex→Nat
 | .lM _ _=>0
 | .fe _=>0
 | .dZ _=>0
 | .not a=>bQ c a+aM c a
 | .two _ a b=>bQ c a+bQ c b+aM c a
 | .add a b=>bQ c a+bQ c b+3*aM c a
 | .sub a b=>bQ c a+bQ c b+4*aM c a
 | .eq a b=>bQ c a+bQ c b+3*aM c a
 | .lt a b=>bQ c a+bQ c b+(2*aM c a+1)
 | .lU a b d=>bQ c a+bQ c b+bQ c d+2*aM c b
 | .cat a b=>bQ c a+bQ c b
 | .mT _ _ a=>bQ c a
 | .ext _ a=>bQ c a
 | .rd k a=>bQ c a+(nth c.mems k).2
def WT(c:Ct)(q:Bool):Ex→Prop
 | .lM v w=>1≤w∧w≤8∧v<2^w
 | .fe i=>i<c.ag.length
 | .dZ i=>q=true∧i<c.ae.length
 | .not a=>WT c q a
 | .two o a b=>(o=3∨o=4∨o=5)∧WT c q a∧WT c q b∧aM c a=aM c b
 | .add a b=>WT c q a∧WT c q b∧aM c a=aM c b
 | .sub a b=>WT c q a∧WT c q b∧aM c a=aM c b
 | .eq a b=>WT c q a∧WT c q b∧aM c a=aM c b
 | .lt a b=>WT c q a∧WT c q b∧aM c a=aM c b
 | .lU a b d=>WT c q a∧WT c q b∧WT c q d∧aM c a=1∧aM c b=aM c d
 | .cat a b=>WT c q a∧WT c q b∧aM c a+aM c b≤8
 | .mT k w a=>WT c q a∧1≤w∧k+w≤aM c a
 | .ext w a=>WT c q a∧aM c a≤w∧w≤8
 | .rd k a=>WT c q a∧k<c.mems.length
structure kN (c:Ct):Prop where
 r:∀i,i<c.ag.length→1≤nth c.ag i∧nth c.ag i≤8
 t:∀i,i<c.ae.length→1≤nth c.ae i∧nth c.ae i≤8
 m:∀i,i<c.mems.length→1≤(nth c.mems i).1∧(nth c.mems i).1≤8∧1≤(nth c.mems i).2∧(nth c.mems i).2≤8
 l:c.mems.length≤8
theorem jy{c:Ct}{q:Bool}(hc:kN c):∀{e:Ex},WT c q e→1≤aM c e∧aM c e≤8
 | .lM v w,h=>⟨h.1,h.2.1⟩
 | .fe i,h=>hc.r i h
 | .dZ i,h=>hc.t i h.2
 | .not a,h=>jy hc (e:=a) h
 | .two o a b,h=>jy hc (e:=a) h.2.1
 | .add a b,h=>jy hc (e:=a) h.1
 | .sub a b,h=>jy hc (e:=a) h.1
 | .eq a b,h=>⟨bm 1,by simp[aM]⟩
 | .lt a b,h=>⟨bm 1,by simp[aM]⟩
 | .lU a b d,h=>jy hc (e:=b) h.2.1
 | .cat a b,h=>by have:=jy hc (e:=a) h.1;have:=h.2.2;simp only[aM];omega
 | .mT k w a,h=>by have:=jy hc (e:=a) h.1;have:=h.2;simp only[aM];omega
 | .ext w a,h=>by have:=jy hc (e:=a) h.1;have:=h.2;simp only[aM];omega
 | .rd k a,h=>(hc.m k h.2).2.2
structure Ab (c:Ct) (bL:Int→Nat→Nat→Int) (m:Nat):Prop where
 r:∀i k,i<c.ag.length→k<nth c.ag i→0≤bL 1 i k∧bL 1 i k<m
structure kM (c:Ct) (q:Bool) (m:Nat) (gs:Gs) (data:List (List Int)):Prop where
 l:q=true→data.length=c.ae.length
 w:q=true→∀i,i<c.ae.length→(nth data i).length=nth c.ae i
 nd:q=true→∀i,i<c.ae.length→∀k,k<nth c.ae i→br m gs (nth (nth data i) k)
theorem kM.pre{c:Ct}{q:Bool}{m:Nat}{gs cW:Gs}{data:List (List Int)}(h:kM c q m gs data)(hp:gs<+:cW):kM c q m cW data:=⟨h.l,h.w,fun e i hi k hk=>(h.nd e i hi k hk).pre hp⟩
theorem Bs.ext{m n w k:Nat}{gs:Gs}{r:Gs × List Int}(h:Bs m n w gs r)(hk:n≤k):Bs m k w gs r:=⟨h.pre,h.gi,by have:=h.len;omega,h.wid,h.nd⟩
theorem Bs.trans{m n k w v:Nat}{gs:Gs}{r s:Gs × List Int}(h:Bs m n w gs r)(t:Bs m k v r.1 s):Bs m (n+k) v gs s:=⟨h.pre.trans t.pre,t.gi,by have:=h.len;have:=t.len;omega,t.wid,t.nd⟩
theorem Dt{m:Nat}{gs:Gs}{l:List Int}{words j:Nat}(h2:2≤m)(h:∀k,k<l.length→br m gs (nth l k))(hj:j<3):br m gs (nth (gS l words) j):=by
 have e:nth (gS l words) j=if j<l.length∧2^j<words then nth l j else 0:=by
  unfold gS nth;simp[gp,hj]
 rw[e]
 split
 ·rename_i hh;exact h j hh.1
 ·exact⟨by decide,by omega⟩
theorem tZ{β:Type}[Inhabited β]{f:Nat→β}{n k:Nat}(h:k<n):nth ((List.range n).map f) k=f k:=by unfold nth;simp[gp,h]
theorem js2{n k:Nat}{x:Int}(h:k<n):nth (List.replicate n x) k=x:=by unfold nth;simp[gp,h]
theorem qx{α:Type}[Inhabited α]{l t:List α}{k:Nat}(h:l.length≤k):nth (l++t) k=nth t (k - l.length):=by
 unfold nth;simp[gp,ji h]
theorem js3{α:Type}[Inhabited α]{l:List α}{a w k:Nat}(h:k<w):nth ((l.drop a).take w) k=nth l (a+k):=by
 unfold nth;simp[gp,List.getElem?_take_of_lt h]
theorem PH{m:Nat}{gs:Gs}{x:Int}(h:br m gs x):∀k,k<1→br m gs (nth [x] k)
 |0,_=>h
 |k+1,hk=>by omega
theorem oa{c:Ct}{q:Bool}{bL:Int→Nat→Nat→Int}{m:Nat}{data:List (List Int)}(h2:2≤m)(hc:kN c)(hi:Ab c bL m)(e:Ex):∀{gs:Gs},GI m gs→kM c q m gs data→WT c q e→Bs m (bQ c e) (aM c e) gs (cK c bL m data gs e):=by
 induction e with
 |lM v w=>
  intro gs h hd ht
  refine⟨List.prefix_refl _,h,by simp[cK],by simp[cK,aM],fun k hk=>?_⟩
  simp only[cK,aM]at hk ⊢
  rw[tZ hk]
  have:=Nat.mod_lt (v / 2^k) (show 0<2 by decide)
  exact⟨by omega,by omega⟩
 |fe i=>
  intro gs h hd ht
  refine⟨List.prefix_refl _,h,by simp[cK],by simp[cK,aM],fun k hk=>?_⟩
  simp only[cK,aM]at hk ⊢
  rw[tZ hk]
  have:=hi.r i k ht hk
  exact⟨this.1,by omega⟩
 |dZ i=>
  intro gs h hd ht
  exact⟨List.prefix_refl _,h,by simp[cK],hd.w ht.1 i ht.2,fun k hk=>hd.nd ht.1 i ht.2 k hk⟩
 |not a fO=>
  intro gs h hd ht
  have ha:=fO h hd ht
  simp only[cK,bQ,aM]
  generalize cK c bL m data gs a=r at *
  rw[ha.wid]
  exact(ha.trans (nB (q:=1) ha.gi fun k hk cW hp hg=>oL h2 hg (ha.at hp hk))).ext (by omega)
 |two o a b fO jQ=>
  intro gs h hd ht
  obtain⟨_,ta,tb,hw⟩:=ht
  have ha:=fO h hd ta
  simp only[cK,bQ,aM]
  generalize cK c bL m data gs a=r at *
  have hb:=jQ ha.gi (hd.pre ha.pre) tb
  generalize cK c bL m data r.1 b=s at *
  rw[ha.wid]
  exact((ha.trans hb).trans (nB (q:=1) hb.gi fun k hk cW hp hg=>YU h2 hg (ha.at (hb.pre.trans hp) hk) (hb.at hp (by omega)))).ext (by omega)
 |add a b fO jQ=>
  intro gs h hd ht
  obtain⟨ta,tb,hw⟩:=ht
  have ha:=fO h hd ta
  simp only[cK,bQ,aM]
  generalize cK c bL m data gs a=r at *
  have hb:=jQ ha.gi (hd.pre ha.pre) tb
  generalize cK c bL m data r.1 b=s at *
  rw[ha.wid]
  exact((ha.trans hb).trans (Fx h2 hb.gi (fun k hk=>ha.at hb.pre (by rw[ha.wid]at hk;exact hk)) (fun k hk=>hb.nd k (by rw[ha.wid]at hk;omega)) ⟨by decide,by omega⟩ _ (by rw[ha.wid];exact bm _)).bs).ext (by omega)
 |sub a b fO jQ=>
  intro gs h hd ht
  obtain⟨ta,tb,hw⟩:=ht
  have ha:=fO h hd ta
  simp only[cK,bQ,aM]
  generalize cK c bL m data gs a=r at *
  have hb:=jQ ha.gi (hd.pre ha.pre) tb
  generalize cK c bL m data r.1 b=s at *
  rw[ha.wid,hb.wid]
  have hn:=nB (q:=1) (n:=aM c b) hb.gi (st:=fun gs i=>dW m gs (nth s.2 i)) fun k hk cW hp hg=>oL h2 hg (hb.at hp hk)
  generalize dh (fun gs i=>dW m gs (nth s.2 i)) s.1 (aM c b)=n at *
  exact(((ha.trans hb).trans hn).trans (Fx h2 hn.gi (fun k hk=>ha.at (hb.pre.trans hn.pre) (by rw[ha.wid]at hk;exact hk)) (fun k hk=>hn.nd k (by rw[ha.wid]at hk;omega)) ⟨by decide,by omega⟩ _ (by rw[ha.wid];exact bm _)).bs).ext (by omega)
 |eq a b fO jQ=>
  intro gs h hd ht
  obtain⟨ta,tb,hw⟩:=ht
  have ha:=fO h hd ta
  simp only[cK,bQ,aM]
  generalize cK c bL m data gs a=r at *
  have hb:=jQ ha.gi (hd.pre ha.pre) tb
  generalize cK c bL m data r.1 b=s at *
  have hs:=Ln h2 hb.gi (x:=r.2) (y:=s.2) (fun k hk=>ha.at hb.pre (by rw[ha.wid]at hk;exact hk)) (fun k hk=>hb.nd k (by rw[ha.wid]at hk;omega)) _ (bm _)
  rw[ha.wid]at hs ⊢
  exact((ha.trans hb).trans (k:=3*aM c a) (v:=1) ⟨hs.pre,hs.gi,hs.len,rfl,PH hs.nd⟩).ext (by omega)
 |lt a b fO jQ=>
  intro gs h hd ht
  obtain⟨ta,tb,hw⟩:=ht
  have ha:=fO h hd ta
  simp only[cK,bQ,aM]
  generalize cK c bL m data gs a=r at *
  have hb:=jQ ha.gi (hd.pre ha.pre) tb
  generalize cK c bL m data r.1 b=s at *
  have zJ:=Hg h2 hb.gi (x:=r.2) (y:=s.2) (fun k hk=>ha.at hb.pre (by rw[ha.wid]at hk;exact hk)) (fun k hk=>hb.nd k (by rw[ha.wid]at hk;omega)) _ (bm _)
  rw[ha.wid]at zJ ⊢
  have hs:=zJ.trans (oL h2 zJ.gi zJ.nd)
  exact((ha.trans hb).trans (k:=2*aM c a+1) (v:=1) ⟨hs.pre,hs.gi,hs.len,rfl,PH hs.nd⟩).ext (by omega)
 |lU a b d fO jQ Hs=>
  intro gs h hd ht
  obtain⟨ta,tb,td,w1,hw⟩:=ht
  have ha:=fO h hd ta
  simp only[cK,bQ,aM]
  generalize cK c bL m data gs a=r at *
  have hb:=jQ ha.gi (hd.pre ha.pre) tb
  generalize cK c bL m data r.1 b=s at *
  have o6:=Hs hb.gi (hd.pre (ha.pre.trans hb.pre)) td
  generalize cK c bL m data s.1 d=t at *
  rw[hb.wid]
  exact(((ha.trans hb).trans o6).trans (nB (q:=2) o6.gi fun k hk cW hp hg=>Du h2 hg (ha.at (hb.pre.trans (o6.pre.trans hp)) (by omega)) (hb.at (o6.pre.trans hp) hk) (o6.at hp (by omega)))).ext (by omega)
 |cat a b fO jQ=>
  intro gs h hd ht
  obtain⟨ta,tb,hw⟩:=ht
  have ha:=fO h hd ta
  simp only[cK,bQ,aM]
  generalize cK c bL m data gs a=r at *
  have hb:=jQ ha.gi (hd.pre ha.pre) tb
  generalize cK c bL m data r.1 b=s at *
  have vE:=ha.trans hb
  refine⟨vE.pre,vE.gi,vE.len,by simp only[List.length_append,hb.wid,ha.wid];omega,fun k hk=>?_⟩
  by_cases hl:k<s.2.length
  ·rw[show(s.1,s.2++r.2).2=s.2++r.2 from rfl,nQ hl];exact hb.nd k (by rw[←hb.wid];exact hl)
  ·rw[show(s.1,s.2++r.2).2=s.2++r.2 from rfl,qx (by omega)];exact ha.at hb.pre (by rw[hb.wid]at hl ⊢;omega)
 |mT k w a fO=>
  intro gs h hd ht
  obtain⟨ta,w1,hw⟩:=ht
  have ha:=fO h hd ta
  simp only[cK,bQ,aM]
  generalize cK c bL m data gs a=r at *
  refine⟨ha.pre,ha.gi,ha.len,by simp only[List.length_take,List.length_drop,ha.wid];omega,fun j hj=>?_⟩
  rw[show(r.1,(r.2.drop k).take w).2=(r.2.drop k).take w from rfl,js3 hj]
  exact ha.nd _ (by omega)
 |ext w a fO=>
  intro gs h hd ht
  obtain⟨ta,hw,w8⟩:=ht
  have ha:=fO h hd ta
  simp only[cK,bQ,aM]
  generalize cK c bL m data gs a=r at *
  refine⟨ha.pre,ha.gi,ha.len,by simp only[List.length_append,List.length_replicate,ha.wid];omega,fun k hk=>?_⟩
  by_cases hl:k<r.2.length
  ·rw[show(r.1,r.2++List.replicate (w - r.2.length) (0:Int)).2=r.2++List.replicate (w - r.2.length) 0 from rfl,nQ hl];exact ha.nd k (by rw[←ha.wid];exact hl)
  ·rw[show(r.1,r.2++List.replicate (w - r.2.length) (0:Int)).2=r.2++List.replicate (w - r.2.length) 0 from rfl,qx (by omega),js2 (by omega)];exact⟨by decide,by omega⟩
 |rd k a fO=>
  intro gs h hd ht
  obtain⟨ta,hk⟩:=ht
  have ha:=fO h hd ta
  simp only[cK,bQ,aM]
  generalize cK c bL m data gs a=r at *
  have hm:=hc.m k hk
  have hl:=hc.l
  refine(ha.trans (nB (q:=1) (n:=(nth c.mems k).2) ha.gi fun i CU cW hp hg=>?_)).ext (by omega)
  have n0:=Dt (m:=m) (gs:=cW) (l:=r.2) (words:=(nth c.mems k).1) (j:=0) h2 (fun j hj=>ha.at hp (by rw[ha.wid]at hj;exact hj)) (by decide)
  have n1:=Dt (m:=m) (gs:=cW) (l:=r.2) (words:=(nth c.mems k).1) (j:=1) h2 (fun j hj=>ha.at hp (by rw[ha.wid]at hj;exact hj)) (by decide)
  have n2:=Dt (m:=m) (gs:=cW) (l:=r.2) (words:=(nth c.mems k).1) (j:=2) h2 (fun j hj=>ha.at hp (by rw[ha.wid]at hj;exact hj)) (by decide)
  exact ze hg ⟨by simp,by simp,n0.1,n0.2,n1.1,n1.2,n2.1,n2.2,by simp only;omega,by simp only;omega,fun e=>absurd rfl e,fun e=>absurd e (by simp),fun e=>absurd e (by simp)⟩
   ⟨fun e=>absurd e (by simp),fun _ e=>absurd e (by simp),fun e=>absurd e (by simp),fun e=>absurd e (by simp)⟩
end
section
structure ly where
 name:ByteArray
 w:Nat
 init:Int
 next:Ex
 rk:Int
 rf:ByteArray
 rn:Int
 deriving Inhabited
structure nj where
 name:ByteArray
 w:Nat
 words:Nat
 en:Ex
 ad:Ex
 da:Ex
 rk:Int
 rf:ByteArray
 rn:Int
 deriving Inhabited
structure jD where
 chan:Int
 w:Nat
 wh:Ex
 deriving Inhabited
structure ni where
 chan:Int
 w:Nat
 wh:Ex
 da:Ex
 deriving Inhabited
structure Pr where
 name:ByteArray
 clock:ByteArray
 ag:List ly
 mems:List nj
 ae:List jD
 ao:List ni
 deriving Inhabited
def aI(p:Pr):Ct:=⟨p.ag.map (·.w),p.ae.map (·.w),p.mems.map fun x=>(x.words,x.w)⟩
def bK(kind i:Int)(w:Nat):List aB:=(List.range w).map fun(k:Nat)=>(⟨kind,i,(k:Int)⟩:aB)
theorem cX(kind i:Int)(w:Nat):(bK kind i w).length=w:=by simp[bK]
theorem xh(kind i:Int)(w:Nat):bK kind i (w+1)=bK kind i w++[⟨kind,i,(w:Int)⟩]:=by simp[bK,xt]
def eW(p:Pr):Nat→List aB
 |0=>[]
 |k+1=>eW p k++bK 1 k (nth p.ag k).w
def eJ(p:Pr):Nat→List aB
 |0=>eW p p.ag.length
 |k+1=>eJ p k++bK 2 k (nth p.ae k).w++bK 3 k 1
def fq(p:Pr):Nat→List aB
 |0=>eJ p p.ae.length
 |k+1=>fq p k++bK 4 k 1
def dN(p:Pr):List aB:=fq p p.ao.length
def mP(p:Pr):Nat:=2+(dN p).length
instance:DecidableEq aB:=fun⟨a1,a2,a3⟩ ⟨b1,b2,b3⟩=>
 if h:a1=b1∧a2=b2∧a3=b3 then isTrue (by obtain⟨h1,h2,h3⟩:=h;subst h1 h2 h3;rfl)
 else isFalse fun e=>h (by cases e;exact⟨rfl,rfl,rfl⟩)
def mc(g:aB):List aB→Nat
 |[]=>0
 |x::l=>if x=g then 0 else mc g l+1
theorem FU{g:aB}:∀{l:List aB},g∈l→mc g l<l.length∧nth l (mc g l)=g
 |[],h=>by cases h
 |x::l,h=>by
  rw[mc]
  by_cases e:x=g
  ·rw[if_pos e];exact⟨by simp,by simpa[nth]using e⟩
  ·rw[if_neg e]
   have hl:g∈l:=by
    rcases List.mem_cons.1 h with h|h
    ·exact absurd h.symm e
    ·exact h
   obtain⟨h1,h2⟩:=FU hl
   exact⟨by simpa using h1,by simpa[nth]using h2⟩
theorem jes{g:aB}:∀{l m:List aB},g∈l→mc g (l++m)=mc g l
 |[],_,h=>by cases h
 |x::l,m,h=>by
  rw[List.cons_append,mc,mc]
  by_cases e:x=g
  ·rw[if_pos e,if_pos e]
  ·rw[if_neg e,if_neg e]
   have hl:g∈l:=by
    rcases List.mem_cons.1 h with h|h
    ·exact absurd h.symm e
    ·exact h
   rw[jes hl]
def bL(p:Pr)(kind:Int)(i k:Nat):Int:=((2+mc ⟨kind,(i:Int),(k:Int)⟩ (dN p):Nat):Int)
structure Fi where
 gs:Gs
 ae:List Int
 data:List (List Int)
structure Fq where
 gs:Gs
 ao:List Int
def fa(p:Pr)(data:List (List Int))(gs:Gs)(e:Ex):Gs × List Int:=cK (aI p) (bL p) (mP p) data gs e
def gk(p:Pr):Nat→Fi
 |0=>⟨[],[],[]⟩
 |k+1=>
  let s:=gk p k
  let r:=fa p s.data s.gs (nth p.ae k).wh
  let t:=dh (fun gs i=>du (mP p) gs (nth r.2 0) (bL p 2 k i)) r.1 (nth p.ae k).w
  ⟨t.1,s.ae++[nth r.2 0],s.data++[t.2]⟩
def j5(p:Pr):Nat→Fq
 |0=>⟨(gk p p.ae.length).gs,[]⟩
 |k+1=>
  let s:=j5 p k
  let r:=fa p (gk p p.ae.length).data s.gs (nth p.ao k).wh
  ⟨r.1,s.ao++[nth r.2 0]⟩
def yY(m:Nat)(gs:Gs)(kK due x:Int):Re:=let n:=dW m gs due;let o:=ko m n.1 n.2 x;du m o.1 kK o.2
def p6(p:Pr):Nat→Re
 |0=>((j5 p p.ao.length).gs,1)
 |k+1=>let s:=p6 p k;yY (mP p) s.1 s.2 (nth (gk p p.ae.length).ae k) (bL p 3 k 0)
def p5(p:Pr):Nat→Re
 |0=>p6 p p.ae.length
 |k+1=>let s:=p5 p k;yY (mP p) s.1 s.2 (nth (j5 p p.ao.length).ao k) (bL p 4 k 0)
def lD(p:Pr):List Int:=(gk p p.ae.length).ae
def kB(p:Pr):List Int:=(j5 p p.ao.length).ao
def ch(p:Pr):List (List Int):=(gk p p.ae.length).data
def fI(p:Pr):Int:=(p5 p p.ao.length).2
structure Os where
 gs:Gs
 out:List aB
 dr:List Int
def eL(p:Pr):Nat→Os
 |0=>⟨(p5 p p.ao.length).1,[],[]⟩
 |i+1=>
  let s:=eL p i
  let r:=fa p (ch p) s.gs (nth p.ag i).next
  let t:=dh (fun gs k=>jF (mP p) gs (fI p) (nth r.2 k) (bL p 1 i k)) r.1 r.2.length
  ⟨t.1,s.out++bK 1 i r.2.length,s.dr++t.2⟩
def jU(p:Pr):Nat→Os
 |0=>eL p p.ag.length
 |i+1=>
  let s:=jU p i
  let a:=du (mP p) s.gs (fI p) (nth (lD p) i)
  ⟨a.1,s.out++[⟨5,i,0⟩],s.dr++[a.2]⟩
def jq(p:Pr):Nat→Os
 |0=>jU p p.ae.length
 |i+1=>
  let s:=jq p i
  let a:=du (mP p) s.gs (fI p) (nth (kB p) i)
  let r:=fa p (ch p) a.1 (nth p.ao i).da
  let t:=dh (fun gs k=>du (mP p) gs a.2 (nth r.2 k)) r.1 r.2.length
  ⟨t.1,s.out++[⟨6,i,0⟩]++bK 7 i r.2.length,s.dr++[a.2]++t.2⟩
def gU(p:Pr):Nat→Os
 |0=>jq p p.ao.length
 |i+1=>
  let s:=gU p i
  let e:=fa p (ch p) s.gs (nth p.mems i).en
  let a:=du (mP p) e.1 (fI p) (nth e.2 0)
  let d:=fa p (ch p) a.1 (nth p.mems i).ad
  let w:=fa p (ch p) d.1 (nth p.mems i).da
  ⟨w.1,s.out++[⟨8,i,0⟩]++bK 9 i 3++bK 10 i w.2.length,s.dr++[a.2]++gS d.2 (nth p.mems i).words++w.2⟩
def eV(p:Pr):Net:=let o:=gU p p.mems.length;⟨dN p,o.gs,o.out,o.dr⟩
def x9(p:Pr):Nat→Nat
 |0=>0
 |k+1=>x9 p k+(bQ (aI p) (nth p.ae k).wh+(nth p.ae k).w)
def wP(p:Pr):Nat→Nat
 |0=>x9 p p.ae.length
 |k+1=>wP p k+bQ (aI p) (nth p.ao k).wh
def pG(p:Pr):Nat→Nat
 |0=>wP p p.ao.length+3*p.ae.length+3*p.ao.length
 |k+1=>pG p k+(bQ (aI p) (nth p.ag k).next+2*(nth p.ag k).w)
def wO(p:Pr):Nat→Nat
 |0=>pG p p.ag.length+p.ae.length
 |k+1=>wO p k+(1+bQ (aI p) (nth p.ao k).da+(nth p.ao k).w)
def wQ(p:Pr):Nat→Nat
 |0=>wO p p.ao.length
 |k+1=>wQ p k+(bQ (aI p) (nth p.mems k).en+1+bQ (aI p) (nth p.mems k).ad+bQ (aI p) (nth p.mems k).da)
def qB(p:Pr):Nat:=wQ p p.mems.length
structure bJ (p:Pr):Prop where
 ct:kN (aI p)
 tw:∀i,i<p.ae.length→WT (aI p) false (nth p.ae i).wh∧aM (aI p) (nth p.ae i).wh=1
 rn:∀i,i<p.ag.length→WT (aI p) true (nth p.ag i).next∧aM (aI p) (nth p.ag i).next=(nth p.ag i).w
 qw:∀i,i<p.ao.length→WT (aI p) true (nth p.ao i).wh∧aM (aI p) (nth p.ao i).wh=1
 qd:∀i,i<p.ao.length→WT (aI p) true (nth p.ao i).da∧aM (aI p) (nth p.ao i).da=(nth p.ao i).w
 qb:∀i,i<p.ao.length→1≤(nth p.ao i).w∧(nth p.ao i).w≤8
 me:∀i,i<p.mems.length→WT (aI p) true (nth p.mems i).en∧aM (aI p) (nth p.mems i).en=1
 ma:∀i,i<p.mems.length→WT (aI p) true (nth p.mems i).ad
 md:∀i,i<p.mems.length→WT (aI p) true (nth p.mems i).da∧aM (aI p) (nth p.mems i).da=(nth p.mems i).w
 rl:p.ag.length≤100
 tl:p.ae.length≤100
 ql:p.ao.length≤100
 cl:qB p≤100000
theorem lQ{α β:Type}[Inhabited α][Inhabited β]{f:α→β}{l:List α}{k:Nat}(h:k<l.length):nth (l.map f) k=f (nth l k):=by
 unfold nth;simp[gp,h]
theorem I8{kind i:Int}{w k:Nat}(h:k<w):(⟨kind,i,(k:Int)⟩:aB)∈bK kind i w:=kV.2 ⟨k,qk.2 h,rfl⟩
section
variable {p:Pr}
theorem Zd:∀{n i k:Nat},i<n→k<(nth p.ag i).w→(⟨1,(i:Int),(k:Int)⟩:aB)∈eW p n
 |n+1,i,k,h,hk=>by
  rw[eW]
  by_cases e:i<n
  ·exact List.mem_append_left _ (Zd e hk)
  ·have:i=n:=by omega
   subst this
   exact List.mem_append_right _ (I8 hk)
theorem js4{x:aB}(h:x∈eW p p.ag.length):∀n,x∈eJ p n
 |0=>h
 |n+1=>by rw[eJ];exact List.mem_append_left _ (List.mem_append_left _ (js4 h n))
theorem js5:∀{n i k:Nat},i<n→k<(nth p.ae i).w→(⟨2,(i:Int),(k:Int)⟩:aB)∈eJ p n
 |n+1,i,k,h,hk=>by
  rw[eJ]
  by_cases e:i<n
  ·exact List.mem_append_left _ (List.mem_append_left _ (js5 e hk))
  ·have:i=n:=by omega
   subst this
   exact List.mem_append_left _ (List.mem_append_right _ (I8 hk))
theorem js6:∀{n i:Nat},i<n→(⟨3,(i:Int),0⟩:aB)∈eJ p n
 |n+1,i,h=>by
  rw[eJ]
  by_cases e:i<n
  ·exact List.mem_append_left _ (List.mem_append_left _ (js6 e))
  ·have:i=n:=by omega
   subst this
   exact List.mem_append_right _ (I8 (k:=0) (by decide))
theorem LK{x:aB}(h:x∈eJ p p.ae.length):∀n,x∈fq p n
 |0=>h
 |n+1=>by rw[fq];exact List.mem_append_left _ (LK h n)
theorem js7:∀{n i:Nat},i<n→(⟨4,(i:Int),0⟩:aB)∈fq p n
 |n+1,i,h=>by
  rw[fq]
  by_cases e:i<n
  ·exact List.mem_append_left _ (js7 e)
  ·have:i=n:=by omega
   subst this
   exact List.mem_append_right _ (I8 (k:=0) (by decide))
theorem zD{i k:Nat}(h:i<p.ag.length)(hk:k<(nth p.ag i).w):(⟨1,(i:Int),(k:Int)⟩:aB)∈dN p:=LK (js4 (Zd h hk) _) _
theorem Hr{i k:Nat}(h:i<p.ae.length)(hk:k<(nth p.ae i).w):(⟨2,(i:Int),(k:Int)⟩:aB)∈dN p:=LK (js5 h hk) _
theorem LU{i:Nat}(h:i<p.ae.length):(⟨3,(i:Int),((0:Nat):Int)⟩:aB)∈dN p:=LK (js6 h) _
theorem LS{i:Nat}(h:i<p.ao.length):(⟨4,(i:Int),((0:Nat):Int)⟩:aB)∈dN p:=js7 h
theorem uQ{kind:Int}{i k:Nat}(h:(⟨kind,(i:Int),(k:Int)⟩:aB)∈dN p)(gs:Gs):br (mP p) gs (bL p kind i k):=by
 have:=(FU h).1
 unfold br bL mP
 constructor<;>omega
theorem Kl(h:bJ p):Ab (aI p) (bL p) (mP p):=⟨fun i k hi hk=>by
 have iS:i<p.ag.length:=by simpa[aI]using hi
 have e:nth (aI p).ag i=(nth p.ag i).w:=lQ iS
 rw[e]at hk
 have:=uQ (zD iS hk) []
 exact⟨this.1,by have:=this.2;simpa using this⟩⟩
theorem nH:2≤mP p:=by unfold mP;omega
theorem zA{i:Nat}(h:i<p.ae.length):nth (aI p).ae i=(nth p.ae i).w:=lQ h
structure IQ (p:Pr) (k:Nat) (s:Fi):Prop where
 gi:GI (mP p) s.gs
 len:s.gs.length≤x9 p k
 tl:s.ae.length=k
 tn:∀i,i<k→br (mP p) s.gs (nth s.ae i)
 dl:s.data.length=k
 dw:∀i,i<k→(nth s.data i).length=(nth p.ae i).w
 dn:∀i,i<k→∀j,j<(nth p.ae i).w→br (mP p) s.gs (nth (nth s.data i) j)
theorem v8{α:Type}[Inhabited α]{l:List α}{x:α}{i k:Nat}(hl:l.length=k)(hi:i<k+1):(i<k∧nth (l++[x]) i=nth l i)∨(i=k∧nth (l++[x]) i=x):=by
 by_cases h:i<k
 ·exact .inl ⟨h,nQ (by omega)⟩
 ·have:i=l.length:=by omega
  exact .inr ⟨by omega,by rw[this,Eg]⟩
structure TkS (p:Pr) (k:Nat) (s:Fi) (r:Gs × List Int):Prop where
 b:Bs (mP p) (bQ (aI p) (nth p.ae k).wh) 1 s.gs r
 t:Bs (mP p) (1*(nth p.ae k).w) (nth p.ae k).w r.1 (dh (fun gs i=>du (mP p) gs (nth r.2 0) (bL p 2 k i)) r.1 (nth p.ae k).w)
theorem PG(h:bJ p){k:Nat}(hk:k<p.ae.length){s:Fi}(hs:IQ p k s):TkS p k s (fa p s.data s.gs (nth p.ae k).wh):=by
 have hw:=h.tw k hk
 have hb:=oa (q:=false) (data:=s.data) nH h.ct (Kl h) (nth p.ae k).wh hs.gi (kM.mk (by intro e;cases e) (by intro e;cases e) (by intro e;cases e)) hw.1
 rw[hw.2]at hb
 exact⟨hb,nB hb.gi fun i hi cW hp hg=>qJ nH hg (hb.at hp (by decide)) (uQ (Hr hk hi) _)⟩
theorem vX(h:bJ p):∀k,k≤p.ae.length→IQ p k (gk p k)
 |0,_=>⟨GI.nil _,by simp[gk],rfl,fun i hi=>by omega,rfl,fun i hi=>by omega,fun i hi=>by omega⟩
 |k+1,hk=>by
  have ih:=vX h k (by omega)
  obtain⟨hb,ht⟩:=PG h (show k<p.ae.length by omega) ih
  simp only[gk]
  generalize gk p k=s at *
  generalize fa p s.data s.gs (nth p.ae k).wh=r at *
  generalize dh (fun gs i=>du (mP p) gs (nth r.2 0) (bL p 2 k i)) r.1 (nth p.ae k).w=t at *
  have HI:=hb.pre.trans ht.pre
  refine⟨ht.gi,?_,by simp[ih.tl],fun i hi=>?_,by simp[ih.dl],fun i hi=>?_,fun i hi j hj=>?_⟩
  ·have h1:=ih.len;have h2:=hb.len;have h3:=ht.len
   rw[x9];simp only;omega
  ·rcases v8 (x:=nth r.2 0) ih.tl hi with⟨hl,e⟩|⟨hl,e⟩
   ·simp only;rw[e];exact(ih.tn i hl).pre HI
   ·simp only;rw[e];exact hb.at ht.pre (by decide)
  ·rcases v8 (x:=t.2) ih.dl hi with⟨hl,e⟩|⟨hl,e⟩
   ·simp only;rw[e];exact ih.dw i hl
   ·simp only;rw[e,hl];exact ht.wid
  ·rcases v8 (x:=t.2) ih.dl hi with⟨hl,e⟩|⟨hl,e⟩
   ·simp only;rw[e];exact(ih.dn i hl j hj).pre HI
   ·simp only;rw[e];subst hl;exact ht.nd j hj
theorem Lm(h:bJ p){gs:Gs}(hp:(gk p p.ae.length).gs<+:gs):kM (aI p) true (mP p) gs (ch p):=by
 have ht:=vX h _ (bm _)
 refine⟨fun _=>by show(gk p p.ae.length).data.length=_;rw[ht.dl];simp[aI],fun _ i hi=>?_,fun _ i hi k hk=>?_⟩
 ·have iS:i<p.ae.length:=by simpa[aI]using hi
  rw[zA iS];exact ht.dw i iS
 ·have iS:i<p.ae.length:=by simpa[aI]using hi
  rw[zA iS]at hk
  exact(ht.dn i iS k hk).pre hp
theorem js8(h:bJ p){gs:Gs}(hg:GI (mP p) gs)(hp:(gk p p.ae.length).gs<+:gs){e:Ex}(ht:WT (aI p) true e):Bs (mP p) (bQ (aI p) e) (aM (aI p) e) gs (fa p (ch p) gs e):=
 oa nH h.ct (Kl h) e hg (Lm h hp) ht
structure IT (p:Pr) (k:Nat) (s:Fq):Prop where
 pre:(gk p p.ae.length).gs<+:s.gs
 gi:GI (mP p) s.gs
 len:s.gs.length≤wP p k
 ql:s.ao.length=k
 qn:∀i,i<k→br (mP p) s.gs (nth s.ao i)
theorem O9(h:bJ p){k:Nat}(hk:k<p.ao.length){s:Fq}(hs:IT p k s):Bs (mP p) (bQ (aI p) (nth p.ao k).wh) 1 s.gs (fa p (ch p) s.gs (nth p.ao k).wh):=by
 have:=js8 h hs.gi hs.pre (h.qw k hk).1
 rwa[(h.qw k hk).2]at this
theorem tW(h:bJ p):∀k,k≤p.ao.length→IT p k (j5 p k)
 |0,_=>by
  have ht:=vX h _ (bm _)
  exact⟨List.prefix_refl _,ht.gi,ht.len,rfl,fun i hi=>by omega⟩
 |k+1,hk=>by
  have ih:=tW h k (by omega)
  have hb:=O9 h (show k<p.ao.length by omega) ih
  unfold ch at hb
  simp only[j5]
  generalize j5 p k=s at *
  generalize fa p (gk p p.ae.length).data s.gs (nth p.ao k).wh=r at *
  refine⟨ih.pre.trans hb.pre,hb.gi,?_,by simp[ih.ql],fun i hi=>?_⟩
  ·have h1:=ih.len;have h2:=hb.len
   rw[wP];simp only;omega
  ·rcases v8 (x:=nth r.2 0) ih.ql hi with⟨hl,e⟩|⟨hl,e⟩
   ·simp only;rw[e];exact(ih.qn i hl).pre hb.pre
   ·simp only;rw[e];exact hb.nd 0 (by decide)
theorem Mv{m:Nat}{gs:Gs}{f d x:Int}(h2:2≤m)(h:GI m gs)(hf:br m gs f)(hd:br m gs d)(hx:br m gs x):Rs m 3 gs (yY m gs f d x):=by
 have hn:=oL h2 h hd
 have ho:=Am h2 hn.gi hn.nd (hx.pre hn.pre)
 have ha:=qJ h2 ho.gi (hf.pre (hn.pre.trans ho.pre)) ho.nd
 exact((hn.trans ho).trans ha).mono (by omega)
theorem Jv(h:bJ p):∀k,k≤p.ae.length→Rs (mP p) (3*k) (j5 p p.ao.length).gs (p6 p k)
 |0,_=>Rs.same (tW h _ (bm _)).gi ⟨by decide,by have:=@nH p;omega⟩
 |k+1,hk=>by
  have ih:=Jv h k (by omega)
  have hq:=tW h _ (bm _)
  have ht:=vX h _ (bm _)
  exact(ih.trans (Mv nH ih.gi ih.nd ((ht.tn k (by omega)).pre (hq.pre.trans ih.pre)) (uQ (LU (by omega)) _))).mono (by omega)
theorem yw(h:bJ p):∀k,k≤p.ao.length→Rs (mP p) (3*p.ae.length+3*k) (j5 p p.ao.length).gs (p5 p k)
 |0,_=>Jv h _ (bm _)
 |k+1,hk=>by
  have ih:=yw h k (by omega)
  have hq:=tW h _ (bm _)
  exact(ih.trans (Mv nH ih.gi ih.nd ((hq.qn k (by omega)).pre ih.pre) (uQ (LS (by omega)) _))).mono (by omega)
structure fS (p:Pr) (n:Nat) (s:Os):Prop where
 pre:(p5 p p.ao.length).1<+:s.gs
 gi:GI (mP p) s.gs
 len:s.gs.length≤n
 ol:s.out.length=s.dr.length
 dn:∀i,i<s.dr.length→br (mP p) s.gs (nth s.dr i)
section
variable {n:Nat} {s:Os}
theorem fS.tp(h:bJ p)(hs:fS p n s):(gk p p.ae.length).gs<+:s.gs:=(tW h _ (bm _)).pre.trans ((yw h _ (bm _)).pre.trans hs.pre)
theorem fS.bits(h:bJ p)(hs:fS p n s){gs:Gs}(hp:s.gs<+:gs)(hg:GI (mP p) gs){e:Ex}(ht:WT (aI p) true e):Bs (mP p) (bQ (aI p) e) (aM (aI p) e) gs (fa p (ch p) gs e):=js8 h hg ((hs.tp h).trans hp) ht
theorem fS.kK(h:bJ p)(hs:fS p n s){gs:Gs}(hp:s.gs<+:gs):br (mP p) gs (fI p):=(yw h _ (bm _)).nd.pre (hs.pre.trans hp)
theorem fS.Dh(h:bJ p)(hs:fS p n s){gs:Gs}(hp:s.gs<+:gs){i:Nat}(hi:i<p.ae.length):br (mP p) gs (nth (lD p) i):=((vX h _ (bm _)).tn i hi).pre ((hs.tp h).trans hp)
theorem fS.Di(h:bJ p)(hs:fS p n s){gs:Gs}(hp:s.gs<+:gs){i:Nat}(hi:i<p.ao.length):br (mP p) gs (nth (kB p) i):=((tW h _ (bm _)).qn i hi).pre ((yw h _ (bm _)).pre.trans (hs.pre.trans hp))
theorem fS.app(hs:fS p n s){k:Nat}{gs:Gs}{o:List aB}{d:List Int}(hp:s.gs<+:gs)(hg:GI (mP p) gs)(hl:gs.length≤k)(ho:o.length=d.length)(hd:∀i,i<d.length→br (mP p) gs (nth d i)):fS p k ⟨gs,s.out++o,s.dr++d⟩:=by
 refine⟨hs.pre.trans hp,hg,hl,by simp[hs.ol,ho],fun i hi=>?_⟩
 simp only at hi ⊢
 by_cases h:i<s.dr.length
 ·rw[nQ h];exact(hs.dn i h).pre hp
 ·rw[qx (by omega)];exact hd _ (by simp at hi;omega)
end
structure RgS (p:Pr) (i:Nat) (s:Os) (r:Gs × List Int):Prop where
 b:Bs (mP p) (bQ (aI p) (nth p.ag i).next) (nth p.ag i).w s.gs r
 t:Bs (mP p) (2*(nth p.ag i).w) (nth p.ag i).w r.1 (dh (fun gs k=>jF (mP p) gs (fI p) (nth r.2 k) (bL p 1 i k)) r.1 (nth p.ag i).w)
theorem yp(h:bJ p){i n:Nat}{s:Os}(hi:i<p.ag.length)(hs:fS p n s):RgS p i s (fa p (ch p) s.gs (nth p.ag i).next):=by
 have hb:=hs.bits h (List.prefix_refl _) hs.gi (h.rn i hi).1
 rw[(h.rn i hi).2]at hb
 exact⟨hb,nB hb.gi fun k hk cW hp hg=>Du nH hg (hs.kK h (hb.pre.trans hp)) (hb.at hp hk) (uQ (zD hi hk) _)⟩
theorem xg(h:bJ p):∀i,i≤p.ag.length→fS p (pG p i) (eL p i)
 |0,_=>by
  have hf:=yw h _ (bm _)
  have hq:=tW h _ (bm _)
  exact⟨List.prefix_refl _,hf.gi,by have:=hf.len;have:=hq.len;simp only[eL,pG];omega,rfl,fun i hi=>by simp[eL]at hi⟩
 |i+1,hi=>by
  have ih:=xg h i (by omega)
  obtain⟨hb,ht⟩:=yp h (show i<p.ag.length by omega) ih
  simp only[eL]
  generalize eL p i=s at *
  generalize fa p (ch p) s.gs (nth p.ag i).next=r at *
  rw[hb.wid]
  refine ih.app (hb.pre.trans ht.pre) ht.gi ?_ (by rw[cX,ht.wid]) fun k hk=>ht.nd k (by rw[ht.wid]at hk;exact hk)
  have h1:=ih.len;have h2:=hb.len;have h3:=ht.len
  rw[pG];omega
theorem I7(h:bJ p):∀i,i≤p.ae.length→fS p (pG p p.ag.length+i) (jU p i)
 |0,_=>xg h _ (bm _)
 |i+1,hi=>by
  have ih:=I7 h i (by omega)
  have ha:=qJ nH ih.gi (ih.kK h (List.prefix_refl _)) (ih.Dh h (List.prefix_refl _) (show i<p.ae.length by omega))
  simp only[jU]
  exact ih.app ha.pre ha.gi (by have:=ha.len;have:=ih.len;omega) rfl (PH ha.nd)
structure PuS (p:Pr) (i:Nat) (s:Os) (a:Re) (r:Gs × List Int):Prop where
 ha:Rs (mP p) 1 s.gs a
 hb:Bs (mP p) (bQ (aI p) (nth p.ao i).da) (nth p.ao i).w a.1 r
 ht:Bs (mP p) (1*(nth p.ao i).w) (nth p.ao i).w r.1 (dh (fun gs k=>du (mP p) gs a.2 (nth r.2 k)) r.1 (nth p.ao i).w)
theorem zb(h:bJ p){i n:Nat}{s:Os}(hi:i<p.ao.length)(hs:fS p n s):PuS p i s (du (mP p) s.gs (fI p) (nth (kB p) i)) (fa p (ch p) (du (mP p) s.gs (fI p) (nth (kB p) i)).1 (nth p.ao i).da):=by
 have ha:=qJ nH hs.gi (hs.kK h (List.prefix_refl _)) (hs.Di h (List.prefix_refl _) hi)
 have hb:=hs.bits h ha.pre ha.gi (h.qd i hi).1
 rw[(h.qd i hi).2]at hb
 exact⟨ha,hb,nB hb.gi fun k hk cW hp hg=>qJ nH hg (ha.nd.pre (hb.pre.trans hp)) (hb.at hp hk)⟩
theorem yu(h:bJ p):∀i,i≤p.ao.length→fS p (wO p i) (jq p i)
 |0,_=>I7 h _ (bm _)
 |i+1,hi=>by
  have ih:=yu h i (by omega)
  obtain⟨ha,hb,ht⟩:=zb h (show i<p.ao.length by omega) ih
  simp only[jq]
  generalize jq p i=s at *
  generalize du (mP p) s.gs (fI p) (nth (kB p) i)=a at *
  generalize fa p (ch p) a.1 (nth p.ao i).da=r at *
  rw[hb.wid,List.append_assoc,List.append_assoc]
  refine ih.app (ha.pre.trans (hb.pre.trans ht.pre)) ht.gi ?_ (by simp[cX,ht.wid]) fun k hk=>?_
  ·have h1:=ih.len;have h2:=hb.len;have h3:=ht.len;have h4:=ha.len
   rw[wO];omega
  ·simp only[List.length_append,List.length_cons,List.length_nil,ht.wid]at hk
   by_cases e:k=0
   ·subst e;exact ha.nd.pre (hb.pre.trans ht.pre)
   ·rw[qx (by simp only[List.length_cons,List.length_nil];omega)];exact ht.nd _ (by simp only[List.length_cons,List.length_nil];omega)
structure MeS (p:Pr) (i:Nat) (s:Os) (e:Gs × List Int) (a:Re) (d w:Gs × List Int):Prop where
 he:Bs (mP p) (bQ (aI p) (nth p.mems i).en) 1 s.gs e
 ha:Rs (mP p) 1 e.1 a
 hd:Bs (mP p) (bQ (aI p) (nth p.mems i).ad) (aM (aI p) (nth p.mems i).ad) a.1 d
 hw:Bs (mP p) (bQ (aI p) (nth p.mems i).da) (nth p.mems i).w d.1 w
theorem za(h:bJ p){i n:Nat}{s:Os}(hi:i<p.mems.length)(hs:fS p n s){e:Gs × List Int}{a:Re}{d w:Gs × List Int}(he:e=fa p (ch p) s.gs (nth p.mems i).en)(ha:a=du (mP p) e.1 (fI p) (nth e.2 0))(hd:d=fa p (ch p) a.1 (nth p.mems i).ad)(hw:w=fa p (ch p) d.1 (nth p.mems i).da):MeS p i s e a d w:=by
 have h1:=hs.bits h (List.prefix_refl _) hs.gi (h.me i hi).1
 rw[(h.me i hi).2,←he]at h1
 have h2:=qJ nH h1.gi (hs.kK h h1.pre) (h1.nd 0 (by decide))
 rw[←ha]at h2
 have h3:=hs.bits h (h1.pre.trans h2.pre) h2.gi (h.ma i hi)
 rw[←hd]at h3
 have h4:=hs.bits h (h1.pre.trans (h2.pre.trans h3.pre)) h3.gi (h.md i hi).1
 rw[(h.md i hi).2,←hw]at h4
 exact⟨h1,h2,h3,h4⟩
theorem tX(l:List Int)(n:Nat):(gS l n).length=3:=by simp[gS]
theorem uT(h:bJ p):∀i,i≤p.mems.length→fS p (wQ p i) (gU p i)
 |0,_=>yu h _ (bm _)
 |i+1,hi=>by
  have ih:=uT h i (by omega)
  simp only[gU]
  generalize gU p i=s at *
  generalize he:fa p (ch p) s.gs (nth p.mems i).en=e
  generalize ha:du (mP p) e.1 (fI p) (nth e.2 0)=a
  generalize hd:fa p (ch p) a.1 (nth p.mems i).ad=d
  generalize hw:fa p (ch p) d.1 (nth p.mems i).da=w
  obtain⟨h1,h2,h3,h4⟩:=za h (show i<p.mems.length by omega) ih he.symm ha.symm hd.symm hw.symm
  rw[h4.wid,List.append_assoc,List.append_assoc,List.append_assoc,List.append_assoc]
  refine ih.app (h1.pre.trans (h2.pre.trans (h3.pre.trans h4.pre))) h4.gi ?_ (by simp[cX,h4.wid,tX]) fun k hk=>?_
  ·have l1:=ih.len;have l2:=h1.len;have l3:=h2.len;have l4:=h3.len;have l5:=h4.len
   rw[wQ];omega
  ·simp only[List.length_append,List.length_cons,List.length_nil,h4.wid,tX]at hk
   by_cases e0:k=0
   ·subst e0;exact h2.nd.pre (h3.pre.trans h4.pre)
   ·rw[qx (by simp only[List.length_cons,List.length_nil];omega)]
    simp only[List.length_cons,List.length_nil]
    by_cases e1:k - (0+1)<3
    ·rw[nQ (by rw[tX];exact e1)]
     exact(Dt nH (fun j hj=>h3.nd j (by rw[h3.wid]at hj;exact hj)) e1).pre h4.pre
    ·rw[qx (by rw[tX];omega),tX]
     exact h4.nd _ (by omega)
end
theorem FK{f:Nat→Nat}(h:∀k,f k≤f (k+1)){a b:Nat}(vE:a≤b):f a≤f b:=by
 induction b with
 |zero=>
   have:a=0:=by omega
   subst this;exact bm _
 |succ b ih=>
  by_cases e:a=b+1
  ·subst e;exact bm _
  ·exact Nat.le_trans (ih (by omega)) (h b)
section
variable {p:Pr}
theorem PF{k:Nat}(hk:k≤p.mems.length):wQ p k≤qB p:=FK (fun k=>by rw[wQ];omega) hk
theorem PE{k:Nat}(hk:k≤p.ao.length):wO p k≤qB p:=Nat.le_trans (FK (fun k=>by rw[wO];omega) hk) (PF (k:=0) (by omega))
theorem LJ{k:Nat}(hk:k≤p.ag.length):pG p k≤qB p:=Nat.le_trans (FK (fun k=>by rw[pG];omega) hk) (Nat.le_trans (by rw[wO];omega) (PE (k:=0) (by omega)))
theorem PD{k:Nat}(hk:k≤p.ao.length):wP p k≤qB p:=Nat.le_trans (FK (fun k=>by rw[wP];omega) hk) (Nat.le_trans (by rw[pG];omega) (LJ (k:=0) (by omega)))
theorem yb1{k:Nat}(hk:k≤p.ae.length):x9 p k≤qB p:=Nat.le_trans (FK (fun k=>by rw[x9];omega) hk) (Nat.le_trans (by rw[wP];omega) (PD (k:=0) (by omega)))
end
end
theorem yj1{n:Int}(h:nN n):(Lit.int .i64 n).wf=true:=by
 obtain⟨h1,h2⟩:=h
 simp[Lit.wf];exact⟨h1,by omega⟩
theorem Ax{P:Program}{e:TypeId}(hu:P.underlying e=some (.int .i64)){n:Int}(hn:nN n)(d:Nat):P.keyLits (d+1) e [.int .i64 n]=some [.int .i64 n]:=by
 simp[Program.keyLits,hu,yj1 hn]
theorem jev{n:Nat}(h:Nat.ble 1 n=true):∃d,n=d+1:=⟨n - 1,by have:=bN h;omega⟩
theorem nP{n:Int}(h0: -1000000000000≤n)(h1:n≤1000000000000):nN n:=⟨by omega,by omega⟩
def wV(w:aB):Value:=.agg #[.int .i64 w.kind,.int .i64 w.i,.int .i64 w.bit]
def gV(g:Gate):Value:=.agg #[.int .i64 g.op,.int .i64 g.a,.int .i64 g.b,.int .i64 g.c,.int .i64 g.n]
theorem yb2{a b:aB}(h:wV a=wV b):a=b:=by
 unfold wV at h
 injection h with h
 have h':=congrArg Array.toList h
 cases a;cases b
 simpa using h'
theorem yb3{a b:Gate}(h:gV a=gV b):a=b:=by
 unfold gV at h
 injection h with h
 have h':=congrArg Array.toList h
 cases a;cases b
 simpa using h'
theorem Fw{a b c:Int}(ha:nN a)(hb:nN b)(hc:nN c):pU prog 189 (.agg #[.int .i64 a,.int .i64 b,.int .i64 c]):=by
 refine⟨rfl,fun kt et hm=>?_⟩
 have h0:j4 prog 189=some (121,3):=by kernel_rfl
 rw[h0]at hm;cases hm
 obtain⟨nn,oZ⟩:∃nn,prog.types.size=nn+1:=jev (by kernel_rfl)
 have h1:prog.keyType 121=true:=by kernel_rfl
 have h2:prog.cellsOf 121=3:=by kernel_rfl
 have h3:prog.cellsOf 3=1:=by kernel_rfl
 unfold keyOf
 rw[underlying121]
 have h4:Value.formed prog 121 (.agg #[.int .i64 a,.int .i64 b,.int .i64 c])=true:=by
  unfold Value.formed
  simp only[underlying121,h2];rfl
 simp only[h1,h4,Bool.and_self,if_true,oZ]
 unfold Program.keyLits
 simp only[underlying121,h2,h3,Value.cells,List.mapM_cons,List.mapM_nil,List.drop_zero,List.drop_succ_cons,List.take_succ_cons,List.take_zero,Ax underlying3 ha,Ax underlying3 hb,Ax underlying3 hc]
 rw[if_pos ⟨rfl,by first|rfl|decide|simp⟩];rfl
theorem yb4{a b c d e:Int}(ha:nN a)(hb:nN b)(hc:nN c)(hd:nN d)(he:nN e):pU prog 188 (.agg #[.int .i64 a,.int .i64 b,.int .i64 c,.int .i64 d,.int .i64 e]):=by
 refine⟨rfl,fun kt et hm=>?_⟩
 have h0:j4 prog 188=some (123,3):=by kernel_rfl
 rw[h0]at hm;cases hm
 obtain⟨nn,oZ⟩:∃nn,prog.types.size=nn+1:=jev (by kernel_rfl)
 have h1:prog.keyType 123=true:=by kernel_rfl
 have h2:prog.cellsOf 123=5:=by kernel_rfl
 have h3:prog.cellsOf 3=1:=by kernel_rfl
 unfold keyOf
 rw[underlying123]
 have h4:Value.formed prog 123 (.agg #[.int .i64 a,.int .i64 b,.int .i64 c,.int .i64 d,.int .i64 e])=true:=by
  unfold Value.formed
  simp only[underlying123,h2];rfl
 simp only[h1,h4,Bool.and_self,if_true,oZ]
 unfold Program.keyLits
 simp only[underlying123,h2,h3,Value.cells,List.mapM_cons,List.mapM_nil,List.drop_zero,List.drop_succ_cons,List.take_succ_cons,List.take_zero,Ax underlying3 ha,Ax underlying3 hb,Ax underlying3 hc,Ax underlying3 hd,Ax underlying3 he]
 rw[if_pos ⟨rfl,by first|rfl|decide|simp⟩];rfl
end Go.Proofs.YtapjobndmmkanaaGreat
