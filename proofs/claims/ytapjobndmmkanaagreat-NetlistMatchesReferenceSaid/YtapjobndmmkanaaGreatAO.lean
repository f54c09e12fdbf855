/- Of no program: the operations of the abstract machine as functions. -/
import Derived.Test.YtapjobndmmkanaaGreatA24
set_option linter.unusedVariables false
set_option linter.unusedSimpArgs false
namespace Go.Proofs.YtapjobndmmkanaaGreat
open Go Go.RowKit
section
variable (P:Program) (N:Nat) (H:av)
def fS(t:TypeId)(p:AV):Option AV:=
 match fC P t,dU P t with
 |some g,some k=>match p with
  | .d (.fp cs i)=>if g then(ec cs i k).map fun l=>.d (.agg l)else(cs[i]?).map .d
  | .op id i=>if id<N then(match H[id]? with|some (.cells cs)=>if g then(ec cs i k).map .agg else cs[i]? |_=>none)else none
  |_=>none
 |_,_=>none
def eh(t:TypeId)(f:Nat)(p:AV):Option AV:=
 match eD P t f,p with
 |some o,.d (.fp cs i)=>some (.d (.fp cs (i+o)))
 |some o,.op id i=>some (.op id (i+o))
 |_,_=>none
def oO(g:Bool)(cs:List AV)(o n:Nat):Option AV:=if g then(ec cs o n).map .agg else cs[o]?
def lF(t:TypeId)(f:Nat)(p:AV):Option AV:=
 match Lk P t f,partsOf p with
 |some (o,n,g),some cs=>oO g cs o n
 |_,_=>none
def x5:AV→Option Int
 | .d (.val (.int _ i))=>some i
 |_=>none
def ee(t:TypeId)(p ix:AV):Option AV:=
 match x5 ix,fB P t with
 |some i,some (len,_,s)=>if 0≤i then(match len,p with
  |none,.d (.fs cs n)=>if i<n then some (.d (.fp cs (i.toNat*s)))else none
  |none,.os k id off n=>if i<n∧k=s then some (.op id (off+i.toNat*s))else none
  |some n,.d (.fp cs o)=>if i<n then some (.d (.fp cs (o+i.toNat*s)))else none
  |some n,.op id o=>if i<n then some (.op id (o+i.toNat*s))else none
  |_,_=>none)else none
 |_,_=>none
def lx(t:TypeId)(p ix:AV):Option AV:=
 match x5 ix,fB P t,partsOf p with
 |some i,some (some len,e,s),some cs=>(match fC P e with|some g=>if 0≤i∧i<len then oO g cs (i.toNat*s) s else none|none=>none)
 |some i,_,_=>(match p,P.underlying t with
  | .d (.val (.string s)),some .string=>if 0≤i then(s[i.toNat]?).map fun b=>.d (.val (.int .u8 b.toNat))else none
  |_,_=>none)
 |_,_,_=>none
def lr(t:TypeId)(p:AV)(lo hi:Option AV):Option AV:=
 match p with
 | .d (.fs cs n)=>(match fB P t,nJ 0 lo,nJ n hi with
  |some (none,_,s),some l,some h=>if 0≤l∧l≤h∧h≤n then some (.d (.fs ((cs.drop (l.toNat*s)).take ((h - l).toNat*s)) (h - l).toNat))else none
  |_,_,_=>none)
 | .os k id off n=>(match fB P t,nJ 0 lo,nJ n hi with
  |some (none,_,s),some l,some h=>if s=k∧0≤l∧l≤h∧h≤n then some (.os k id (off+l.toNat*k) (h - l).toNat)else none
  |_,_,_=>none)
 | .d (.val (.string s))=>(match P.underlying t,nJ 0 lo,nJ s.size hi with
  |some .string,some l,some h=>if 0≤l∧l≤h∧h≤s.size then some (.d (.val (.string (s.extract l.toNat h.toNat))))else none
  |_,_,_=>none)
 | .op id o=>(match fB P t with
  |some (some n,_,s)=>(match nJ 0 lo,nJ n hi,H[id]? with
   |some l,some h,some (.cells cs)=>if id<N∧o+n*s≤cs.length∧n≤maxLen∧0≤l∧l≤h∧h≤n then some (.os s id (o+l.toNat*s) (h - l).toNat)else none
   |_,_,_=>none)
  |_=>none)
 |_=>none
def s9(op:BinOp)(t:TypeId)(y z:AV):Option AV:=
 match y,z with
 | .d (.val u),.d (.val v)=>(iO P op t u v).map fun r=>.d (.val r)
 |y,z=>(JO P op t y z).map fun b=>.d (.val (.bool b))
def FM(op:UnOp)(y:AV):Option AV:=
 match y with
 | .d (.val u)=>(J0 op u).map fun r=>.d (.val r)
 |_=>none
def oR(s t:TypeId)(y:AV):Option AV:=
 match y,tk P s,tk P t with
 | .d (.val (.int _ n)),some _,some k'=>some (.d (.val (.int k' (k'.wrap n))))
 |_,_,_=>none
def jH(t:TypeId)(ps:List (Nat × AV)):Option AV:=
 if lh P t then(match fu P t with
  |some zs=>if zs.all D.one then(u3 (eE P t) (zs.map .d) ps).map .agg else none
  |none=>none)else none
def v8(t:TypeId)(p:AV):Option Int:=
 match p,fB P t with
 | .d (.fs _ m),some (none,_,_)=>some m
 | .os _ _ _ m,some (none,_,_)=>some m
 | .d (.val (.slice _ m _)),some (none,_,_)=>some m
 | .agg _,some (some k,_,_)=>some k
 | .d (.agg _),some (some k,_,_)=>some k
 | .d (.val (.string s)),_=>(match P.underlying t with|some .string=>some s.size|_=>none)
 |_,_=>none
def dF(b:Builtin)(ts:List TypeId)(xs:List AV):Option AV:=
 match b,ts,xs with
 | .len,[t],[y]=>(v8 P t y).map fun n=>.d (.val (.int .i64 n))
 | .max,_,[.d (.val (.int k a)),.d (.val (.int _ b))]=>some (.d (.val (.int k (max a b))))
 | .min,_,[.d (.val (.int k a)),.d (.val (.int _ b))]=>some (.d (.val (.int k (min a b))))
 | .max,_,[.d (.val (.int k a)),.d (.val (.int _ b)),.d (.val (.int _ c))]=>some (.d (.val (.int k (max (max a b) c))))
 | .min,_,[.d (.val (.int k a)),.d (.val (.int _ b)),.d (.val (.int _ c))]=>some (.d (.val (.int k (min (min a b) c))))
 |_,_,_=>none
variable (KT:TypeId→Bool)
def yC(t:TypeId)(m key:AV)(ok:Bool):Option AV:=
 match j5 P t,oa key,xN H N m with
 |some (kt,et),some v,some es=>(match w9 P et with
  |some z=>if KT kt&&mr v&&(keyOf P kt v).isSome&&o8 P kt es then some (Oq ok z (jS v es 0))else none
  |none=>none)
 |_,_,_=>none
def ng:AV→Bool
 | .op _ _=>true
 | .d (.fp _ _)=>true
 | .dC (.func _) _ _=>true
 |_=>false
def vj(ρ:Operand→AV)(op:Op):Option AV:=
 match op with
 | .move y| .assign y=>some (ρ y)
 | .pick c a b=>(match ρ c with| .d (.val (.bool t))=>some (if t then ρ a else ρ b)|_=>none)
 | .load t p=>fS P N H t (ρ p)
 | .fieldAddr t p f=>eh P t f (ρ p)
 | .field t p f=>lF P t f (ρ p)
 | .indexAddr t p i=>ee P t (ρ p) (ρ i)
 | .index t p i=>lx P t (ρ p) (ρ i)
 | .slice t p lo hi none=>lr P N H t (ρ p) (lo.map ρ) (hi.map ρ)
 | .binOp op t y z _=>s9 P op t (ρ y) (ρ z)
 | .unOp op _ y=>FM op (ρ y)
 | .convert s t y=>oR P s t (ρ y)
 | .build t parts=>jH P t (parts.toList.map fun p=>(p.1,ρ p.2))
 | .extract t i=>(match ρ t with| .dR vs=>vs[i]? |_=>none)
 | .nilCheck y=>if ng (ρ y)then some (ρ y)else none
 | .lookup t m k ok=>yC P N H KT t (ρ m) (ρ k) ok
 | .makeFunc fn fi ca=>some (.dC fn (fi.toList.map ρ) (ca.toList.map ρ))
 | .call c=>(match c.callee with
  | .builtin b=>dF P b c.argTypes.toList (c.args.toList.map ρ)
  |_=>none)
 |_=>none
end
section
variable {P:Program} {N:Nat} {H:av} {KT:TypeId→Bool}
theorem BR{t:TypeId}{p x:AV}(h:fS P N H t p=some x):lX P H N t p x:=by
 unfold fS at h
 split at h
 ·rename_i g k hg hk
  split at h
  ·cases g
   ·simp only[Bool.false_eq_true,if_false,dc]at h
    obtain⟨y,hy,rfl⟩:=h
    exact⟨false,k,hg,hk,y,hy,rfl⟩
   ·simp only[if_true,dc]at h
    obtain⟨l,hl,rfl⟩:=h
    exact⟨true,k,hg,hk,l,hl,rfl⟩
  ·split at h
   ·rename_i hid
    split at h
    ·rename_i cs mM
     cases g
     ·simp only[Bool.false_eq_true,if_false]at h
      exact⟨false,k,hg,hk,hid,cs,mM,h⟩
     ·simp only[if_true,dc]at h
      obtain⟨l,hl,rfl⟩:=h
      exact⟨true,k,hg,hk,hid,cs,mM,l,hl,rfl⟩
    ·cases h
   ·cases h
  ·cases h
 ·cases h
theorem ztd{t:TypeId}{f:Nat}{p x:AV}(h:eh P t f p=some x):iZ P t f p x:=by
 unfold eh at h
 split at h
 ·rename_i o cs i ho;cases h;exact⟨o,ho,rfl⟩
 ·rename_i o id i ho;cases h;exact⟨o,ho,rfl⟩
 ·cases h
theorem Rf{g:Bool}{cs:List AV}{o n:Nat}{x:AV}(h:oO g cs o n=some x):lT g cs o n x:=by
 unfold oO at h
 unfold lT
 cases g
 ·simpa using h
 ·simp only[if_true,dc]at h ⊢
  obtain⟨l,hl,rfl⟩:=h
  exact⟨l,hl,rfl⟩
theorem jf2{t:TypeId}{f:Nat}{p x:AV}(h:lF P t f p=some x):pG P t f p x:=by
 unfold lF at h
 split at h
 ·rename_i o n g cs hf hp;exact⟨o,n,g,cs,hf,hp,Rf h⟩
 ·cases h
theorem xC{x:AV}{i:Int}(h:x5 x=some i):∃k,x= .d (.val (.int k i)):=by
 unfold x5 at h
 split at h
 ·cases h;exact⟨_,rfl⟩
 ·cases h
theorem zte{t:TypeId}{p ix x:AV}(h:ee P t p ix=some x):iY P t p ix x:=by
 unfold ee at h
 split at h
 ·rename_i i len e s hi he
  obtain⟨k,rfl⟩:=xC hi
  split at h
  ·rename_i h0
   refine⟨k,i,len,e,s,rfl,he,h0,?_⟩
   split at h
   ·split at h
    ·rename_i aA;cases h;exact⟨aA,rfl⟩
    ·cases h
   ·split at h
    ·rename_i aA;cases h;exact⟨aA.1,aA.2,rfl⟩
    ·cases h
   ·split at h
    ·rename_i aA;cases h;exact⟨aA,rfl⟩
    ·cases h
   ·split at h
    ·rename_i aA;cases h;exact⟨aA,rfl⟩
    ·cases h
   ·cases h
  ·cases h
 ·cases h
theorem jf3{t:TypeId}{p ix x:AV}(h:lx P t p ix=some x):pF P t p ix x:=by
 unfold lx at h
 split at h
 ·rename_i i len e s cs hi he hp
  obtain⟨k,rfl⟩:=xC hi
  split at h
  ·rename_i g hg
   split at h
   ·rename_i hb;exact .inl ⟨k,i,len,e,s,g,cs,rfl,he,hg,hp,hb.1,hb.2,Rf h⟩
   ·cases h
  ·cases h
 ·rename_i i hi _
  obtain⟨k,rfl⟩:=xC hi
  split at h
  ·rename_i s ht _
   split at h
   ·rename_i h0
    obtain⟨b,hb,rfl⟩:=dc.1 h
    exact .inr ⟨k,i,s,b,rfl,ht,rfl,h0,hb,rfl⟩
   ·cases h
  ·cases h
 ·cases h
theorem jf4{t:TypeId}{p x:AV}{lo hi:Option AV}(h:lr P N H t p lo hi=some x):lI P H N t p lo hi x:=by
 unfold lr at h
 split at h
 ·split at h
  ·rename_i cs n e s l hh he hl rV
   split at h
   ·rename_i hb;cases h;exact⟨e,s,l,hh,he,hl,rV,hb.1,hb.2.1,hb.2.2,rfl⟩
   ·cases h
  ·cases h
 ·split at h
  ·rename_i k id off n e s l hh he hl rV
   split at h
   ·rename_i hb
    obtain⟨rfl,b1,b2,b3⟩:=hb
    cases h;exact⟨e,l,hh,he,hl,rV,b1,b2,b3,rfl⟩
   ·cases h
  ·cases h
 ·split at h
  ·rename_i s l hh hu hl rV
   split at h
   ·rename_i hb;cases h;exact⟨l,hh,hu,hl,rV,hb.1,hb.2.1,hb.2.2,rfl⟩
   ·cases h
  ·cases h
 ·split at h
  ·rename_i id o n e s he
   split at h
   ·rename_i l hh cs hl rV mM
    split at h
    ·rename_i hb
     obtain⟨b1,b2,b3,b4,b5,b6⟩:=hb
     cases h;exact⟨n,e,s,l,hh,cs,he,b1,mM,b2,b3,hl,rV,b4,b5,b6,rfl⟩
    ·cases h
   ·cases h
  ·cases h
 ·cases h
theorem jf5{t:TypeId}{ps:List (Nat × AV)}{x:AV}(h:jH P t ps=some x):pH P t ps x:=by
 unfold jH at h
 split at h
 ·rename_i hp
  split at h
  ·rename_i zs hz
   split at h
   ·rename_i h1
    obtain⟨cs,mM,rfl⟩:=dc.1 h
    exact⟨hp,zs,cs,hz,h1,mM,rfl⟩
   ·cases h
  ·cases h
 ·cases h
theorem jrk{t:TypeId}{p:AV}{n:Int}(h:v8 P t p=some n):w5 P t p n:=by
 unfold v8 at h
 split at h
 ·rename_i e s he;cases h;exact⟨by rw[he];simp,⟨e,s,he⟩,rfl⟩
 ·rename_i e s he;cases h;exact⟨⟨e,s,he⟩,rfl⟩
 ·rename_i e s he;cases h;exact⟨⟨e,s,he⟩,rfl⟩
 ·rename_i e s he;cases h;exact⟨_,e,s,he,rfl⟩
 ·rename_i e s he;cases h;exact⟨_,e,s,he,rfl⟩
 ·split at h
  ·rename_i hu;cases h;exact⟨hu,rfl⟩
  ·cases h
 ·cases h
theorem zyj{b:Builtin}{ts:List TypeId}{xs:List AV}{x:AV}(h:dF P b ts xs=some x):IT P b ts xs x:=by
 unfold dF at h
 split at h
 ·obtain⟨n,hn,rfl⟩:=dc.1 h;exact⟨n,jrk hn,rfl⟩
 ·cases h;rfl
 ·cases h;rfl
 ·cases h;rfl
 ·cases h;rfl
 ·cases h
theorem jnw{ρ:Operand→AV}{op:Op}{x:AV}(gE:∀k,KT k=true→Maps.Keyed P k)(h:vj P N H KT ρ op=some x):iq P N H ρ op x:=by
 unfold vj at h
 unfold iq
 split at h
 ·cases h;rfl
 ·cases h;rfl
 ·split at h
  ·rename_i t ht;cases h;exact⟨t,ht,rfl⟩
  ·cases h
 ·exact BR h
 ·exact ztd h
 ·exact jf2 h
 ·exact zte h
 ·exact jf3 h
 ·exact jf4 h
 ·unfold s9 at h
  split at h
  ·rename_i u v hu hv
   obtain⟨r,hr,rfl⟩:=dc.1 h
   exact .inl ⟨u,v,r,hu,hv,hr,rfl⟩
  ·obtain⟨b,hb,rfl⟩:=dc.1 h
   exact .inr ⟨b,hb,rfl⟩
 ·unfold FM at h
  split at h
  ·rename_i u hu
   obtain⟨r,hr,rfl⟩:=dc.1 h
   exact⟨u,r,hu,hr,rfl⟩
  ·cases h
 ·unfold oR at h
  split at h
  ·rename_i j n k k' hy hs ht
   cases h;exact⟨k,k',j,n,hy,hs,ht,rfl⟩
  ·cases h
 ·exact jf5 h
 ·split at h
  ·rename_i vs hv;exact⟨vs,hv,h⟩
  ·cases h
 ·rename_i y
  split at h
  ·rename_i hn
   cases h
   refine⟨?_,rfl⟩
   unfold ng at hn
   split at hn
   ·rename_i e;rw[e];trivial
   ·rename_i e;rw[e];trivial
   ·rename_i e;rw[e];trivial
   ·cases hn
  ·cases h
 ·unfold yC at h
  split at h
  ·rename_i kt et v es hm hk he
   split at h
   ·rename_i z hz
    split at h
    ·rename_i hc
     simp only[fY]at hc
     obtain⟨⟨⟨c1,c2⟩,c3⟩,c4⟩:=hc
     cases h
     exact⟨kt,et,z,v,es,hm,gE _ c1,hz,hk,c2,c3,he,c4,rfl⟩
    ·cases h
   ·cases h
  ·cases h
 ·cases h;rfl
 ·rename_i cl
  obtain⟨callee,args,ts⟩:=cl
  cases callee with
  |builtin b=>exact zyj h
  |_=>cases h
 ·cases h
def vW(H:av)(s:Nat)(src:AV):Option (Nat × List AV):=
 match src with
 | .d (.fs cs n)=>if cs.length=n*s then some (n,cs.map .d)else none
 | .os k id off n=>if k=s then(match H[id]? with|some (.cells cs)=>(ec cs off (n*s)).map fun l=>(n,l)|_=>none)else none
 | .d (.val (.slice none 0 0))=>some (0,[])
 |_=>none
theorem jrl{H:av}{s m:Nat}{src:AV}{l:List AV}(h:vW H s src=some (m,l)):pB H s src m l:=by
 unfold vW at h
 split at h
 ·split at h
  ·rename_i hl;cases h;exact⟨hl,rfl,rfl⟩
  ·cases h
 ·split at h
  ·rename_i hk
   split at h
   ·rename_i cs mM
    obtain⟨l',hl,he⟩:=dc.1 h
    cases he
    exact⟨hk,cs,mM,hl,rfl⟩
   ·cases h
  ·cases h
 ·cases h;exact⟨rfl,rfl⟩
 ·cases h
def qE(P:Program)(t t':TypeId)(zs:List D)(b:Nat)(H:av)(s:Nat)(src:AV):Option (Nat × List AV):=
 if t'=t then vW H s src else match src with
 | .d (.val (.int _ m))=>if(tk P t').isSome=true∧0≤m∧1≤b then some (m.toNat,kl m.toNat zs)else none
 |_=>none
theorem Rc{P:Program}{t t':TypeId}{zs:List D}{b:Nat}{H:av}{s m:Nat}{src:AV}{l:List AV}(h1:zs.all D.one=true)(h:qE P t t' zs b H s src=some (m,l)):Eh P t t' zs b H s src m l:=by
 unfold qE at h
 split at h
 ·rename_i ht;exact .inl ⟨ht,jrl h⟩
 ·split at h
  ·split at h
   ·rename_i k n hc
    cases h
    exact .inr ⟨hc.1,h1,hc.2.2,⟨k,by rw[Int.toNat_of_nonneg hc.2.1]⟩,rfl⟩
   ·cases h
  ·cases h
def gS(P:Program)(iI:Nat)(ρ:Operand→AV)(op:Op)(H:av):Option (AV × bB × Option Nat):=
 match op with
 | .box _ y=>(lQ (ρ y)).map fun cs=>(.op iI 0,.cells cs,none)
 | .alloc t=>(j8 P t).map fun zs=>(.op iI 0,.cells (zs.map .d),none)
 | .makeSlice t l cp=>(match ot P t,x5 (ρ l),x5 (ρ cp)with
  |some (s,zs,b),some n,some m=>if 0≤n∧n≤m∧m≤maxLen∧b*m.toNat≤281474976710656 then some (.os s iI 0 n.toNat,.cells (kl n.toNat zs),none)else none
  |_,_,_=>none)
 | .makeMap t hint=>(match hint with
  |none=>some (.om iI,.map [] 0,none)
  |some y=>if(x5 (ρ y)).isSome&&(j5 P t).isSome then some (.om iI,.map [] 0,none)else none)
 | .buildSlice t len parts=>(match ot P t with
  |some (s,zs,_)=>if len*s≤16777216 then(u3 (fun i=>some (i*s,s)) (kl len zs) (parts.toList.map fun p=>(p.1,ρ p.2))).map fun cs=>(.os s iI 0 len,.cells cs,none)else none
  |none=>none)
 | .call c=>(match c.callee,c.args.toList,c.argTypes.toList with
  | .builtin .append,[s,y],[t,t']=>(match ot P t with
   |some (z,zs,b)=>(match qE P t t' zs b H z (ρ y)with
    |some (m,l)=>(match ρ s with
     | .os k id off n=>(match H[id]? with
      |some (.cells cs)=>if k=z∧off+n*z=cs.length∧n+m≤maxLen∧(n+m)*b≤140737488355328 then some (.os z iI 0 (n+m),.cells (cs.drop off++l),some id)else none
      |_=>none)
     | .d (.val (.slice none 0 0))=>if m≤maxLen∧m*b≤140737488355328 then some (.os z iI 0 m,.cells l,none)else none
     |_=>none)
    |none=>none)
   |none=>none)
  |_,_,_=>none)
 |_=>none
def iR(P:Program)(t:TypeId)(p y:AV)(H:av)(sh:List (Nat × Nat))(N1:Nat):Option av:=
 match p,lQ y with
 | .op id i,some l=>(match H[id]? with
  |some (.cells cs)=>if dU P t=some l.length∧i+l.length≤cs.length∧(sh.all fun q=>q.1 !=id&&q.2 !=id)=true∧N1≤id then some (H.set id (.cells (iF cs i l)))else none
  |_=>none)
 |_,_=>none
theorem Bp{sh:List (Nat × Nat)}{id:Nat}(h:(sh.all fun q=>q.1 !=id&&q.2 !=id)=true):∀q∈sh,q.1≠id∧q.2≠id:=fun q hq=>by
 have:=kB.1 h q hq
 simpa using this
theorem Mk{ρ:Operand→AV}{t:TypeId}{p y:Operand}{H H':av}{sh:List (Nat × Nat)}{N1:Nat}(h:iR P t (ρ p) (ρ y) H sh N1=some H'):vy P ρ (.store t p y) H sh N1 H':=by
 unfold iR at h
 split at h
 ·rename_i id i l hp hy
  split at h
  ·rename_i cs mM
   split at h
   ·rename_i hb;cases h;exact⟨id,i,cs,l,hp,mM,hb.1,hy,hb.2.1,Bp hb.2.2.1,hb.2.2.2,rfl⟩
   ·cases h
  ·cases h
 ·cases h
def x4(P:Program)(KT:TypeId→Bool)(ρ:Operand→AV)(op:Op)(H:av)(sh:List (Nat × Nat)):Option (AV × av):=
 match op with
 | .mapUpdate t m k y| .insert t m k y=>(match ρ m,j5 P t,oa (ρ k)with
  | .om id,some (kt,_),some v=>(match H[id]? with
   |some (.map es clock)=>if KT kt&&mr v&&(keyOf P kt v).isSome&&o8 P kt es&&(sh.all fun q=>q.1 !=id&&q.2 !=id)then
     some (.d (.val undef),H.set id (match jS v es 0 with|some (i,_)=>.map (es.modify i fun q=>(q.1,q.2.1,ρ y)) clock|none=>.map (es++[(v,clock,ρ y)]) (clock+1)))else none
   |_=>none)
  |_,_,_=>none)
 | .mapEntry t m k=>(match ρ m,j5 P t,oa (ρ k)with
  | .om id,some (kt,et),some v=>(match H[id]?,w9 P et with
   |some (.map es clock),some z=>if KT kt&&mr v&&(keyOf P kt v).isSome&&o8 P kt es&&(sh.all fun q=>q.1 !=id&&q.2 !=id)then
     (match jS v es 0 with
     |some (i,y)=>(es[i]?).map fun q=>(.dR [y,.d (.val (.int .i64 q.2.1))],H.set id (.map es clock))
     |none=>some (.dR [z,.d (.val (.int .i64 clock))],H.set id (.map (es++[(v,clock,z)]) (clock+1))))else none
   |_,_=>none)
  |_,_,_=>none)
 | .entryStore _ m s y=>(match ρ m,x5 (ρ s)with
  | .om id,some n=>(match H[id]? with
   |some (.map es clock)=>if(sh.all fun q=>q.1 !=id&&q.2 !=id)then
     (es.findIdx? (fun q=>(q.2.1:Int)==n)).map fun i=>(.d (.val undef),H.set id (.map (es.modify i fun q=>(q.1,q.2.1,ρ y)) clock))else none
   |_=>none)
  |_,_=>none)
 | .call c=>(match c.callee,c.args.toList,c.argTypes.toList with
  | .builtin .delete,[m,k],[t,_]=>(match ρ m,j5 P t,oa (ρ k)with
   | .om id,some (kt,_),some v=>(match H[id]? with
    |some (.map es clock)=>if KT kt&&mr v&&(keyOf P kt v).isSome&&o8 P kt es&&(sh.all fun q=>q.1 !=id&&q.2 !=id)then
      some (.dR [],H.set id (.map (match jS v es 0 with|some (i,_)=>es.eraseIdx i|none=>es) clock))else none
    |_=>none)
   |_,_,_=>none)
  | .builtin .clear,[m],[t]=>(match ρ m,j5 P t with
   | .om id,some _=>(match H[id]? with
    |some (.map _ clock)=>if(sh.all fun q=>q.1 !=id&&q.2 !=id)then some (.dR [],H.set id (.map [] clock))else none
    |_=>none)
   |_,_=>none)
  |_,_,_=>none)
 |_=>none
theorem LG{ρ:Operand→AV}{op:Op}{H H':av}{sh:List (Nat × Nat)}{x:AV}(gE:∀k,KT k=true→Maps.Keyed P k)(h:x4 P KT ρ op H sh=some (x,H')):pD P ρ op H sh x H':=by
 unfold x4 at h
 unfold pD
 split at h
 ·split at h
  ·rename_i id kt et v hm ht hk
   split at h
   ·rename_i es clock hid
    split at h
    ·rename_i hc
     simp only[fY]at hc
     obtain⟨⟨⟨⟨c1,c2⟩,c3⟩,c4⟩,c5⟩:=hc
     cases h
     exact⟨kt,et,v,es,clock,id,ht,gE _ c1,hk,c2,c3,hm,hid,c4,Bp c5,rfl,rfl⟩
    ·cases h
   ·cases h
  ·cases h
 ·split at h
  ·rename_i id kt et v hm ht hk
   split at h
   ·rename_i es clock hid
    split at h
    ·rename_i hc
     simp only[fY]at hc
     obtain⟨⟨⟨⟨c1,c2⟩,c3⟩,c4⟩,c5⟩:=hc
     cases h
     exact⟨kt,et,v,es,clock,id,ht,gE _ c1,hk,c2,c3,hm,hid,c4,Bp c5,rfl,rfl⟩
    ·cases h
   ·cases h
  ·cases h
 ·split at h
  ·rename_i id kt et v hm ht hk
   split at h
   ·rename_i es clock z hid hz
    split at h
    ·rename_i hc
     simp only[fY]at hc
     obtain⟨⟨⟨⟨c1,c2⟩,c3⟩,c4⟩,c5⟩:=hc
     refine⟨kt,et,z,v,es,clock,id,ht,gE _ c1,hz,hk,c2,c3,hm,hid,c4,Bp c5,?_⟩
     split at h
     ·rename_i i y hf
      obtain⟨q,hq,he⟩:=dc.1 h
      cases he
      rw[hf]
      exact⟨⟨q,hq,rfl⟩,rfl⟩
     ·rename_i hf
      cases h
      rw[hf]
      exact⟨rfl,rfl⟩
    ·cases h
   ·cases h
  ·cases h
 ·split at h
  ·rename_i id n hm hs
   obtain⟨kd,hs⟩:=xC hs
   split at h
   ·rename_i es clock hid
    split at h
    ·rename_i hc
     obtain⟨i,hi,he⟩:=dc.1 h
     cases he
     exact⟨kd,n,es,clock,id,i,hm,hid,Bp hc,hs,hi,rfl,rfl⟩
    ·cases h
   ·cases h
  ·cases h
 ·rename_i cl
  obtain⟨callee,⟨args⟩,⟨ts⟩⟩:=cl
  simp only at h ⊢
  split at h
  ·split at h
   ·rename_i id kt et v hm ht hk
    split at h
    ·rename_i es clock hid
     split at h
     ·rename_i hc
      simp only[fY]at hc
      obtain⟨⟨⟨⟨c1,c2⟩,c3⟩,c4⟩,c5⟩:=hc
      cases h
      exact⟨kt,et,v,es,clock,id,ht,gE _ c1,hk,c2,c3,hm,hid,c4,Bp c5,rfl,rfl⟩
     ·cases h
    ·cases h
   ·cases h
  ·split at h
   ·rename_i id q hm ht
    split at h
    ·rename_i es clock hid
     split at h
     ·rename_i hc
      cases h
      exact⟨q.1,q.2,es,clock,id,ht,hm,hid,Bp hc,rfl,rfl⟩
     ·cases h
    ·cases h
   ·cases h
  ·cases h
 ·cases h
end
end Go.Proofs.YtapjobndmmkanaaGreat
