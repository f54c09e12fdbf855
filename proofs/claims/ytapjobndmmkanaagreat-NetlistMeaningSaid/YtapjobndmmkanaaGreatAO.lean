/- Of no program: the operations of the abstract machine as functions. -/
import Derived.Test.YtapjobndmmkanaaGreatA24
set_option linter.unusedVariables false
set_option linter.unusedSimpArgs false
namespace Go.Proofs.YtapjobndmmkanaaGreat
open Go Go.RowKit
section
variable (P:Program) (N:Nat) (H:ak)
def ff(t:TypeId)(p:AV):Option AV:=
 match eI P t,dA P t with
 |some g,some k=>match p with
  | .d (.fp cs i)=>if g then(dJ cs i k).map fun l=>.d (.agg l)else(cs[i]?).map .d
  | .op id i=>if id<N then(match H[id]? with|some (.cells cs)=>if g then(dJ cs i k).map .agg else cs[i]? |_=>none)else none
  |_=>none
 |_,_=>none
def dt(t:TypeId)(f:Nat)(p:AV):Option AV:=
 match dL P t f,p with
 |some o,.d (.fp cs i)=>some (.d (.fp cs (i+o)))
 |some o,.op id i=>some (.op id (i+o))
 |_,_=>none
def oY(g:Bool)(cs:List AV)(o n:Nat):Option AV:=if g then(dJ cs o n).map .agg else cs[o]?
def lu(t:TypeId)(f:Nat)(p:AV):Option AV:=
 match Md P t f,partsOf p with
 |some (o,n,g),some cs=>oY g cs o n
 |_,_=>none
def yO:AV→Option Int
 | .d (.val (.int _ i))=>some i
 |_=>none
def dU(t:TypeId)(p ix:AV):Option AV:=
 match yO ix,fl P t with
 |some i,some (len,_,s)=>if 0≤i then(match len,p with
  |none,.d (.fs cs n)=>if i<n then some (.d (.fp cs (i.toNat*s)))else none
  |none,.os k id off n=>if i<n∧k=s then some (.op id (off+i.toNat*s))else none
  |some n,.d (.fp cs o)=>if i<n then some (.d (.fp cs (o+i.toNat*s)))else none
  |some n,.op id o=>if i<n then some (.op id (o+i.toNat*s))else none
  |_,_=>none)else none
 |_,_=>none
def lh(t:TypeId)(p ix:AV):Option AV:=
 match yO ix,fl P t,partsOf p with
 |some i,some (some len,e,s),some cs=>(match eI P e with|some g=>if 0≤i∧i<len then oY g cs (i.toNat*s) s else none|none=>none)
 |some i,_,_=>(match p,P.underlying t with
  | .d (.val (.string s)),some .string=>if 0≤i then(s[i.toNat]?).map fun b=>.d (.val (.int .u8 b.toNat))else none
  |_,_=>none)
 |_,_,_=>none
def ld(t:TypeId)(p:AV)(lo hi:Option AV):Option AV:=
 match p with
 | .d (.fs cs n)=>(match fl P t,nD 0 lo,nD n hi with
  |some (none,_,s),some l,some h=>if 0≤l∧l≤h∧h≤n then some (.d (.fs ((cs.drop (l.toNat*s)).take ((h - l).toNat*s)) (h - l).toNat))else none
  |_,_,_=>none)
 | .os k id off n=>(match fl P t,nD 0 lo,nD n hi with
  |some (none,_,s),some l,some h=>if s=k∧0≤l∧l≤h∧h≤n then some (.os k id (off+l.toNat*k) (h - l).toNat)else none
  |_,_,_=>none)
 | .d (.val (.string s))=>(match P.underlying t,nD 0 lo,nD s.size hi with
  |some .string,some l,some h=>if 0≤l∧l≤h∧h≤s.size then some (.d (.val (.string (s.extract l.toNat h.toNat))))else none
  |_,_,_=>none)
 | .op id o=>(match fl P t with
  |some (some n,_,s)=>(match nD 0 lo,nD n hi,H[id]? with
   |some l,some h,some (.cells cs)=>if id<N∧o+n*s≤cs.length∧n≤maxLen∧0≤l∧l≤h∧h≤n then some (.os s id (o+l.toNat*s) (h - l).toNat)else none
   |_,_,_=>none)
  |_=>none)
 |_=>none
def ur(op:BinOp)(t:TypeId)(y z:AV):Option AV:=
 match y,z with
 | .d (.val u),.d (.val v)=>(gT P op t u v).map fun r=>.d (.val r)
 |y,z=>(KC P op t y z).map fun b=>.d (.val (.bool b))
def GD(op:UnOp)(y:AV):Option AV:=
 match y with
 | .d (.val u)=>(KH op u).map fun r=>.d (.val r)
 |_=>none
def ng(s t:TypeId)(y:AV):Option AV:=
 match y,tP P s,tP P t with
 | .d (.val (.int _ n)),some _,some k'=>some (.d (.val (.int k' (k'.wrap n))))
 |_,_,_=>none
def iW(t:TypeId)(ps:List (Nat × AV)):Option AV:=
 if kD P t then(match eK P t with
  |some zs=>if zs.all D.one then(vJ (dH P t) (zs.map .d) ps).map .agg else none
  |none=>none)else none
def xu(t:TypeId)(p:AV):Option Int:=
 match p,fl P t with
 | .d (.fs _ m),some (none,_,_)=>some m
 | .os _ _ _ m,some (none,_,_)=>some m
 | .d (.val (.slice _ m _)),some (none,_,_)=>some m
 | .agg _,some (some k,_,_)=>some k
 | .d (.agg _),some (some k,_,_)=>some k
 | .d (.val (.string s)),_=>(match P.underlying t with|some .string=>some s.size|_=>none)
 |_,_=>none
def dz(b:Builtin)(ts:List TypeId)(xs:List AV):Option AV:=
 match b,ts,xs with
 | .len,[t],[y]=>(xu P t y).map fun n=>.d (.val (.int .i64 n))
 | .max,_,[.d (.val (.int k a)),.d (.val (.int _ b))]=>some (.d (.val (.int k (max a b))))
 | .min,_,[.d (.val (.int k a)),.d (.val (.int _ b))]=>some (.d (.val (.int k (min a b))))
 | .max,_,[.d (.val (.int k a)),.d (.val (.int _ b)),.d (.val (.int _ c))]=>some (.d (.val (.int k (max (max a b) c))))
 | .min,_,[.d (.val (.int k a)),.d (.val (.int _ b)),.d (.val (.int _ c))]=>some (.d (.val (.int k (min (min a b) c))))
 |_,_,_=>none
variable (KT:TypeId→Bool)
def zf(t:TypeId)(m key:AV)(ok:Bool):Option AV:=
 match j4 P t,nT key,yz H N m with
 |some (kt,et),some v,some es=>(match y2 P et with
  |some z=>if KT kt&&mI v&&(keyOf P kt v).isSome&&p9 P kt es then some (Pk ok z (j6 v es 0))else none
  |none=>none)
 |_,_,_=>none
def mU:AV→Bool
 | .op _ _=>true
 | .d (.fp _ _)=>true
 | .dk (.func _) _ _=>true
 |_=>false
def sU(ρ:Operand→AV)(op:Op):Option AV:=
 match op with
 | .move y| .assign y=>some (ρ y)
 | .pick c a b=>(match ρ c with| .d (.val (.bool t))=>some (if t then ρ a else ρ b)|_=>none)
 | .load t p=>ff P N H t (ρ p)
 | .fieldAddr t p f=>dt P t f (ρ p)
 | .field t p f=>lu P t f (ρ p)
 | .indexAddr t p i=>dU P t (ρ p) (ρ i)
 | .index t p i=>lh P t (ρ p) (ρ i)
 | .slice t p lo hi none=>ld P N H t (ρ p) (lo.map ρ) (hi.map ρ)
 | .binOp op t y z _=>ur P op t (ρ y) (ρ z)
 | .unOp op _ y=>GD op (ρ y)
 | .convert s t y=>ng P s t (ρ y)
 | .build t parts=>iW P t (parts.toList.map fun p=>(p.1,ρ p.2))
 | .extract t i=>(match ρ t with| .dc vs=>vs[i]? |_=>none)
 | .nilCheck y=>if mU (ρ y)then some (ρ y)else none
 | .lookup t m k ok=>zf P N H KT t (ρ m) (ρ k) ok
 | .makeFunc fn fi ca=>some (.dk fn (fi.toList.map ρ) (ca.toList.map ρ))
 | .call c=>(match c.callee with
  | .builtin b=>dz P b c.argTypes.toList (c.args.toList.map ρ)
  |_=>none)
 |_=>none
end
section
variable {P:Program} {N:Nat} {H:ak} {KT:TypeId→Bool}
theorem AA{t:TypeId}{p x:AV}(h:ff P N H t p=some x):lO P H N t p x:=by
 unfold ff at h
 split at h
 ·rename_i g k hg hk
  split at h
  ·cases g
   ·simp only[Bool.false_eq_true,if_false,cA]at h
    obtain⟨y,hy,rfl⟩:=h
    exact⟨false,k,hg,hk,y,hy,rfl⟩
   ·simp only[if_true,cA]at h
    obtain⟨l,hl,rfl⟩:=h
    exact⟨true,k,hg,hk,l,hl,rfl⟩
  ·split at h
   ·rename_i hid
    split at h
    ·rename_i cs nb
     cases g
     ·simp only[Bool.false_eq_true,if_false]at h
      exact⟨false,k,hg,hk,hid,cs,nb,h⟩
     ·simp only[if_true,cA]at h
      obtain⟨l,hl,rfl⟩:=h
      exact⟨true,k,hg,hk,hid,cs,nb,l,hl,rfl⟩
    ·cases h
   ·cases h
  ·cases h
 ·cases h
theorem zut{t:TypeId}{f:Nat}{p x:AV}(h:dt P t f p=some x):iY P t f p x:=by
 unfold dt at h
 split at h
 ·rename_i o cs i ho;cases h;exact⟨o,ho,rfl⟩
 ·rename_i o id i ho;cases h;exact⟨o,ho,rfl⟩
 ·cases h
theorem jbn{g:Bool}{cs:List AV}{o n:Nat}{x:AV}(h:oY g cs o n=some x):lI g cs o n x:=by
 unfold oY at h
 unfold lI
 cases g
 ·simpa using h
 ·simp only[if_true,cA]at h ⊢
  obtain⟨l,hl,rfl⟩:=h
  exact⟨l,hl,rfl⟩
theorem jih{t:TypeId}{f:Nat}{p x:AV}(h:lu P t f p=some x):pO P t f p x:=by
 unfold lu at h
 split at h
 ·rename_i o n g cs hf hp;exact⟨o,n,g,cs,hf,hp,jbn h⟩
 ·cases h
theorem vT{x:AV}{i:Int}(h:yO x=some i):∃k,x= .d (.val (.int k i)):=by
 unfold yO at h
 split at h
 ·cases h;exact⟨_,rfl⟩
 ·cases h
theorem zuu{t:TypeId}{p ix x:AV}(h:dU P t p ix=some x):iX P t p ix x:=by
 unfold dU at h
 split at h
 ·rename_i i len e s hi he
  obtain⟨k,rfl⟩:=vT hi
  split at h
  ·rename_i h0
   refine⟨k,i,len,e,s,rfl,he,h0,?_⟩
   split at h
   ·split at h
    ·rename_i aA;cases h;exact⟨aA,rfl⟩
    ·cases h
   ·split at h
    ·rename_i aA;cases h;exact⟨aA.1,aA.2,rfl⟩
    ·cases h
   ·split at h
    ·rename_i aA;cases h;exact⟨aA,rfl⟩
    ·cases h
   ·split at h
    ·rename_i aA;cases h;exact⟨aA,rfl⟩
    ·cases h
   ·cases h
  ·cases h
 ·cases h
theorem jii{t:TypeId}{p ix x:AV}(h:lh P t p ix=some x):pN P t p ix x:=by
 unfold lh at h
 split at h
 ·rename_i i len e s cs hi he hp
  obtain⟨k,rfl⟩:=vT hi
  split at h
  ·rename_i g hg
   split at h
   ·rename_i hb;exact .inl ⟨k,i,len,e,s,g,cs,rfl,he,hg,hp,hb.1,hb.2,jbn h⟩
   ·cases h
  ·cases h
 ·rename_i i hi _
  obtain⟨k,rfl⟩:=vT hi
  split at h
  ·rename_i s ht _
   split at h
   ·rename_i h0
    obtain⟨b,hb,rfl⟩:=cA.1 h
    exact .inr ⟨k,i,s,b,rfl,ht,rfl,h0,hb,rfl⟩
   ·cases h
  ·cases h
 ·cases h
theorem jij{t:TypeId}{p x:AV}{lo hi:Option AV}(h:ld P N H t p lo hi=some x):lx P H N t p lo hi x:=by
 unfold ld at h
 split at h
 ·split at h
  ·rename_i cs n e s l hh he hl si
   split at h
   ·rename_i hb;cases h;exact⟨e,s,l,hh,he,hl,si,hb.1,hb.2.1,hb.2.2,rfl⟩
   ·cases h
  ·cases h
 ·split at h
  ·rename_i k id off n e s l hh he hl si
   split at h
   ·rename_i hb
    obtain⟨rfl,b1,b2,b3⟩:=hb
    cases h;exact⟨e,l,hh,he,hl,si,b1,b2,b3,rfl⟩
   ·cases h
  ·cases h
 ·split at h
  ·rename_i s l hh hu hl si
   split at h
   ·rename_i hb;cases h;exact⟨l,hh,hu,hl,si,hb.1,hb.2.1,hb.2.2,rfl⟩
   ·cases h
  ·cases h
 ·split at h
  ·rename_i id o n e s he
   split at h
   ·rename_i l hh cs hl si nb
    split at h
    ·rename_i hb
     obtain⟨b1,b2,b3,b4,b5,b6⟩:=hb
     cases h;exact⟨n,e,s,l,hh,cs,he,b1,nb,b2,b3,hl,si,b4,b5,b6,rfl⟩
    ·cases h
   ·cases h
  ·cases h
 ·cases h
theorem jik{t:TypeId}{ps:List (Nat × AV)}{x:AV}(h:iW P t ps=some x):pP P t ps x:=by
 unfold iW at h
 split at h
 ·rename_i hp
  split at h
  ·rename_i zs hz
   split at h
   ·rename_i h1
    obtain⟨cs,nb,rfl⟩:=cA.1 h
    exact⟨hp,zs,cs,hz,h1,nb,rfl⟩
   ·cases h
  ·cases h
 ·cases h
theorem juy{t:TypeId}{p:AV}{n:Int}(h:xu P t p=some n):yc P t p n:=by
 unfold xu at h
 split at h
 ·rename_i e s he;cases h;exact⟨by rw[he];simp,⟨e,s,he⟩,rfl⟩
 ·rename_i e s he;cases h;exact⟨⟨e,s,he⟩,rfl⟩
 ·rename_i e s he;cases h;exact⟨⟨e,s,he⟩,rfl⟩
 ·rename_i e s he;cases h;exact⟨_,e,s,he,rfl⟩
 ·rename_i e s he;cases h;exact⟨_,e,s,he,rfl⟩
 ·split at h
  ·rename_i hu;cases h;exact⟨hu,rfl⟩
  ·cases h
 ·cases h
theorem zzr{b:Builtin}{ts:List TypeId}{xs:List AV}{x:AV}(h:dz P b ts xs=some x):Jo P b ts xs x:=by
 unfold dz at h
 split at h
 ·obtain⟨n,hn,rfl⟩:=cA.1 h;exact⟨n,juy hn,rfl⟩
 ·cases h;rfl
 ·cases h;rfl
 ·cases h;rfl
 ·cases h;rfl
 ·cases h
theorem LR{ρ:Operand→AV}{op:Op}{x:AV}(dB:∀k,KT k=true→Maps.Keyed P k)(h:sU P N H KT ρ op=some x):gR P N H ρ op x:=by
 unfold sU at h
 unfold gR
 split at h
 ·cases h;rfl
 ·cases h;rfl
 ·split at h
  ·rename_i t ht;cases h;exact⟨t,ht,rfl⟩
  ·cases h
 ·exact AA h
 ·exact zut h
 ·exact jih h
 ·exact zuu h
 ·exact jii h
 ·exact jij h
 ·unfold ur at h
  split at h
  ·rename_i u v hu hv
   obtain⟨r,hr,rfl⟩:=cA.1 h
   exact .inl ⟨u,v,r,hu,hv,hr,rfl⟩
  ·obtain⟨b,hb,rfl⟩:=cA.1 h
   exact .inr ⟨b,hb,rfl⟩
 ·unfold GD at h
  split at h
  ·rename_i u hu
   obtain⟨r,hr,rfl⟩:=cA.1 h
   exact⟨u,r,hu,hr,rfl⟩
  ·cases h
 ·unfold ng at h
  split at h
  ·rename_i j n k k' hy hs ht
   cases h;exact⟨k,k',j,n,hy,hs,ht,rfl⟩
  ·cases h
 ·exact jik h
 ·split at h
  ·rename_i vs hv;exact⟨vs,hv,h⟩
  ·cases h
 ·rename_i y
  split at h
  ·rename_i hn
   cases h
   refine⟨?_,rfl⟩
   unfold mU at hn
   split at hn
   ·rename_i e;rw[e];trivial
   ·rename_i e;rw[e];trivial
   ·rename_i e;rw[e];trivial
   ·cases hn
  ·cases h
 ·unfold zf at h
  split at h
  ·rename_i kt et v es hm hk he
   split at h
   ·rename_i z hz
    split at h
    ·rename_i hc
     simp only[gG]at hc
     obtain⟨⟨⟨c1,c2⟩,c3⟩,c4⟩:=hc
     cases h
     exact⟨kt,et,z,v,es,hm,dB _ c1,hz,hk,c2,c3,he,c4,rfl⟩
    ·cases h
   ·cases h
  ·cases h
 ·cases h;rfl
 ·rename_i cl
  obtain⟨callee,args,ts⟩:=cl
  cases callee with
  |builtin b=>exact zzr h
  |_=>cases h
 ·cases h
def xr(H:ak)(s:Nat)(src:AV):Option (Nat × List AV):=
 match src with
 | .d (.fs cs n)=>if cs.length=n*s then some (n,cs.map .d)else none
 | .os k id off n=>if k=s then(match H[id]? with|some (.cells cs)=>(dJ cs off (n*s)).map fun l=>(n,l)|_=>none)else none
 | .d (.val (.slice none 0 0))=>some (0,[])
 |_=>none
theorem juz{H:ak}{s m:Nat}{src:AV}{l:List AV}(h:xr H s src=some (m,l)):pJ H s src m l:=by
 unfold xr at h
 split at h
 ·split at h
  ·rename_i hl;cases h;exact⟨hl,rfl,rfl⟩
  ·cases h
 ·split at h
  ·rename_i hk
   split at h
   ·rename_i cs nb
    obtain⟨l',hl,he⟩:=cA.1 h
    cases he
    exact⟨hk,cs,nb,hl,rfl⟩
   ·cases h
  ·cases h
 ·cases h;exact⟨rfl,rfl⟩
 ·cases h
def qX(P:Program)(t t':TypeId)(zs:List D)(b:Nat)(H:ak)(s:Nat)(src:AV):Option (Nat × List AV):=
 if t'=t then xr H s src else match src with
 | .d (.val (.int _ m))=>if(tP P t').isSome=true∧0≤m∧1≤b then some (m.toNat,kx m.toNat zs)else none
 |_=>none
theorem jbp{P:Program}{t t':TypeId}{zs:List D}{b:Nat}{H:ak}{s m:Nat}{src:AV}{l:List AV}(h1:zs.all D.one=true)(h:qX P t t' zs b H s src=some (m,l)):EZ P t t' zs b H s src m l:=by
 unfold qX at h
 split at h
 ·rename_i ht;exact .inl ⟨ht,juz h⟩
 ·split at h
  ·split at h
   ·rename_i k n hc
    cases h
    exact .inr ⟨hc.1,h1,hc.2.2,⟨k,by rw[zn hc.2.1]⟩,rfl⟩
   ·cases h
  ·cases h
def fx(P:Program)(iA:Nat)(ρ:Operand→AV)(op:Op)(H:ak):Option (AV × bq × Option Nat):=
 match op with
 | .box _ y=>(lS (ρ y)).map fun cs=>(.op iA 0,.cells cs,none)
 | .alloc t=>(jO P t).map fun zs=>(.op iA 0,.cells (zs.map .d),none)
 | .makeSlice t l cp=>(match nG P t,yO (ρ l),yO (ρ cp)with
  |some (s,zs,b),some n,some m=>if 0≤n∧n≤m∧m≤maxLen∧b*m.toNat≤281474976710656 then some (.os s iA 0 n.toNat,.cells (kx n.toNat zs),none)else none
  |_,_,_=>none)
 | .makeMap t hint=>(match hint with
  |none=>some (.om iA,.map [] 0,none)
  |some y=>if(yO (ρ y)).isSome&&(j4 P t).isSome then some (.om iA,.map [] 0,none)else none)
 | .buildSlice t len parts=>(match nG P t with
  |some (s,zs,_)=>if len*s≤16777216 then(vJ (fun i=>some (i*s,s)) (kx len zs) (parts.toList.map fun p=>(p.1,ρ p.2))).map fun cs=>(.os s iA 0 len,.cells cs,none)else none
  |none=>none)
 | .call c=>(match c.callee,c.args.toList,c.argTypes.toList with
  | .builtin .append,[s,y],[t,t']=>(match nG P t with
   |some (z,zs,b)=>(match qX P t t' zs b H z (ρ y)with
    |some (m,l)=>(match ρ s with
     | .os k id off n=>(match H[id]? with
      |some (.cells cs)=>if k=z∧off+n*z=cs.length∧n+m≤maxLen∧(n+m)*b≤140737488355328 then some (.os z iA 0 (n+m),.cells (cs.drop off++l),some id)else none
      |_=>none)
     | .d (.val (.slice none 0 0))=>if m≤maxLen∧m*b≤140737488355328 then some (.os z iA 0 m,.cells l,none)else none
     |_=>none)
    |none=>none)
   |none=>none)
  |_,_,_=>none)
 |_=>none
def fN(P:Program)(t:TypeId)(p y:AV)(H:ak)(sh:List (Nat × Nat))(N1:Nat):Option ak:=
 match p,lS y with
 | .op id i,some l=>(match H[id]? with
  |some (.cells cs)=>if dA P t=some l.length∧i+l.length≤cs.length∧(sh.all fun q=>q.1 !=id&&q.2 !=id)=true∧N1≤id then some (H.set id (.cells (ir cs i l)))else none
  |_=>none)
 |_,_=>none
theorem BN{sh:List (Nat × Nat)}{id:Nat}(h:(sh.all fun q=>q.1 !=id&&q.2 !=id)=true):∀q∈sh,q.1≠id∧q.2≠id:=fun q hq=>by
 have:=kF.1 h q hq
 simpa using this
theorem FX{ρ:Operand→AV}{t:TypeId}{p y:Operand}{H H':ak}{sh:List (Nat × Nat)}{N1:Nat}(h:fN P t (ρ p) (ρ y) H sh N1=some H'):wR P ρ (.store t p y) H sh N1 H':=by
 unfold fN at h
 split at h
 ·rename_i id i l hp hy
  split at h
  ·rename_i cs nb
   split at h
   ·rename_i hb;cases h;exact⟨id,i,cs,l,hp,nb,hb.1,hy,hb.2.1,BN hb.2.2.1,hb.2.2.2,rfl⟩
   ·cases h
  ·cases h
 ·cases h
def wF(P:Program)(KT:TypeId→Bool)(ρ:Operand→AV)(op:Op)(H:ak)(sh:List (Nat × Nat)):Option (AV × ak):=
 match op with
 | .mapUpdate t m k y| .insert t m k y=>(match ρ m,j4 P t,nT (ρ k)with
  | .om id,some (kt,_),some v=>(match H[id]? with
   |some (.map es clock)=>if KT kt&&mI v&&(keyOf P kt v).isSome&&p9 P kt es&&(sh.all fun q=>q.1 !=id&&q.2 !=id)then
     some (.d (.val undef),H.set id (match j6 v es 0 with|some (i,_)=>.map (es.modify i fun q=>(q.1,q.2.1,ρ y)) clock|none=>.map (es++[(v,clock,ρ y)]) (clock+1)))else none
   |_=>none)
  |_,_,_=>none)
 | .mapEntry t m k=>(match ρ m,j4 P t,nT (ρ k)with
  | .om id,some (kt,et),some v=>(match H[id]?,y2 P et with
   |some (.map es clock),some z=>if KT kt&&mI v&&(keyOf P kt v).isSome&&p9 P kt es&&(sh.all fun q=>q.1 !=id&&q.2 !=id)then
     (match j6 v es 0 with
     |some (i,y)=>(es[i]?).map fun q=>(.dc [y,.d (.val (.int .i64 q.2.1))],H.set id (.map es clock))
     |none=>some (.dc [z,.d (.val (.int .i64 clock))],H.set id (.map (es++[(v,clock,z)]) (clock+1))))else none
   |_,_=>none)
  |_,_,_=>none)
 | .entryStore _ m s y=>(match ρ m,yO (ρ s)with
  | .om id,some n=>(match H[id]? with
   |some (.map es clock)=>if(sh.all fun q=>q.1 !=id&&q.2 !=id)then
     (es.findIdx? (fun q=>(q.2.1:Int)==n)).map fun i=>(.d (.val undef),H.set id (.map (es.modify i fun q=>(q.1,q.2.1,ρ y)) clock))else none
   |_=>none)
  |_,_=>none)
 | .call c=>(match c.callee,c.args.toList,c.argTypes.toList with
  | .builtin .delete,[m,k],[t,_]=>(match ρ m,j4 P t,nT (ρ k)with
   | .om id,some (kt,_),some v=>(match H[id]? with
    |some (.map es clock)=>if KT kt&&mI v&&(keyOf P kt v).isSome&&p9 P kt es&&(sh.all fun q=>q.1 !=id&&q.2 !=id)then
      some (.dc [],H.set id (.map (match j6 v es 0 with|some (i,_)=>es.eraseIdx i|none=>es) clock))else none
    |_=>none)
   |_,_,_=>none)
  | .builtin .clear,[m],[t]=>(match ρ m,j4 P t with
   | .om id,some _=>(match H[id]? with
    |some (.map _ clock)=>if(sh.all fun q=>q.1 !=id&&q.2 !=id)then some (.dc [],H.set id (.map [] clock))else none
    |_=>none)
   |_,_=>none)
  |_,_,_=>none)
 |_=>none
theorem FE{ρ:Operand→AV}{op:Op}{H H':ak}{sh:List (Nat × Nat)}{x:AV}(dB:∀k,KT k=true→Maps.Keyed P k)(h:wF P KT ρ op H sh=some (x,H')):pL P ρ op H sh x H':=by
 unfold wF at h
 unfold pL
 split at h
 ·split at h
  ·rename_i id kt et v hm ht hk
   split at h
   ·rename_i es clock hid
    split at h
    ·rename_i hc
     simp only[gG]at hc
     obtain⟨⟨⟨⟨c1,c2⟩,c3⟩,c4⟩,c5⟩:=hc
     cases h
     exact⟨kt,et,v,es,clock,id,ht,dB _ c1,hk,c2,c3,hm,hid,c4,BN c5,rfl,rfl⟩
    ·cases h
   ·cases h
  ·cases h
 ·split at h
  ·rename_i id kt et v hm ht hk
   split at h
   ·rename_i es clock hid
    split at h
    ·rename_i hc
     simp only[gG]at hc
     obtain⟨⟨⟨⟨c1,c2⟩,c3⟩,c4⟩,c5⟩:=hc
     cases h
     exact⟨kt,et,v,es,clock,id,ht,dB _ c1,hk,c2,c3,hm,hid,c4,BN c5,rfl,rfl⟩
    ·cases h
   ·cases h
  ·cases h
 ·split at h
  ·rename_i id kt et v hm ht hk
   split at h
   ·rename_i es clock z hid hz
    split at h
    ·rename_i hc
     simp only[gG]at hc
     obtain⟨⟨⟨⟨c1,c2⟩,c3⟩,c4⟩,c5⟩:=hc
     refine⟨kt,et,z,v,es,clock,id,ht,dB _ c1,hz,hk,c2,c3,hm,hid,c4,BN c5,?_⟩
     split at h
     ·rename_i i y hf
      obtain⟨q,hq,he⟩:=cA.1 h
      cases he
      rw[hf]
      exact⟨⟨q,hq,rfl⟩,rfl⟩
     ·rename_i hf
      cases h
      rw[hf]
      exact⟨rfl,rfl⟩
    ·cases h
   ·cases h
  ·cases h
 ·split at h
  ·rename_i id n hm hs
   obtain⟨kd,hs⟩:=vT hs
   split at h
   ·rename_i es clock hid
    split at h
    ·rename_i hc
     obtain⟨i,hi,he⟩:=cA.1 h
     cases he
     exact⟨kd,n,es,clock,id,i,hm,hid,BN hc,hs,hi,rfl,rfl⟩
    ·cases h
   ·cases h
  ·cases h
 ·rename_i cl
  obtain⟨callee,⟨args⟩,⟨ts⟩⟩:=cl
  simp only at h ⊢
  split at h
  ·split at h
   ·rename_i id kt et v hm ht hk
    split at h
    ·rename_i es clock hid
     split at h
     ·rename_i hc
      simp only[gG]at hc
      obtain⟨⟨⟨⟨c1,c2⟩,c3⟩,c4⟩,c5⟩:=hc
      cases h
      exact⟨kt,et,v,es,clock,id,ht,dB _ c1,hk,c2,c3,hm,hid,c4,BN c5,rfl,rfl⟩
     ·cases h
    ·cases h
   ·cases h
  ·split at h
   ·rename_i id q hm ht
    split at h
    ·rename_i es clock hid
     split at h
     ·rename_i hc
      cases h
      exact⟨q.1,q.2,es,clock,id,ht,hm,hid,BN hc,rfl,rfl⟩
     ·cases h
    ·cases h
   ·cases h
  ·cases h
 ·cases h
end
end Go.Proofs.YtapjobndmmkanaaGreat
