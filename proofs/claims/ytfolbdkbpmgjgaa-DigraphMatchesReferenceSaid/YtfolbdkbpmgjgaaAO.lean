/- Of no program: the operations of the abstract machine as functions. -/
import Derived.Test.YtfolbdkbpmgjgaaA24
set_option linter.unusedVariables false
set_option linter.unusedSimpArgs false
namespace Go.Proofs.Ytfolbdkbpmgjgaa
open Go Go.RowKit
section
variable (P:Program) (N:Nat) (H:zaa)
def loadF(t:TypeId)(p:AV):Option AV:=
 match agO P t,szO P t with
 |some g,some k=>match p with
  | .d (.fp cs i)=>if g then(zck cs i k).map fun l=>.d (.agg l)else(cs[i]?).map .d
  | .op id i=>if id<N then(match H[id]? with|some (.cells cs)=>if g then(zck cs i k).map .agg else cs[i]? |_=>none)else none
  |_=>none
 |_,_=>none
def fieldAddrF(t:TypeId)(f:Nat)(p:AV):Option AV:=
 match foO P t f,p with
 |some o,.d (.fp cs i)=>some (.d (.fp cs (i+o)))
 |some o,.op id i=>some (.op id (i+o))
 |_,_=>none
def partF(g:Bool)(cs:List AV)(o n:Nat):Option AV:=if g then(zck cs o n).map .agg else cs[o]?
def fieldF(t:TypeId)(f:Nat)(p:AV):Option AV:=
 match ftO P t f,partsOf p with
 |some (o,n,g),some cs=>partF g cs o n
 |_,_=>none
def ixO:AV→Option Int
 | .d (.val (.int _ i))=>some i
 |_=>none
def indexAddrF(t:TypeId)(p ix:AV):Option AV:=
 match ixO ix,elO P t with
 |some i,some (len,_,s)=>if 0≤i then(match len,p with
  |none,.d (.fs cs n)=>if i<n then some (.d (.fp cs (i.toNat*s)))else none
  |none,.os k id off n=>if i<n∧k=s then some (.op id (off+i.toNat*s))else none
  |some n,.d (.fp cs o)=>if i<n then some (.d (.fp cs (o+i.toNat*s)))else none
  |some n,.op id o=>if i<n then some (.op id (o+i.toNat*s))else none
  |_,_=>none)else none
 |_,_=>none
def zu2(t:TypeId)(p ix:AV):Option AV:=
 match ixO ix,elO P t,partsOf p with
 |some i,some (some len,e,s),some cs=>(match agO P e with|some g=>if 0≤i∧i<len then partF g cs (i.toNat*s) s else none|none=>none)
 |some i,_,_=>(match p,P.underlying t with
  | .d (.val (.string s)),some .string=>if 0≤i then(s[i.toNat]?).map fun b=>.d (.val (.int .u8 b.toNat))else none
  |_,_=>none)
 |_,_,_=>none
def sliceF(t:TypeId)(p:AV)(lo hi:Option AV):Option AV:=
 match p with
 | .d (.fs cs n)=>(match elO P t,sbI 0 lo,sbI n hi with
  |some (none,_,s),some l,some h=>if 0≤l∧l≤h∧h≤n then some (.d (.fs ((cs.drop (l.toNat*s)).take ((h - l).toNat*s)) (h - l).toNat))else none
  |_,_,_=>none)
 | .os k id off n=>(match elO P t,sbI 0 lo,sbI n hi with
  |some (none,_,s),some l,some h=>if s=k∧0≤l∧l≤h∧h≤n then some (.os k id (off+l.toNat*k) (h - l).toNat)else none
  |_,_,_=>none)
 | .d (.val (.string s))=>(match P.underlying t,sbI 0 lo,sbI s.size hi with
  |some .string,some l,some h=>if 0≤l∧l≤h∧h≤s.size then some (.d (.val (.string (s.extract l.toNat h.toNat))))else none
  |_,_,_=>none)
 | .op id o=>(match elO P t with
  |some (some n,_,s)=>(match sbI 0 lo,sbI n hi,H[id]? with
   |some l,some h,some (.cells cs)=>if id<N∧o+n*s≤cs.length∧n≤maxLen∧0≤l∧l≤h∧h≤n then some (.os s id (o+l.toNat*s) (h - l).toNat)else none
   |_,_,_=>none)
  |_=>none)
 |_=>none
def zzv(op:BinOp)(t:TypeId)(y z:AV):Option AV:=
 match y,z with
 | .d (.val u),.d (.val v)=>(zgr P op t u v).map fun r=>.d (.val r)
 |y,z=>(ji0 P op t y z).map fun b=>.d (.val (.bool b))
def unF(op:UnOp)(y:AV):Option AV:=
 match y with
 | .d (.val u)=>(unV op u).map fun r=>.d (.val r)
 |_=>none
def convF(s t:TypeId)(y:AV):Option AV:=
 match y,zgs P s,zgs P t with
 | .d (.val (.int _ n)),some _,some k'=>some (.d (.val (.int k' (k'.wrap n))))
 |_,_,_=>none
def buildF(t:TypeId)(ps:List (Nat × AV)):Option AV:=
 if zmq P t then(match zcO P t with
  |some zs=>if zs.all D.one then(zib (plO P t) (zs.map .d) ps).map .agg else none
  |none=>none)else none
def lenF(t:TypeId)(p:AV):Option Int:=
 match p,elO P t with
 | .d (.fs _ m),some (none,_,_)=>some m
 | .os _ _ _ m,some (none,_,_)=>some m
 | .d (.val (.slice _ m _)),some (none,_,_)=>some m
 | .agg _,some (some k,_,_)=>some k
 | .d (.agg _),some (some k,_,_)=>some k
 | .d (.val (.string s)),_=>(match P.underlying t with|some .string=>some s.size|_=>none)
 |_,_=>none
def builtinF(b:Builtin)(ts:List TypeId)(xs:List AV):Option AV:=
 match b,ts,xs with
 | .len,[t],[y]=>(lenF P t y).map fun n=>.d (.val (.int .i64 n))
 | .max,_,[.d (.val (.int k a)),.d (.val (.int _ b))]=>some (.d (.val (.int k (max a b))))
 | .min,_,[.d (.val (.int k a)),.d (.val (.int _ b))]=>some (.d (.val (.int k (min a b))))
 | .max,_,[.d (.val (.int k a)),.d (.val (.int _ b)),.d (.val (.int _ c))]=>some (.d (.val (.int k (max (max a b) c))))
 | .min,_,[.d (.val (.int k a)),.d (.val (.int _ b)),.d (.val (.int _ c))]=>some (.d (.val (.int k (min (min a b) c))))
 |_,_,_=>none
variable (KT:TypeId→Bool)
def zu3(t:TypeId)(m key:AV)(ok:Bool):Option AV:=
 match zml P t,zqa key,zc0 H N m with
 |some (kt,et),some v,some es=>(match zvO P et with
  |some z=>if KT kt&&zoq v&&(keyOf P kt v).isSome&&zd6 P kt es then some (jiw ok z (zdx v es 0))else none
  |none=>none)
 |_,_,_=>none
def ji7:AV→Bool
 | .op _ _=>true
 | .d (.fp _ _)=>true
 | .clo (.func _) _ _=>true
 |_=>false
def opF(ρ:Operand→AV)(op:Op):Option AV:=
 match op with
 | .move y| .assign y=>some (ρ y)
 | .pick c a b=>(match ρ c with| .d (.val (.bool t))=>some (if t then ρ a else ρ b)|_=>none)
 | .load t p=>loadF P N H t (ρ p)
 | .fieldAddr t p f=>fieldAddrF P t f (ρ p)
 | .field t p f=>fieldF P t f (ρ p)
 | .indexAddr t p i=>indexAddrF P t (ρ p) (ρ i)
 | .index t p i=>zu2 P t (ρ p) (ρ i)
 | .slice t p lo hi none=>sliceF P N H t (ρ p) (lo.map ρ) (hi.map ρ)
 | .binOp op t y z _=>zzv P op t (ρ y) (ρ z)
 | .unOp op _ y=>unF op (ρ y)
 | .convert s t y=>convF P s t (ρ y)
 | .build t parts=>buildF P t (parts.toList.map fun p=>(p.1,ρ p.2))
 | .extract t i=>(match ρ t with| .tup vs=>vs[i]? |_=>none)
 | .nilCheck y=>if ji7 (ρ y)then some (ρ y)else none
 | .lookup t m k ok=>zu3 P N H KT t (ρ m) (ρ k) ok
 | .makeFunc fn fi ca=>some (.clo fn (fi.toList.map ρ) (ca.toList.map ρ))
 | .call c=>(match c.callee with
  | .builtin b=>builtinF P b c.argTypes.toList (c.args.toList.map ρ)
  |_=>none)
 |_=>none
end
section
variable {P:Program} {N:Nat} {H:zaa} {KT:TypeId→Bool}
theorem zle{t:TypeId}{p x:AV}(h:loadF P N H t p=some x):LoadQ P H N t p x:=by
 unfold loadF at h
 split at h
 ·rename_i g k hg hk
  split at h
  ·cases g
   ·simp only[Bool.false_eq_true,if_false,Option.map_eq_some_iff]at h
    obtain⟨y,hy,rfl⟩:=h
    exact⟨false,k,hg,hk,y,hy,rfl⟩
   ·simp only[if_true,Option.map_eq_some_iff]at h
    obtain⟨l,hl,rfl⟩:=h
    exact⟨true,k,hg,hk,l,hl,rfl⟩
  ·split at h
   ·rename_i hid
    split at h
    ·rename_i cs hcs
     cases g
     ·simp only[Bool.false_eq_true,if_false]at h
      exact⟨false,k,hg,hk,hid,cs,hcs,h⟩
     ·simp only[if_true,Option.map_eq_some_iff]at h
      obtain⟨l,hl,rfl⟩:=h
      exact⟨true,k,hg,hk,hid,cs,hcs,l,hl,rfl⟩
    ·cases h
   ·cases h
  ·cases h
 ·cases h
theorem zlf{t:TypeId}{f:Nat}{p x:AV}(h:fieldAddrF P t f p=some x):FieldAddrQ P t f p x:=by
 unfold fieldAddrF at h
 split at h
 ·rename_i o cs i ho;cases h;exact⟨o,ho,rfl⟩
 ·rename_i o id i ho;cases h;exact⟨o,ho,rfl⟩
 ·cases h
theorem zqs{g:Bool}{cs:List AV}{o n:Nat}{x:AV}(h:partF g cs o n=some x):partA g cs o n x:=by
 unfold partF at h
 unfold partA
 cases g
 ·simpa using h
 ·simp only[if_true,Option.map_eq_some_iff]at h ⊢
  obtain⟨l,hl,rfl⟩:=h
  exact⟨l,hl,rfl⟩
theorem zu4{t:TypeId}{f:Nat}{p x:AV}(h:fieldF P t f p=some x):FieldQ P t f p x:=by
 unfold fieldF at h
 split at h
 ·rename_i o n g cs hf hp;exact⟨o,n,g,cs,hf,hp,zqs h⟩
 ·cases h
theorem ze0{x:AV}{i:Int}(h:ixO x=some i):∃k,x= .d (.val (.int k i)):=by
 unfold ixO at h
 split at h
 ·cases h;exact⟨_,rfl⟩
 ·cases h
theorem zlg{t:TypeId}{p ix x:AV}(h:indexAddrF P t p ix=some x):IndexAddrQ P t p ix x:=by
 unfold indexAddrF at h
 split at h
 ·rename_i i len e s hi he
  obtain⟨k,rfl⟩:=ze0 hi
  split at h
  ·rename_i h0
   refine⟨k,i,len,e,s,rfl,he,h0,?_⟩
   split at h
   ·split at h
    ·rename_i hlt;cases h;exact⟨hlt,rfl⟩
    ·cases h
   ·split at h
    ·rename_i hlt;cases h;exact⟨hlt.1,hlt.2,rfl⟩
    ·cases h
   ·split at h
    ·rename_i hlt;cases h;exact⟨hlt,rfl⟩
    ·cases h
   ·split at h
    ·rename_i hlt;cases h;exact⟨hlt,rfl⟩
    ·cases h
   ·cases h
  ·cases h
 ·cases h
theorem zu5{t:TypeId}{p ix x:AV}(h:zu2 P t p ix=some x):IndexQ P t p ix x:=by
 unfold zu2 at h
 split at h
 ·rename_i i len e s cs hi he hp
  obtain⟨k,rfl⟩:=ze0 hi
  split at h
  ·rename_i g hg
   split at h
   ·rename_i hb;exact .inl ⟨k,i,len,e,s,g,cs,rfl,he,hg,hp,hb.1,hb.2,zqs h⟩
   ·cases h
  ·cases h
 ·rename_i i hi _
  obtain⟨k,rfl⟩:=ze0 hi
  split at h
  ·rename_i s ht _
   split at h
   ·rename_i h0
    obtain⟨b,hb,rfl⟩:=Option.map_eq_some_iff.1 h
    exact .inr ⟨k,i,s,b,rfl,ht,rfl,h0,hb,rfl⟩
   ·cases h
  ·cases h
 ·cases h
theorem zu6{t:TypeId}{p x:AV}{lo hi:Option AV}(h:sliceF P N H t p lo hi=some x):SliceQ P H N t p lo hi x:=by
 unfold sliceF at h
 split at h
 ·split at h
  ·rename_i cs n e s l hh he hl hhi
   split at h
   ·rename_i hb;cases h;exact⟨e,s,l,hh,he,hl,hhi,hb.1,hb.2.1,hb.2.2,rfl⟩
   ·cases h
  ·cases h
 ·split at h
  ·rename_i k id off n e s l hh he hl hhi
   split at h
   ·rename_i hb
    obtain⟨rfl,b1,b2,b3⟩:=hb
    cases h;exact⟨e,l,hh,he,hl,hhi,b1,b2,b3,rfl⟩
   ·cases h
  ·cases h
 ·split at h
  ·rename_i s l hh hu hl hhi
   split at h
   ·rename_i hb;cases h;exact⟨l,hh,hu,hl,hhi,hb.1,hb.2.1,hb.2.2,rfl⟩
   ·cases h
  ·cases h
 ·split at h
  ·rename_i id o n e s he
   split at h
   ·rename_i l hh cs hl hhi hcs
    split at h
    ·rename_i hb
     obtain⟨b1,b2,b3,b4,b5,b6⟩:=hb
     cases h;exact⟨n,e,s,l,hh,cs,he,b1,hcs,b2,b3,hl,hhi,b4,b5,b6,rfl⟩
    ·cases h
   ·cases h
  ·cases h
 ·cases h
theorem zu7{t:TypeId}{ps:List (Nat × AV)}{x:AV}(h:buildF P t ps=some x):BuildQ P t ps x:=by
 unfold buildF at h
 split at h
 ·rename_i hp
  split at h
  ·rename_i zs hz
   split at h
   ·rename_i h1
    obtain⟨cs,hcs,rfl⟩:=Option.map_eq_some_iff.1 h
    exact⟨hp,zs,cs,hz,h1,hcs,rfl⟩
   ·cases h
  ·cases h
 ·cases h
theorem je1{t:TypeId}{p:AV}{n:Int}(h:lenF P t p=some n):LenQ P t p n:=by
 unfold lenF at h
 split at h
 ·rename_i e s he;cases h;exact⟨by rw[he];simp,⟨e,s,he⟩,rfl⟩
 ·rename_i e s he;cases h;exact⟨⟨e,s,he⟩,rfl⟩
 ·rename_i e s he;cases h;exact⟨⟨e,s,he⟩,rfl⟩
 ·rename_i e s he;cases h;exact⟨_,e,s,he,rfl⟩
 ·rename_i e s he;cases h;exact⟨_,e,s,he,rfl⟩
 ·split at h
  ·rename_i hu;cases h;exact⟨hu,rfl⟩
  ·cases h
 ·cases h
theorem zo6{b:Builtin}{ts:List TypeId}{xs:List AV}{x:AV}(h:builtinF P b ts xs=some x):zij P b ts xs x:=by
 unfold builtinF at h
 split at h
 ·obtain⟨n,hn,rfl⟩:=Option.map_eq_some_iff.1 h;exact⟨n,je1 hn,rfl⟩
 ·cases h;rfl
 ·cases h;rfl
 ·cases h;rfl
 ·cases h;rfl
 ·cases h
theorem zqt{ρ:Operand→AV}{op:Op}{x:AV}(hKT:∀k,KT k=true→Maps.Keyed P k)(h:opF P N H KT ρ op=some x):OpQ P N H ρ op x:=by
 unfold opF at h
 unfold OpQ
 split at h
 ·cases h;rfl
 ·cases h;rfl
 ·split at h
  ·rename_i t ht;cases h;exact⟨t,ht,rfl⟩
  ·cases h
 ·exact zle h
 ·exact zlf h
 ·exact zu4 h
 ·exact zlg h
 ·exact zu5 h
 ·exact zu6 h
 ·unfold zzv at h
  split at h
  ·rename_i u v hu hv
   obtain⟨r,hr,rfl⟩:=Option.map_eq_some_iff.1 h
   exact .inl ⟨u,v,r,hu,hv,hr,rfl⟩
  ·obtain⟨b,hb,rfl⟩:=Option.map_eq_some_iff.1 h
   exact .inr ⟨b,hb,rfl⟩
 ·unfold unF at h
  split at h
  ·rename_i u hu
   obtain⟨r,hr,rfl⟩:=Option.map_eq_some_iff.1 h
   exact⟨u,r,hu,hr,rfl⟩
  ·cases h
 ·unfold convF at h
  split at h
  ·rename_i j n k k' hy hs ht
   cases h;exact⟨k,k',j,n,hy,hs,ht,rfl⟩
  ·cases h
 ·exact zu7 h
 ·split at h
  ·rename_i vs hv;exact⟨vs,hv,h⟩
  ·cases h
 ·rename_i y
  split at h
  ·rename_i hn
   cases h
   refine⟨?_,rfl⟩
   unfold ji7 at hn
   split at hn
   ·rename_i e;rw[e];trivial
   ·rename_i e;rw[e];trivial
   ·rename_i e;rw[e];trivial
   ·cases hn
  ·cases h
 ·unfold zu3 at h
  split at h
  ·rename_i kt et v es hm hk he
   split at h
   ·rename_i z hz
    split at h
    ·rename_i hc
     simp only[Bool.and_eq_true]at hc
     obtain⟨⟨⟨c1,c2⟩,c3⟩,c4⟩:=hc
     cases h
     exact⟨kt,et,z,v,es,hm,hKT _ c1,hz,hk,c2,c3,he,c4,rfl⟩
    ·cases h
   ·cases h
  ·cases h
 ·cases h;rfl
 ·rename_i cl
  obtain⟨callee,args,ts⟩:=cl
  cases callee with
  |builtin b=>exact zo6 h
  |_=>cases h
 ·cases h
def srcF(H:zaa)(s:Nat)(src:AV):Option (Nat × List AV):=
 match src with
 | .d (.fs cs n)=>if cs.length=n*s then some (n,cs.map .d)else none
 | .os k id off n=>if k=s then(match H[id]? with|some (.cells cs)=>(zck cs off (n*s)).map fun l=>(n,l)|_=>none)else none
 | .d (.val (.slice none 0 0))=>some (0,[])
 |_=>none
theorem je2{H:zaa}{s m:Nat}{src:AV}{l:List AV}(h:srcF H s src=some (m,l)):SrcA H s src m l:=by
 unfold srcF at h
 split at h
 ·split at h
  ·rename_i hl;cases h;exact⟨hl,rfl,rfl⟩
  ·cases h
 ·split at h
  ·rename_i hk
   split at h
   ·rename_i cs hcs
    obtain⟨l',hl,he⟩:=Option.map_eq_some_iff.1 h
    cases he
    exact⟨hk,cs,hcs,hl,rfl⟩
   ·cases h
  ·cases h
 ·cases h;exact⟨rfl,rfl⟩
 ·cases h
def srcF2(P:Program)(t t':TypeId)(zs:List D)(b:Nat)(H:zaa)(s:Nat)(src:AV):Option (Nat × List AV):=
 if t'=t then srcF H s src else match src with
 | .d (.val (.int _ m))=>if(zgs P t').isSome=true∧0≤m∧1≤b then some (m.toNat,zf2 m.toNat zs)else none
 |_=>none
theorem zqu{P:Program}{t t':TypeId}{zs:List D}{b:Nat}{H:zaa}{s m:Nat}{src:AV}{l:List AV}(h1:zs.all D.one=true)(h:srcF2 P t t' zs b H s src=some (m,l)):zsp P t t' zs b H s src m l:=by
 unfold srcF2 at h
 split at h
 ·rename_i ht;exact .inl ⟨ht,je2 h⟩
 ·split at h
  ·split at h
   ·rename_i k n hc
    cases h
    exact .inr ⟨hc.1,h1,hc.2.2,⟨k,by rw[Int.toNat_of_nonneg hc.2.1]⟩,rfl⟩
   ·cases h
  ·cases h
def layF(P:Program)(nid:Nat)(ρ:Operand→AV)(op:Op)(H:zaa):Option (AV × AObj × Option Nat):=
 match op with
 | .box _ y=>(zb2 (ρ y)).map fun cs=>(.op nid 0,.cells cs,none)
 | .alloc t=>(zaO P t).map fun zs=>(.op nid 0,.cells (zs.map .d),none)
 | .makeSlice t l cp=>(match mkO P t,ixO (ρ l),ixO (ρ cp)with
  |some (s,zs,b),some n,some m=>if 0≤n∧n≤m∧m≤maxLen∧b*m.toNat≤281474976710656 then some (.os s nid 0 n.toNat,.cells (zf2 n.toNat zs),none)else none
  |_,_,_=>none)
 | .makeMap t hint=>(match hint with
  |none=>some (.om nid,.map [] 0,none)
  |some y=>if(ixO (ρ y)).isSome&&(zml P t).isSome then some (.om nid,.map [] 0,none)else none)
 | .buildSlice t len parts=>(match mkO P t with
  |some (s,zs,_)=>if len*s≤16777216 then(zib (fun i=>some (i*s,s)) (zf2 len zs) (parts.toList.map fun p=>(p.1,ρ p.2))).map fun cs=>(.os s nid 0 len,.cells cs,none)else none
  |none=>none)
 | .call c=>(match c.callee,c.args.toList,c.argTypes.toList with
  | .builtin .append,[s,y],[t,t']=>(match mkO P t with
   |some (z,zs,b)=>(match srcF2 P t t' zs b H z (ρ y)with
    |some (m,l)=>(match ρ s with
     | .os k id off n=>(match H[id]? with
      |some (.cells cs)=>if k=z∧off+n*z=cs.length∧n+m≤maxLen∧(n+m)*b≤140737488355328 then some (.os z nid 0 (n+m),.cells (cs.drop off++l),some id)else none
      |_=>none)
     | .d (.val (.slice none 0 0))=>if m≤maxLen∧m*b≤140737488355328 then some (.os z nid 0 m,.cells l,none)else none
     |_=>none)
    |none=>none)
   |none=>none)
  |_,_,_=>none)
 |_=>none
def storeF(P:Program)(t:TypeId)(p y:AV)(H:zaa)(sh:List (Nat × Nat))(N1:Nat):Option zaa:=
 match p,zb2 y with
 | .op id i,some l=>(match H[id]? with
  |some (.cells cs)=>if szO P t=some l.length∧i+l.length≤cs.length∧(sh.all fun q=>q.1 !=id&&q.2 !=id)=true∧N1≤id then some (H.set id (.cells (zch cs i l)))else none
  |_=>none)
 |_,_=>none
theorem zo7{sh:List (Nat × Nat)}{id:Nat}(h:(sh.all fun q=>q.1 !=id&&q.2 !=id)=true):∀q∈sh,q.1≠id∧q.2≠id:=fun q hq=>by
 have:=List.all_eq_true.1 h q hq
 simpa using this
theorem zfd{ρ:Operand→AV}{t:TypeId}{p y:Operand}{H H':zaa}{sh:List (Nat × Nat)}{N1:Nat}(h:storeF P t (ρ p) (ρ y) H sh N1=some H'):OpD P ρ (.store t p y) H sh N1 H':=by
 unfold storeF at h
 split at h
 ·rename_i id i l hp hy
  split at h
  ·rename_i cs hcs
   split at h
   ·rename_i hb;cases h;exact⟨id,i,cs,l,hp,hcs,hb.1,hy,hb.2.1,zo7 hb.2.2.1,hb.2.2.2,rfl⟩
   ·cases h
  ·cases h
 ·cases h
def jcm(P:Program)(KT:TypeId→Bool)(ρ:Operand→AV)(op:Op)(H:zaa)(sh:List (Nat × Nat)):Option (AV × zaa):=
 match op with
 | .mapUpdate t m k y| .insert t m k y=>(match ρ m,zml P t,zqa (ρ k)with
  | .om id,some (kt,_),some v=>(match H[id]? with
   |some (.map es clock)=>if KT kt&&zoq v&&(keyOf P kt v).isSome&&zd6 P kt es&&(sh.all fun q=>q.1 !=id&&q.2 !=id)then
     some (.d (.val undef),H.set id (match zdx v es 0 with|some (i,_)=>.map (es.modify i fun q=>(q.1,q.2.1,ρ y)) clock|none=>.map (es++[(v,clock,ρ y)]) (clock+1)))else none
   |_=>none)
  |_,_,_=>none)
 | .mapEntry t m k=>(match ρ m,zml P t,zqa (ρ k)with
  | .om id,some (kt,et),some v=>(match H[id]?,zvO P et with
   |some (.map es clock),some z=>if KT kt&&zoq v&&(keyOf P kt v).isSome&&zd6 P kt es&&(sh.all fun q=>q.1 !=id&&q.2 !=id)then
     (match zdx v es 0 with
     |some (i,y)=>(es[i]?).map fun q=>(.tup [y,.d (.val (.int .i64 q.2.1))],H.set id (.map es clock))
     |none=>some (.tup [z,.d (.val (.int .i64 clock))],H.set id (.map (es++[(v,clock,z)]) (clock+1))))else none
   |_,_=>none)
  |_,_,_=>none)
 | .entryStore _ m s y=>(match ρ m,ixO (ρ s)with
  | .om id,some n=>(match H[id]? with
   |some (.map es clock)=>if(sh.all fun q=>q.1 !=id&&q.2 !=id)then
     (es.findIdx? (fun q=>(q.2.1:Int)==n)).map fun i=>(.d (.val undef),H.set id (.map (es.modify i fun q=>(q.1,q.2.1,ρ y)) clock))else none
   |_=>none)
  |_,_=>none)
 | .call c=>(match c.callee,c.args.toList,c.argTypes.toList with
  | .builtin .delete,[m,k],[t,_]=>(match ρ m,zml P t,zqa (ρ k)with
   | .om id,some (kt,_),some v=>(match H[id]? with
    |some (.map es clock)=>if KT kt&&zoq v&&(keyOf P kt v).isSome&&zd6 P kt es&&(sh.all fun q=>q.1 !=id&&q.2 !=id)then
      some (.tup [],H.set id (.map (match zdx v es 0 with|some (i,_)=>es.eraseIdx i|none=>es) clock))else none
    |_=>none)
   |_,_,_=>none)
  | .builtin .clear,[m],[t]=>(match ρ m,zml P t with
   | .om id,some _=>(match H[id]? with
    |some (.map _ clock)=>if(sh.all fun q=>q.1 !=id&&q.2 !=id)then some (.tup [],H.set id (.map [] clock))else none
    |_=>none)
   |_,_=>none)
  |_,_,_=>none)
 |_=>none
theorem zjd{ρ:Operand→AV}{op:Op}{H H':zaa}{sh:List (Nat × Nat)}{x:AV}(hKT:∀k,KT k=true→Maps.Keyed P k)(h:jcm P KT ρ op H sh=some (x,H')):OpM P ρ op H sh x H':=by
 unfold jcm at h
 unfold OpM
 split at h
 ·split at h
  ·rename_i id kt et v hm ht hk
   split at h
   ·rename_i es clock hid
    split at h
    ·rename_i hc
     simp only[Bool.and_eq_true]at hc
     obtain⟨⟨⟨⟨c1,c2⟩,c3⟩,c4⟩,c5⟩:=hc
     cases h
     exact⟨kt,et,v,es,clock,id,ht,hKT _ c1,hk,c2,c3,hm,hid,c4,zo7 c5,rfl,rfl⟩
    ·cases h
   ·cases h
  ·cases h
 ·split at h
  ·rename_i id kt et v hm ht hk
   split at h
   ·rename_i es clock hid
    split at h
    ·rename_i hc
     simp only[Bool.and_eq_true]at hc
     obtain⟨⟨⟨⟨c1,c2⟩,c3⟩,c4⟩,c5⟩:=hc
     cases h
     exact⟨kt,et,v,es,clock,id,ht,hKT _ c1,hk,c2,c3,hm,hid,c4,zo7 c5,rfl,rfl⟩
    ·cases h
   ·cases h
  ·cases h
 ·split at h
  ·rename_i id kt et v hm ht hk
   split at h
   ·rename_i es clock z hid hz
    split at h
    ·rename_i hc
     simp only[Bool.and_eq_true]at hc
     obtain⟨⟨⟨⟨c1,c2⟩,c3⟩,c4⟩,c5⟩:=hc
     refine⟨kt,et,z,v,es,clock,id,ht,hKT _ c1,hz,hk,c2,c3,hm,hid,c4,zo7 c5,?_⟩
     split at h
     ·rename_i i y hf
      obtain⟨q,hq,he⟩:=Option.map_eq_some_iff.1 h
      cases he
      rw[hf]
      exact⟨⟨q,hq,rfl⟩,rfl⟩
     ·rename_i hf
      cases h
      rw[hf]
      exact⟨rfl,rfl⟩
    ·cases h
   ·cases h
  ·cases h
 ·split at h
  ·rename_i id n hm hs
   obtain⟨kd,hs⟩:=ze0 hs
   split at h
   ·rename_i es clock hid
    split at h
    ·rename_i hc
     obtain⟨i,hi,he⟩:=Option.map_eq_some_iff.1 h
     cases he
     exact⟨kd,n,es,clock,id,i,hm,hid,zo7 hc,hs,hi,rfl,rfl⟩
    ·cases h
   ·cases h
  ·cases h
 ·rename_i cl
  obtain⟨callee,⟨args⟩,⟨ts⟩⟩:=cl
  simp only at h ⊢
  split at h
  ·split at h
   ·rename_i id kt et v hm ht hk
    split at h
    ·rename_i es clock hid
     split at h
     ·rename_i hc
      simp only[Bool.and_eq_true]at hc
      obtain⟨⟨⟨⟨c1,c2⟩,c3⟩,c4⟩,c5⟩:=hc
      cases h
      exact⟨kt,et,v,es,clock,id,ht,hKT _ c1,hk,c2,c3,hm,hid,c4,zo7 c5,rfl,rfl⟩
     ·cases h
    ·cases h
   ·cases h
  ·split at h
   ·rename_i id q hm ht
    split at h
    ·rename_i es clock hid
     split at h
     ·rename_i hc
      cases h
      exact⟨q.1,q.2,es,clock,id,ht,hm,hid,zo7 hc,rfl,rfl⟩
     ·cases h
    ·cases h
   ·cases h
  ·cases h
 ·cases h
end
end Go.Proofs.Ytfolbdkbpmgjgaa
