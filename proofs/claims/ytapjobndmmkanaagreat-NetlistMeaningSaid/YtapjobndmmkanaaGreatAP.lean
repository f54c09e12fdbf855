/- Of no program: objects that are no more needed are dropped, the others numbered anew. -/
import Derived.Test.YtapjobndmmkanaaGreatAJ
set_option linter.unusedVariables false
set_option linter.unusedSimpArgs false
namespace Go.Proofs.YtapjobndmmkanaaGreat
open Go Go.RowKit
section
def j7:List Nat→Nat→Option Nat
 |[],_=>none
 |a::l,x=>if x=a then some 0 else(j7 l x).map (·+1)
theorem jbs:∀{l:List Nat} {x j:Nat},j7 l x=some j→l[j]? =some x
 |[],_,_,h=>by cases h
 |a::l,x,j,h=>by
  unfold j7 at h
  split at h
  ·rename_i e;cases h;rw[e];rfl
  ·obtain⟨i,hi,rfl⟩:=cA.1 h
   simpa using jbs hi
mutual
def c7(keep:List Nat):AV→AV
 | .any=>.any
 | .d x=>.d x
 | .os k id off n=>match j7 keep id with|some j=>.os k j off n|none=>.any
 | .op id off=>match j7 keep id with|some j=>.op j off|none=>.any
 | .om id=>match j7 keep id with|some j=>.om j|none=>.any
 | .agg cs=>.agg (gN keep cs)
 | .dc cs=>.dc (gN keep cs)
 | .dk fn fi ca=>.dk fn (gN keep fi) (gN keep ca)
def gN(keep:List Nat):List AV→List AV
 |[]=>[]
 |x::l=>c7 keep x::gN keep l
end
def z6(keep:List Nat):bq→bq
 | .free=>.free
 | .dead=>.dead
 | .cells cs=>.cells (gN keep cs)
 | .map es clock=>.map (es.map fun e=>(e.1,e.2.1,c7 keep e.2.2)) clock
 | .loop b r fr=>.loop b r (gN keep fr)
def dg(keep:List Nat)(H:ak):ak:=keep.map fun i=>z6 keep (H.getD i .dead)
theorem uV(keep:List Nat):∀cs:List AV,gN keep cs=cs.map (c7 keep)
 |[]=>rfl
 |x::l=>by rw[gN,uV keep l];rfl
theorem Pq(keep:List Nat)(x:D):c7 keep (.d x)= .d x:=by rw[c7]
theorem jzu(keep:List Nat)(ds:List D):gN keep (ds.map .d)=ds.map .d:=by
 rw[uV,List.map_map]
 exact List.map_congr_left fun x _=>Pq keep x
theorem jny(keep:List Nat)(o:bq):(z6 keep o).live=o.live:=by cases o<;>rfl
section
variable {P:Program} {c:Cx} {τ:Fr} {a:Act} {w:World} {pl:List (Option (Nat × Nat))} {H:ak} {Q:Exit→Fr→ak→Prop}
def yR(keep:List Nat)(pl:List (Option (Nat × Nat))):List (Option (Nat × Nat)):=keep.map fun i=>pl.getD i none
theorem B1{keep:List Nat}{j i:Nat}(h:keep[j]? =some i){p:Option (Nat × Nat)}(hp:pl[i]? =some p):(yR keep pl)[j]? =some p:=by
 unfold yR
 rw[List.getElem?_map,h,Option.map_some,gp,hp];rfl
theorem jnz{keep:List Nat}{j:Nat}{p:Nat × Nat}(h:(yR keep pl)[j]? =some (some p)):∃i,keep[j]? =some i∧pl[i]? =some (some p):=by
 unfold yR at h
 rw[List.getElem?_map,cA]at h
 obtain⟨i,hi,he⟩:=h
 refine⟨i,hi,?_⟩
 rw[gp]at he
 cases hq:pl[i]? with
 |none=>rw[hq]at he;cases he
 |some q=>rw[hq]at he;exact congrArg some he
theorem Lz{keep:List Nat}{own dO:Nat→Prop}(hw:∀b,dO b→own b){x:AV}{v:Value}(h:Rd w pl own x v):Rd w (yR keep pl) dO (c7 keep x) v:=by
 have place:∀{id j b base:Nat},j7 keep id=some j→pl[id]? =some (some (b,base))→(yR keep pl)[j]? =some (some (b,base)):=fun hj hp=>B1 (jbs hj) hp
 have pF:∀{cs:List AV} {j:Nat} {y:AV},(gN keep cs)[j]? =some y→∃x,cs[j]? =some x∧y=c7 keep x:=fun{cs j y} h=>by
  rw[uV,List.getElem?_map,cA]at h
  obtain⟨x,hx,rfl⟩:=h
  exact⟨x,hx,rfl⟩
 induction h with
 |any v=>rw[c7];exact .any v
 |d x v h=>rw[c7];exact .d _ _ (h.mono (bm _) (fun _ _ _=>rfl) (fun b _ hb=>hw b hb))
 |os k id off n cap b base sz t h1 h2 h3 h4 h5=>
  rw[c7]
  split
  ·rename_i j hj;exact .os k j off n cap b base sz t (place hj h1) h2 h3 h4 h5
  ·exact .any _
 |lJ k id off ad=>
  rw[c7]
  split
  ·exact .lJ _ _ _ _
  ·exact .any _
 |op id off b base h1=>
  rw[c7]
  split
  ·rename_i j hj;exact .op j off b base (place hj h1)
  ·exact .any _
 |om id b base h1=>
  rw[c7]
  split
  ·rename_i j hj;exact .om j b base (place hj h1)
  ·exact .any _
 |agg cs vs hl _ ih=>
  rw[c7]
  refine .agg _ _ (by rw[uV];simpa using hl) fun j y hj=>?_
  obtain⟨x,hx,rfl⟩:=pF hj
  exact ih j x hx
 |dc cs vs hl _ ih=>
  rw[c7]
  refine .dc _ _ (by rw[uV];simpa using hl) fun j y hj=>?_
  obtain⟨x,hx,rfl⟩:=pF hj
  exact ih j x hx
 |dk fn fi ca vs us hl _ gh _ ih vo=>
  rw[c7]
  refine .dk _ _ _ _ _ (by rw[uV];simpa using hl) (fun j y hj=>?_) (by rw[uV];simpa using gh) (fun j y hj=>?_)
  ·obtain⟨x,hx,rfl⟩:=pF hj
   exact ih j x hx
  ·obtain⟨x,hx,rfl⟩:=pF hj
   exact vo j x hx
theorem R.gc{m:List Nat}(hp:Kp c m){keep:List Nat}(hk:∀i∈m,keep[i]? =some i)(hn:keep.Nodup)(hb:∀i∈keep,i<H.length)(hR:R c τ H [] a w):R c (fun t=>c7 keep (τ t)) (dg keep H) [] a w:=by
 obtain⟨pl,h⟩:=hR
 have back:∀{j:Nat} {o':bq},(dg keep H)[j]? =some o'→∃i o,keep[j]? =some i∧H[i]? =some o∧o'=z6 keep o:=fun{j o'} hj=>by
  unfold dg at hj
  rw[List.getElem?_map,cA]at hj
  obtain⟨i,hi,rfl⟩:=hj
  have aA:=hb i (List.mem_of_getElem? hi)
  exact⟨i,H[i],hi,ij aA,by rw[gp,ij aA];rfl⟩
 have lf:∀{j:Nat} {o':bq} {p:Nat × Nat},(dg keep H)[j]? =some o'→o'.live=true→(yR keep pl)[j]? =some (some p)→∃i o,keep[j]? =some i∧H[i]? =some o∧o.live=true∧pl[i]? =some (some p):=fun{j o' p} hj hl hpj=>by
  obtain⟨i,o,h1,h2,rfl⟩:=back hj
  obtain⟨i',h3,h4⟩:=jnz hpj
  rw[h1]at h3;cases h3
  exact⟨i,o,h1,h2,by rw[jny]at hl;exact hl,h4⟩
 have dp:∀b,bu c.E (dg keep H) (yR keep pl) b→bu c.E H pl b:=fun b Ro=>by
  rcases Ro with Ro|⟨j,o',e,h1,h2,h3⟩
  ·exact .inl Ro
  ·obtain⟨i,o,_,k2,k3,k4⟩:=lf h1 h2 h3
   exact .inr ⟨i,o,e,k2,k3,k4⟩
 refine⟨yR keep pl,⟨by simp[yR,dg],fun j o' hj=>?_,fun i j oi oj p q h1 h2 l1 l2 cw _ _ p1 p2=>?_,fun i o p h1 l1 p1=>?_,fun p hp=>(by cases hp),fun i j ci cj p q hm=>(by cases hm)⟩,h.km,fun i o p h1 l1 p1=>?_,h.ext,fun t=>Lz dp (h.fr t),h.size,h.defs.sub (fun b ⟨j,o',e,h1,h2,h3⟩=>let⟨i,o,_,k2,k3,k4⟩:=lf h1 h2 h3;⟨i,o,e,k2,k3,k4⟩),fun i p hi=>by
  exact B1 (hk i (hp i p hi)) (h.keep i p hi)⟩
 ·obtain⟨i,o,h1,h2,rfl⟩:=back hj
  have ho:=h.h.obj i o h2
  cases o with
  |free=>exact B1 h1 ho
  |dead=>trivial
  |cells cs=>
   rcases ho with⟨k1,k2⟩|⟨b,base,arr,t,k1,k2,k3,k4⟩
   ·exact .inl ⟨by subst k1;rfl,B1 h1 k2⟩
   ·refine .inr ⟨b,base,arr,t,B1 h1 k1,k2,by rw[uV];simpa using k3,fun j y hj=>?_⟩
    rw[uV,List.getElem?_map,cA]at hj
    obtain⟨x,hx,rfl⟩:=hj
    exact⟨Lz dp (k4 j x hx).1,(k4 j x hx).2⟩
  |map es clock=>
   obtain⟨b,base,ms,k1,k2,k3,k4,k5⟩:=ho
   refine⟨b,base,ms,B1 h1 k1,k2,by simpa using k3,by rw[List.map_map];exact k4,fun j e k n x hj hx=>?_⟩
   rw[List.getElem?_map,cA]at hx
   obtain⟨⟨k',n',x'⟩,lV,he⟩:=hx
   cases he
   obtain⟨m1,m2,m3⟩:=k5 j e k' n' x' hj lV
   exact⟨m1,m2,Lz dp m3⟩
  |loop b r fr=>
   obtain⟨base,k1,k2,k3⟩:=ho
   refine⟨base,B1 h1 k1,k2,fun j y hj=>?_⟩
   rw[uV,List.getElem?_map,cA]at hj
   obtain⟨x,hx,rfl⟩:=hj
   exact Lz dp (k3 j x hx)
 ·obtain⟨i',o1,a1,a2,a3,a4⟩:=lf h1 l1 p1
  obtain⟨j',o2,b1,b2,b3,b4⟩:=lf h2 l2 p2
  refine h.h.l9 i' j' o1 o2 p q a2 b2 a3 b3 (fun e=>?_) (by simp) (by simp) a4 b4
  subst e
  have o4:=List.pairwise_iff_getElem.1 hn
  obtain⟨m1,g1⟩:=dX.1 a1
  obtain⟨m2,g2⟩:=dX.1 b1
  rcases Nat.lt_trichotomy i j with hl|hl|hl
  ·exact o4 i j m1 m2 hl (g1.trans g2.symm)
  ·exact cw hl
  ·exact o4 j i m2 m1 hl (g2.trans g1.symm)
 ·obtain⟨i',o1,a1,a2,a3,a4⟩:=lf h1 l1 p1
  exact h.h.ext i' o1 p a2 a3 a4
 ·obtain⟨i',o1,a1,a2,a3,a4⟩:=lf h1 l1 p1
  exact h.gZ i' o1 p a2 a3 a4
theorem Nt{f:FuncId}{fn:Func}{code:Code}{ds:List D}{Q:AV→ak→Prop}{E:Nat→Prop}{vals:Array Value}(hf:P.funcs[f]? =some fn)(hb:fn.body=some code)(hn:ds.length≤fn.ntmps)(h:∀c:Cx,c.nt=fn.ntmps→Kp c []→Fj c→dj P c code (mQ P fn Q) (vU ds) [])
  (hl:vals.size=ds.length) (hx:∀j x,ds[j]? =some x→fJ w E x (vals.getD j undef)) (hE:∀b,E b→b<w.heap.size):
  Calls P f vals w fun e w'=>∃v x H' a' pl τ',e= .returned v∧Q x H'∧Rd w' pl (bu E H' pl) x v∧aQ ⟨E,w,fun _=>False,fn.ntmps,[],none,w.heap.size⟩ τ' H' [] pl a' w':=by
 have hR:R ⟨E,w,fun _=>False,fn.ntmps,[],none,w.heap.size⟩ (vU ds) [] [] {tmps:=vals++Array.replicate (fn.ntmps - vals.size) undef,defers:=[]} w:=by
  refine⟨[],⟨rfl,fun id o ho=>by simp at ho,fun i j oi oj p q h1=>by simp at h1,fun i o p h1=>by simp at h1,fun p hp=>(by cases hp),fun i j ci cj p q hm=>(by cases hm)⟩,jw.refl _ _,fun id o p h1=>by simp at h1,hE,fun t=>?_,by simp;omega,sl.nil,fun i p hi=>by simp at hi⟩
  simp only[M7]
  unfold vU
  rw[gp,List.getElem?_map]
  cases hd:ds[t]? with
  |none=>
   have:vals.size≤t:=by rw[hl];exact List.getElem?_eq_none_iff.1 hd
   simp only[Array.getD,dif_neg (Nat.not_lt.2 this)]
   exact .d _ _ (.val _)
  |some x=>exact .d _ _ ((hx t x hd).mono (bm _) (fun _ _ _=>rfl) (fun b _ hb=>by
   rcases hb with hb|⟨i,o,e,h1,_⟩
   ·exact hb
   ·simp at h1))
 exact Nl (c:=⟨E,w,fun _=>False,fn.ntmps,[],none,w.heap.size⟩) rfl (bm _) hf hb (h _ rfl (Kp.none rfl) ⟨rfl,bm _⟩ _ w hR) fun τ' H' bt a' w' x v h1 k1 k2=>⟨v,x,H',a',bt,τ',rfl,k1,k2,h1⟩
theorem jfw{f:FuncId}{fn:Func}{code:Code}{ds:List D}{r:AV}(he:nU P f=true)(hf:P.funcs[f]? =some fn)(hb:fn.body=some code)(hn:ds.length≤fn.ntmps)
  (h:∀c:Cx,c.nt=fn.ntmps→Kp c []→Fj c→dj P c code (mQ P fn fun x H=>aC H x=some r) (vU ds) []):cC P f ds r:=
 ⟨he,fun _ _ _ hl hx hE=>(Nt hf hb hn h hl hx hE).mono fun _ _ ⟨v,_,_,_,_,_,h1,h2,h3,h4⟩=>⟨v,h1,M6 h4.h h2 h3,h4.km.jz⟩⟩
theorem jfx{f:FuncId}{fn:Func}{code:Code}{ds:List D}{Q:AV→Prop}(he:nU P f=true)(hf:P.funcs[f]? =some fn)(hb:fn.body=some code)(hn:ds.length≤fn.ntmps)
  (h:∀c:Cx,c.nt=fn.ntmps→Kp c []→Fj c→dj P c code (mQ P fn fun x H=>∃r,aC H x=some r∧Q r) (vU ds) []):tV P f ds Q:=
 ⟨he,fun _ _ _ hl hx hE=>(Nt hf hb hn h hl hx hE).mono fun _ _ ⟨v,_,_,_,_,_,h1,⟨r,h2,h5⟩,h3,h4⟩=>⟨v,r,h1,h5,M6 h4.h h2 h3,h4.km.jz⟩⟩
theorem jfy{f:FuncId}{fn:Func}{code:Code}{ds:List D}{r:AV}(he:nU P f=true)(hf:P.funcs[f]? =some fn)(hb:fn.body=some code)(hn:ds.length≤fn.ntmps)
  (h:∀c:Cx,c.nt=fn.ntmps→Kp c []→Fj c→dj P c code (mQ P fn fun x H=>gy H x=some r) (vU ds) []):w9 P f ds r:=
 ⟨he,fun w O _ hl hx hE=>(Nt hf hb hn h hl hx hE).mono fun _ w' ⟨v,_,_,_,_,_,h1,h2,h3,h4⟩=>⟨v,h1,Sy h4.h (fun id o p k1 k2 k3 sj=>by
  rcases sj with sj|sj
  ·exact h4.h.ext id o p k1 k2 k3 sj
  ·rcases h4.gZ id o p k1 k2 k3 with h|h
   ·exact h
   ·simp only at h;omega) h2 h3,h4.km.jz⟩⟩
theorem ez{f:FuncId}{fn:Func}{code:Code}{ds:List D}{r:AV}(he:nU P f=true)(hf:P.funcs[f]? =some fn)(hb:fn.body=some code)(hn:ds.length≤fn.ntmps)
  (h:∀c:Cx,c.nt=fn.ntmps→Kp c []→dj P c code (mQ P fn fun x H=>aC H x=some r) (vU ds) []):cC P f ds r:=jfw he hf hb hn fun c h1 h2 _=>h c h1 h2
theorem JK{f:FuncId}{fn:Func}{code:Code}{ds:List D}{Q:AV→Prop}(he:nU P f=true)(hf:P.funcs[f]? =some fn)(hb:fn.body=some code)(hn:ds.length≤fn.ntmps)
  (h:∀c:Cx,c.nt=fn.ntmps→Kp c []→dj P c code (mQ P fn fun x H=>∃r,aC H x=some r∧Q r) (vU ds) []):tV P f ds Q:=jfx he hf hb hn fun c h1 h2 _=>h c h1 h2
theorem Td{f:FuncId}{fn:Func}{code:Code}{ds:List D}{r:AV}(he:nU P f=true)(hf:P.funcs[f]? =some fn)(hb:fn.body=some code)(hn:ds.length≤fn.ntmps)
  (h:∀c:Cx,c.nt=fn.ntmps→Kp c []→dj P c code (mQ P fn fun x H=>gy H x=some r) (vU ds) []):w9 P f ds r:=jfy he hf hb hn fun c h1 h2 _=>h c h1 h2
end
section
variable {P:Program} {fr:List FuncId} {ops l:List Oper} {τ:Fr} {H:ak} {d:Option Tmp} {ty:TypeId} {pos:String} {af:Array Edge} {K:Fr→ak→Prop} {t:TypeId}
variable {KV:Value→Prop} {a b:Bool}
theorem jbt{n:Nat}{zs:List D}:kx n zs=match zs with|[z]=>List.replicate n (.d z)|zs=>(List.replicate n (zs.map AV.d)).flatten:=rfl
theorem jbu{pf:Nat→Option (Nat × Nat)}{cs:List AV}:vJ pf cs []=some cs:=rfl
theorem SP{pf:Nat→Option (Nat × Nat)}{cs:List AV}{i:Nat}{x:AV}{ps:List (Nat × AV)}:vJ pf cs ((i,x)::ps)=match pf i with
  |none=>none
  |some (off,size)=>match lS x with
   |none=>none
   |some l=>if l.length≠size∨off+l.length>cs.length then none else vJ pf (ir cs off l) ps:=rfl
theorem jq7{k:IntKind}{n:Int}:lS (.d (.val (.int k n)))=some [.d (.val (.int k n))]:=rfl
theorem jiz{b:Bool}:lS (.d (.val (.bool b)))=some [.d (.val (.bool b))]:=rfl
theorem jzv{cs:List D}{n:Nat}:lS (.d (.fs cs n))=some [.d (.fs cs n)]:=rfl
theorem Z9{k id off n:Nat}:lS (.os k id off n)=some [.os k id off n]:=rfl
theorem Z8{id off:Nat}:lS (.op id off)=some [.op id off]:=rfl
theorem Z7{id:Nat}:lS (.om id)=some [.om id]:=rfl
theorem jq8{cs:List AV}:lS (.agg cs)=if cs.all AV.one then some cs else none:=rfl
theorem ji0{cs:List D}:lS (.d (.agg cs))=if cs.all D.one then some (cs.map .d)else none:=rfl
theorem jbv{cs:List AV}{i:Nat}:ir cs i []=cs:=rfl
theorem SO{cs l:List AV}{i:Nat}{x:AV}:ir cs i (x::l)=ir (cs.set i x) (i+1) l:=rfl
end
end
section
def rU{α:Type}(o:Option α)(K:α→Prop):Prop:=∃x,o=some x∧K x
theorem yy{α:Type}{x:α}{K:α→Prop}:rU (some x) K=K x:=by simp[rU]
def GK(g:Option Bool)(A B:Prop):Prop:=match g with|some true=>A|some false=>B|none=>False
inductive Tg.{u} {α:Sort u} (a:α):Type where
 |mk
def tg.{u}{α:Sort u}(a:α):Tg a:=.mk
def oK{α:Type}{K:α→Prop}(o:Option α)(_:Tg K):Prop:=rU o K
theorem ji1{α:Type}{x:α}{K:α→Prop}:oK (some x) (tg K)=K x:=yy
def gK{A B:Prop}(g:Option Bool)(_:Tg A)(_:Tg B):Prop:=GK g A B
theorem XA{A B:Prop}:gK (some true) (tg A) (tg B)=A:=rfl
theorem Xz{A B:Prop}:gK (some false) (tg A) (tg B)=B:=rfl
def Ho(P:Program)(sm:List Nat)(N:Nat)(H:ak)(τ:Fr)(f:AV)(xs:List AV)(inl:Bool)(KK:AV→ak→Prop):Prop:=
 (∃x,BP P N H f xs x∧KK x H)∨(inl=true∧∃n fi ca,zj f=some (n,fi,ca)∧(wU P n (fi++xs++ca) H KK∨(∃ds Q,AV.lT.iO (fi++xs++ca)=some ds∧tV P n ds Q∧∀x,Q x→KK x H)∨RY P sm n (fi++xs++ca) τ H KK))∨
  inl=true∧∃l,f= .d (.val (.func (.yield l) #[] #[]))∧RX P sm l xs τ H KK
def kC{KK:AV→ak→Prop}(P:Program)(sm:List Nat)(N:Nat)(H:ak)(τ:Fr)(f:AV)(xs:List AV)(inl:Bool)(_:Tg KK):Prop:=Ho P sm N H τ f xs inl KK
def cT(P:Program)(KT:TypeId→Bool)(sm:List Nat)(op:Op)(ρ:Operand→AV)(H:ak)(KK:AV→ak→Prop):Prop:=
 match fW [] op with
 |0=>if qg op then(match op with
   | .call {callee:=.value f,args:=args,..}=>Ho P sm H.length H (fun t=>ρ (.tmp t)) (ρ f) (args.toList.map ρ) true KK
   |_=>False)else rU (sU P H.length H KT ρ op) fun x=>KK x H
 |2=>(match op with
  | .store t p y=>rU (fN P t (ρ p) (ρ y) H [] 0) fun H'=>KK (.d (.val undef)) H'
  |_=>False)
 |4=>rU (wF P KT ρ op H []) fun p=>KK p.1 p.2
 |_=>rU (fx P H.length ρ op H) fun p=>KK p.1 (gx H p.2.2++[p.2.1])
def sT(P:Program)(KT:TypeId→Bool)(sm:List Nat)(ops:List Oper):List Oper→Fr→ak→(Fr→ak→Prop)→Prop
 |[],τ,H,K=>K τ H
 |o::l,τ,H,K=>GK (kl ops τ o) (cT P KT sm o.op (aU τ) H fun x H'=>sT P KT sm ops l (τ.put o.dst x) H' K) (sT P KT sm ops l (τ.put o.dst (.d (.val undef))) H K)
def cE(P:Program)(KT:TypeId→Bool)(N r:Nat)(fresh:Bool)(m:List (Nat × Nat))(o:Oper)(ρ:Operand→AV)(H:ak)(sh:List (Nat × Nat))(KK:AV→ak→List (Nat × Nat)→Prop):Prop:=
 match fW [] o.op with
 |0=>if qg o.op then(match o.op with
   | .call {callee:=.value f,args:=args,..}=>Ho P [] N H (fun t=>ρ (.tmp t)) (ρ f) (args.toList.map ρ) false fun x _=>KK x H sh
   |_=>False)else rU (sU P N H KT ρ o.op) fun x=>KK x H sh
 |2=>(match o.op with
  | .store t p y=>rU (fN P t (ρ p) (ρ y) H sh (if fresh then N else 0)) fun H'=>KK (.d (.val undef)) H' sh
  |_=>False)
 |4=>rU (wF P KT ρ o.op H sh) fun p=>KK p.1 p.2 sh
 |_=>rU (gr P N r (sn m o.after.toList) ρ o.op H sh) fun p=>KK p.1 p.2.1 p.2.2
def sE(P:Program)(KT:TypeId→Bool)(ops:List Oper)(N:Nat):Nat→Nat→List (Nat × Nat)→List Oper→Fr→ak→List (Nat × Nat)→(Fr→ak→List (Nat × Nat)→Prop)→Prop
 |_,_,_,[],τ,H,sh,K=>K τ H sh
 |i,r,m,o::l,τ,H,sh,K=>GK (kl ops τ o)
   (cE P KT N r (tY ops o) m o (aU τ) H sh fun x H' sh'=>sE P KT ops N (i+1) (if bp [] o then r+1 else r) (if bp [] o then(i,r)::m else m) l (τ.put o.dst x) H' sh' K)
   (sE P KT ops N (i+1) (if bp [] o then r+1 else r) (if bp [] o then(i,r)::m else m) l (τ.put o.dst (.d (.val undef))) H sh K)
section
variable {P:Program} {KT:TypeId→Bool} {τ:Fr} {H:ak}
theorem JC{α:Type}{o:Option α}{K K':α→Prop}(hK:∀x,K x→K' x)(h:rU o K):rU o K':=by
 obtain⟨x,h1,h2⟩:=h;exact⟨x,h1,hK x h2⟩
theorem jfz{sm:List Nat}{N:Nat}{τ:Fr}{f:AV}{xs:List AV}{inl:Bool}{K K':AV→ak→Prop}(hK:∀x H',K x H'→K' x H')(h:Ho P sm N H τ f xs inl K):Ho P sm N H τ f xs inl K':=by
 rcases h with⟨x,h1,h2⟩|⟨h0,n,fi,ca,h1,h2⟩|⟨h0,l,h1,m,S,T,K0,a1,a2,a3,a4,a5,a6,a7,a8⟩
 case inr.inr=>exact .inr (.inr ⟨h0,l,h1,m,S,T,K0,a1,a2,a3,a4,a5,a6,a7,fun x S' hx=>⟨(a8 x S' hx).1,hK _ _ (a8 x S' hx).2⟩⟩)
 ·exact .inl ⟨x,h1,hK _ _ h2⟩
 ·refine .inr (.inl ⟨h0,n,fi,ca,h1,?_⟩)
  rcases h2 with h2|⟨ds,Q,h2,h3,h4⟩|⟨m,S,T,K0,a1,a2,a3,a4,a5,a6,a7,a8⟩
  ·exact .inl (h2.mono hK)
  ·exact .inr (.inl ⟨ds,Q,h2,h3,fun x hx=>hK _ _ (h4 x hx)⟩)
  ·exact .inr (.inr ⟨m,S,T,K0,a1,a2,a3,a4,a5,a6,a7,fun x S' hx=>⟨(a8 x S' hx).1,hK _ _ (a8 x S' hx).2⟩⟩)
theorem ju2{sm:List Nat}{op:Op}{ρ:Operand→AV}{K K':AV→ak→Prop}(hK:∀x H',K x H'→K' x H')(h:cT P KT sm op ρ H K):cT P KT sm op ρ H K':=by
 unfold cT at h ⊢
 split at h
 ·split at h
  ·rename_i hc
   rw[if_pos hc]
   split at h
   ·exact jfz hK h
   ·exact h.elim
  ·rename_i hc
   rw[if_neg hc]
   exact JC (fun x=>hK x H) h
 ·split at h
  ·exact JC (fun x=>hK _ x) h
  ·exact h.elim
 ·exact JC (fun p=>hK p.1 p.2) h
 ·exact JC (fun p=>hK p.1 _) h
theorem Tc{N r:Nat}{fresh:Bool}{m:List (Nat × Nat)}{o:Oper}{sh:List (Nat × Nat)}{K K':AV→ak→List (Nat × Nat)→Prop}(hK:∀x H' sh',K x H' sh'→K' x H' sh')(h:tO P [] N r fresh m o τ H sh K):tO P [] N r fresh m o τ H sh K':=by
 unfold tO at h ⊢
 split at h
 ·obtain⟨x,h1,h2⟩:=h;exact⟨x,h1,hK _ _ _ h2⟩
 ·obtain⟨x,h1,h2⟩:=h;exact⟨x,h1,hK _ _ _ h2⟩
 ·obtain⟨x,y,h1,h2⟩:=h;exact⟨x,y,h1,hK _ _ _ h2⟩
 ·obtain⟨a1,a2,a3,x,H',sh',h1,h2⟩:=h;exact⟨a1,a2,a3,x,H',sh',h1,hK _ _ _ h2⟩
end
section
variable {P:Program} {KT:TypeId→Bool} {c:Cx} {τ:Fr} {H:ak} {Q:Exit→Fr→ak→Prop} {ops:List Oper}
theorem FP{g:Option Bool}{A B:Prop}(h:GK g A B):∃b,g=some b∧(b=true→A)∧(b=false→B):=by
 unfold GK at h
 split at h
 ·exact⟨true,rfl,fun _=>h,fun e=>by cases e⟩
 ·exact⟨false,rfl,(fun e=>by cases e),fun _=>h⟩
 ·exact h.elim
theorem yjs{sm:List Nat}(dB:∀k,KT k=true→Maps.Keyed P k){o:Oper}{K:Fr→ak→Prop}(h:cT P KT sm o.op (aU τ) H fun x H'=>K (τ.put o.dst x) H'):EY P [] sm o τ H K:=by
 unfold cT at h
 unfold EY
 split at h
 ·rename_i hk
  simp only[hk]
  split at h
  ·split at h
   ·rename_i f args ts e
    rw[e]
    rcases h with⟨x,hq,hx⟩|⟨_,n,fi,ca,hc,hq⟩|⟨_,l,hl,hq⟩
    ·exact .inl ⟨x,hq,hx⟩
    ·exact .inr (.inl ⟨n,fi,ca,hc,hq⟩)
    ·exact .inr (.inr ⟨l,hl,hq⟩)
   ·exact h.elim
  ·obtain⟨x,hx,hK⟩:=h
   exact .inl ⟨x,LR dB hx,hK⟩
 ·rename_i hk
  simp only[hk]
  split at h
  ·rename_i t p y e
   obtain⟨H1,hH,hK⟩:=h
   rw[e]
   exact⟨_,FX hH,hK⟩
  ·exact h.elim
 ·rename_i hk
  simp only[hk]
  obtain⟨p,hp,hK⟩:=h
  exact⟨p.1,p.2,FE dB hp,hK⟩
 ·rename_i dP mZ wK
  obtain⟨⟨x,ob,dd⟩,hl,hK⟩:=h
  have xQ:=Ja hl (K:=fun x H'=>K (τ.put o.dst x) H') hK
  rcases Jb dP mZ wK with hk|hk
  ·simp only[hk];exact xQ
  ·simp only[hk];exact xQ
theorem Ly{sm:List Nat}(dB:∀k,KT k=true→Maps.Keyed P k){K:Fr→ak→Prop}:∀{os:List Oper} {τ:Fr} {H:ak},sT P KT sm ops os τ H K→Ba P [] sm ops os τ H K
 |[],_,_,h=>h
 |o::os,τ,H,h=>by
  obtain⟨b,hg,ht,hf⟩:=FP h
  refine⟨b,hg,fun e=>yjs dB ?_,fun e=>Ly dB (hf e)⟩
  have:=ht e
  exact ju2 (fun x H' hh=>Ly dB hh) this
theorem Pp(dB:∀k,KT k=true→Maps.Keyed P k){N r:Nat}{fresh:Bool}{m:List (Nat × Nat)}{o:Oper}{sh:List (Nat × Nat)}{K:AV→ak→List (Nat × Nat)→Prop}(h:cE P KT N r fresh m o (aU τ) H sh K):tO P [] N r fresh m o τ H sh K:=by
 unfold cE at h
 unfold tO
 split at h
 ·rename_i hk
  simp only[hk]
  split at h
  ·split at h
   ·rename_i f args ts e
    rw[e]
    rcases h with⟨x,hq,hx⟩|⟨e,_⟩|⟨e,_⟩
    ·exact⟨x,hq,hx⟩
    ·cases e
    ·cases e
   ·exact h.elim
  ·obtain⟨x,hx,hK⟩:=h
   exact⟨x,LR dB hx,hK⟩
 ·rename_i hk
  simp only[hk]
  split at h
  ·rename_i t p y e
   obtain⟨H1,hH,hK⟩:=h
   rw[e]
   exact⟨_,FX hH,hK⟩
  ·exact h.elim
 ·rename_i hk
  simp only[hk]
  obtain⟨p,hp,hK⟩:=h
  exact⟨p.1,p.2,FE dB hp,hK⟩
 ·rename_i dP mZ wK
  obtain⟨⟨x,H',sh'⟩,hl,hK⟩:=h
  have:=Mq hl hK
  rcases Jb dP mZ wK with hk|hk
  ·simp only[hk];exact this
  ·simp only[hk];exact this
theorem Lx(dB:∀k,KT k=true→Maps.Keyed P k){N:Nat}{K:Fr→ak→List (Nat × Nat)→Prop}:∀{os:List Oper} {i r:Nat} {m:List (Nat × Nat)} {τ:Fr} {H:ak} {sh:List (Nat × Nat)},sE P KT ops N i r m os τ H sh K→A9 P [] ops N i r m os τ H sh K
 |[],_,_,_,_,_,_,h=>h
 |o::os,i,r,m,τ,H,sh,h=>by
  obtain⟨b,hg,ht,hf⟩:=FP h
  exact⟨b,hg,fun e=>Tc (fun x H' sh' hh=>Lx dB hh) (Pp dB (ht e)),fun e=>Lx dB (hf e)⟩
theorem bC{sm:List Nat}(fk:Kp c sm)(dB:∀k,KT k=true→Maps.Keyed P k){id:Nat}{l:List Oper}{y:Code}{n:Nat}(hn:c.nt=n)(hd:mh n l=true)(h:∀K:Fr→ak→Prop,(∀τ H,dj P c y Q τ H→K τ H)→sT P KT sm l l τ H K):dj P c (.seq (.region id l.toArray false) y) Q τ H:=
 jh8 (fr:=[]) fk hn hd fun K hK=>Ly dB (h K hK)
theorem bA{sm:List Nat}(fk:Kp c sm)(dB:∀k,KT k=true→Maps.Keyed P k){id:Nat}{l:List Oper}{n:Nat}(hn:c.nt=n)(hd:mh n l=true)(h:∀K:Fr→ak→Prop,(∀τ H,Q .normal τ H→K τ H)→sT P KT sm l l τ H K):dj P c (.region id l.toArray false) Q τ H:=
 yjj (fr:=[]) fk hn hd fun K hK=>Ly dB (h K hK)
theorem eN(dB:∀k,KT k=true→Maps.Keyed P k){id:Nat}{l:List Oper}{y:Code}{n:Nat}(hn:c.nt=n)(hm:P.follows .mixedOrders=true)(hd:mh n l=true){q:Nat}(hq:l.countP (bp [])=q)(hB:xD [] l l.length 0 (Array.replicate l.length false)=true)
  (h:∀K:Fr→ak→Prop,(∀τ H,dj P c y Q τ H→K τ H)→sE P KT l H.length 0 0 [] l τ (H++List.replicate q .free) [] fun τ' H' sh'=>K τ' (c6 sh' H')):dj P c (.seq (.region id l.toArray true) y) Q τ H:=
 Sq (fr:=[]) hn hm hd hq hB fun K hK=>Lx dB (h K hK)
theorem uR(dB:∀k,KT k=true→Maps.Keyed P k){id:Nat}{l:List Oper}{n:Nat}(hn:c.nt=n)(hm:P.follows .mixedOrders=true)(hd:mh n l=true){q:Nat}(hq:l.countP (bp [])=q)(hB:xD [] l l.length 0 (Array.replicate l.length false)=true)
  (h:∀K:Fr→ak→Prop,(∀τ H,Q .normal τ H→K τ H)→sE P KT l H.length 0 0 [] l τ (H++List.replicate q .free) [] fun τ' H' sh'=>K τ' (c6 sh' H')):dj P c (.region id l.toArray true) Q τ H:=
 jzp (fr:=[]) hn hm hd hq hB fun K hK=>Lx dB (h K hK)
end
section
variable {P:Program} {KT:TypeId→Bool} {sm:List Nat} {ops l:List Oper} {τ:Fr} {H:ak} {sh:List (Nat × Nat)} {N i r:Nat} {m:List (Nat × Nat)} {d:Option Tmp} {op:Op} {ty:TypeId} {pos:String} {af:Array Edge} {K:Fr→ak→Prop} {KD:Fr→ak→List (Nat × Nat)→Prop}
theorem jq9:sT P KT sm ops [] τ H K=K τ H:=rfl
theorem jra:sE P KT ops N i r m [] τ H sh KD=KD τ H sh:=rfl
theorem Xy{j:Nat}{want:Bool}:sT P KT sm ops (⟨d,op,ty,pos,af,some (j,want)⟩::l) τ H K=gK (kl ops τ ⟨d,op,ty,pos,af,some (j,want)⟩) (tg (sT P KT sm ops (⟨d,op,ty,pos,af,none⟩::l) τ H K)) (tg (sT P KT sm ops l (τ.put d (.d (.val undef))) H K)):=rfl
theorem ji3{y:Operand}:sT P KT sm ops (⟨d,.move y,ty,pos,af,none⟩::l) τ H K=(sT P KT sm ops l (τ.put d (aU τ y)) H K):=by simp[sT,sE,kl,GK,cT,cE,fW,qg,sU,yy,bp]
theorem ji4{y:Operand}:sE P KT ops N i r m (⟨d,.move y,ty,pos,af,none⟩::l) τ H sh KD=(sE P KT ops N (i+1) r m l (τ.put d (aU τ y)) H sh KD):=by simp[sT,sE,kl,GK,cT,cE,fW,qg,sU,yy,bp]
theorem SN{y:Operand}:sT P KT sm ops (⟨d,.assign y,ty,pos,af,none⟩::l) τ H K=(sT P KT sm ops l (τ.put d (aU τ y)) H K):=by simp[sT,sE,kl,GK,cT,cE,fW,qg,sU,yy,bp]
theorem SL{y:Operand}:sE P KT ops N i r m (⟨d,.assign y,ty,pos,af,none⟩::l) τ H sh KD=(sE P KT ops N (i+1) r m l (τ.put d (aU τ y)) H sh KD):=by simp[sT,sE,kl,GK,cT,cE,fW,qg,sU,yy,bp]
theorem ji5{c a b:Operand}:sT P KT sm ops (⟨d,.pick c a b,ty,pos,af,none⟩::l) τ H K=(oK (match aU τ c with| .d (.val (.bool t))=>some (if t then aU τ a else aU τ b)|_=>none)<|tg fun x=>sT P KT sm ops l (τ.put d x) H K):=rfl
theorem ji6{c a b:Operand}:sE P KT ops N i r m (⟨d,.pick c a b,ty,pos,af,none⟩::l) τ H sh KD=(oK (match aU τ c with| .d (.val (.bool t))=>some (if t then aU τ a else aU τ b)|_=>none)<|tg fun x=>sE P KT ops N (i+1) r m l (τ.put d x) H sh KD):=rfl
theorem ji7{t:TypeId}{y:Operand}:sT P KT sm ops (⟨d,.load t y,ty,pos,af,none⟩::l) τ H K=(oK (ff P H.length H t (aU τ y))<|tg fun x=>sT P KT sm ops l (τ.put d x) H K):=rfl
theorem ji8{t:TypeId}{y:Operand}:sE P KT ops N i r m (⟨d,.load t y,ty,pos,af,none⟩::l) τ H sh KD=(oK (ff P N H t (aU τ y))<|tg fun x=>sE P KT ops N (i+1) r m l (τ.put d x) H sh KD):=rfl
theorem Z6{t:TypeId}{y:Operand}{f:Nat}:sT P KT sm ops (⟨d,.fieldAddr t y f,ty,pos,af,none⟩::l) τ H K=(oK (dt P t f (aU τ y))<|tg fun x=>sT P KT sm ops l (τ.put d x) H K):=rfl
theorem jz0{t:TypeId}{y:Operand}{f:Nat}:sE P KT ops N i r m (⟨d,.fieldAddr t y f,ty,pos,af,none⟩::l) τ H sh KD=(oK (dt P t f (aU τ y))<|tg fun x=>sE P KT ops N (i+1) r m l (τ.put d x) H sh KD):=rfl
theorem jbw{t:TypeId}{y:Operand}{f:Nat}:sT P KT sm ops (⟨d,.field t y f,ty,pos,af,none⟩::l) τ H K=(oK (lu P t f (aU τ y))<|tg fun x=>sT P KT sm ops l (τ.put d x) H K):=rfl
theorem jz1{t:TypeId}{y z:Operand}:sT P KT sm ops (⟨d,.indexAddr t y z,ty,pos,af,none⟩::l) τ H K=(oK (dU P t (aU τ y) (aU τ z))<|tg fun x=>sT P KT sm ops l (τ.put d x) H K):=rfl
theorem jz2{t:TypeId}{y z:Operand}:sE P KT ops N i r m (⟨d,.indexAddr t y z,ty,pos,af,none⟩::l) τ H sh KD=(oK (dU P t (aU τ y) (aU τ z))<|tg fun x=>sE P KT ops N (i+1) r m l (τ.put d x) H sh KD):=rfl
theorem jbx{t:TypeId}{y z:Operand}:sT P KT sm ops (⟨d,.index t y z,ty,pos,af,none⟩::l) τ H K=(oK (lh P t (aU τ y) (aU τ z))<|tg fun x=>sT P KT sm ops l (τ.put d x) H K):=rfl
theorem jby{t:TypeId}{y:Operand}{lo hi:Option Operand}:sE P KT ops N i r m (⟨d,.slice t y lo hi none,ty,pos,af,none⟩::l) τ H sh KD=(oK (ld P N H t (aU τ y) (lo.map (aU τ)) (hi.map (aU τ)))<|tg fun x=>sE P KT ops N (i+1) r m l (τ.put d x) H sh KD):=rfl
theorem jrb{op:BinOp}{t t':TypeId}{y z:Operand}:sT P KT sm ops (⟨d,.binOp op t y z t',ty,pos,af,none⟩::l) τ H K=(oK (ur P op t (aU τ y) (aU τ z))<|tg fun x=>sT P KT sm ops l (τ.put d x) H K):=rfl
theorem jrc{op:BinOp}{t t':TypeId}{y z:Operand}:sE P KT ops N i r m (⟨d,.binOp op t y z t',ty,pos,af,none⟩::l) τ H sh KD=(oK (ur P op t (aU τ y) (aU τ z))<|tg fun x=>sE P KT ops N (i+1) r m l (τ.put d x) H sh KD):=rfl
theorem jz3{op:UnOp}{t:TypeId}{y:Operand}:sT P KT sm ops (⟨d,.unOp op t y,ty,pos,af,none⟩::l) τ H K=(oK (GD op (aU τ y))<|tg fun x=>sT P KT sm ops l (τ.put d x) H K):=rfl
theorem jz4{op:UnOp}{t:TypeId}{y:Operand}:sE P KT ops N i r m (⟨d,.unOp op t y,ty,pos,af,none⟩::l) τ H sh KD=(oK (GD op (aU τ y))<|tg fun x=>sE P KT ops N (i+1) r m l (τ.put d x) H sh KD):=rfl
theorem ji9{s t:TypeId}{y:Operand}:sT P KT sm ops (⟨d,.convert s t y,ty,pos,af,none⟩::l) τ H K=(oK (ng P s t (aU τ y))<|tg fun x=>sT P KT sm ops l (τ.put d x) H K):=rfl
theorem jja{s t:TypeId}{y:Operand}:sE P KT ops N i r m (⟨d,.convert s t y,ty,pos,af,none⟩::l) τ H sh KD=(oK (ng P s t (aU τ y))<|tg fun x=>sE P KT ops N (i+1) r m l (τ.put d x) H sh KD):=rfl
theorem jbz{t:TypeId}{ps:Array (Nat × Operand)}:sT P KT sm ops (⟨d,.build t ps,ty,pos,af,none⟩::l) τ H K=(oK (iW P t (ps.toList.map fun p=>(p.1,aU τ p.2)))<|tg fun x=>sT P KT sm ops l (τ.put d x) H K):=rfl
theorem jb0{t:TypeId}{ps:Array (Nat × Operand)}:sE P KT ops N i r m (⟨d,.build t ps,ty,pos,af,none⟩::l) τ H sh KD=(oK (iW P t (ps.toList.map fun p=>(p.1,aU τ p.2)))<|tg fun x=>sE P KT ops N (i+1) r m l (τ.put d x) H sh KD):=rfl
theorem Tb{y:Operand}{ix:Nat}:sT P KT sm ops (⟨d,.extract y ix,ty,pos,af,none⟩::l) τ H K=(oK (match aU τ y with| .dc vs=>vs[ix]? |_=>none)<|tg fun x=>sT P KT sm ops l (τ.put d x) H K):=rfl
theorem Ta{y:Operand}{ix:Nat}:sE P KT ops N i r m (⟨d,.extract y ix,ty,pos,af,none⟩::l) τ H sh KD=(oK (match aU τ y with| .dc vs=>vs[ix]? |_=>none)<|tg fun x=>sE P KT ops N (i+1) r m l (τ.put d x) H sh KD):=rfl
theorem jjb{y:Operand}:sT P KT sm ops (⟨d,.nilCheck y,ty,pos,af,none⟩::l) τ H K=(oK (if mU (aU τ y)then some (aU τ y)else none)<|tg fun x=>sT P KT sm ops l (τ.put d x) H K):=rfl
theorem jjc{y:Operand}:sE P KT ops N i r m (⟨d,.nilCheck y,ty,pos,af,none⟩::l) τ H sh KD=(oK (if mU (aU τ y)then some (aU τ y)else none)<|tg fun x=>sE P KT ops N (i+1) r m l (τ.put d x) H sh KD):=rfl
theorem SK{t:TypeId}{y z:Operand}{ok:Bool}:sT P KT sm ops (⟨d,.lookup t y z ok,ty,pos,af,none⟩::l) τ H K=(oK (zf P H.length H KT t (aU τ y) (aU τ z) ok)<|tg fun x=>sT P KT sm ops l (τ.put d x) H K):=rfl
theorem SJ{t:TypeId}{y z:Operand}{ok:Bool}:sE P KT ops N i r m (⟨d,.lookup t y z ok,ty,pos,af,none⟩::l) τ H sh KD=(oK (zf P N H KT t (aU τ y) (aU τ z) ok)<|tg fun x=>sE P KT ops N (i+1) r m l (τ.put d x) H sh KD):=rfl
theorem jz5{fn:Fn}{fi ca:Array Operand}:sT P KT sm ops (⟨d,.makeFunc fn fi ca,ty,pos,af,none⟩::l) τ H K=(sT P KT sm ops l (τ.put d (.dk fn (fi.toList.map (aU τ)) (ca.toList.map (aU τ)))) H K):=by simp[sT,sE,kl,GK,cT,cE,fW,qg,sU,yy,bp]
theorem jrd{args:Array Operand}{ts:Array TypeId}:sT P KT sm ops (⟨d,.call ⟨.builtin .len,args,ts⟩,ty,pos,af,none⟩::l) τ H K=(oK (dz P .len ts.toList (args.toList.map (aU τ)))<|tg fun x=>sT P KT sm ops l (τ.put d x) H K):=rfl
theorem jre{args:Array Operand}{ts:Array TypeId}:sE P KT ops N i r m (⟨d,.call ⟨.builtin .len,args,ts⟩,ty,pos,af,none⟩::l) τ H sh KD=(oK (dz P .len ts.toList (args.toList.map (aU τ)))<|tg fun x=>sE P KT ops N (i+1) r m l (τ.put d x) H sh KD):=rfl
theorem jrf{args:Array Operand}{ts:Array TypeId}:sT P KT sm ops (⟨d,.call ⟨.builtin .max,args,ts⟩,ty,pos,af,none⟩::l) τ H K=(oK (dz P .max ts.toList (args.toList.map (aU τ)))<|tg fun x=>sT P KT sm ops l (τ.put d x) H K):=rfl
theorem jrg{args:Array Operand}{ts:Array TypeId}:sT P KT sm ops (⟨d,.call ⟨.builtin .min,args,ts⟩,ty,pos,af,none⟩::l) τ H K=(oK (dz P .min ts.toList (args.toList.map (aU τ)))<|tg fun x=>sT P KT sm ops l (τ.put d x) H K):=rfl
theorem jb1{f:FuncId}{args:Array Operand}{ts:Array TypeId}:sT P KT sm ops (⟨d,.call ⟨.value (.func f),args,ts⟩,ty,pos,af,none⟩::l) τ H K=(kC P sm H.length H τ ((aU τ (.func f))) (args.toList.map (aU τ)) true<|tg fun x H'=>sT P KT sm ops l (τ.put d x) H' K):=rfl
theorem jb2{f:FuncId}{args:Array Operand}{ts:Array TypeId}:sE P KT ops N i r m (⟨d,.call ⟨.value (.func f),args,ts⟩,ty,pos,af,none⟩::l) τ H sh KD=(kC P [] N H τ ((aU τ (.func f))) (args.toList.map (aU τ)) false<|tg fun x _=>sE P KT ops N (i+1) r m l (τ.put d x) H sh KD):=rfl
theorem jb3{f:Nat}{args:Array Operand}{ts:Array TypeId}:sT P KT sm ops (⟨d,.call ⟨.value (.tmp f),args,ts⟩,ty,pos,af,none⟩::l) τ H K=(kC P sm H.length H τ ((aU τ (.tmp f))) (args.toList.map (aU τ)) true<|tg fun x H'=>sT P KT sm ops l (τ.put d x) H' K):=rfl
theorem jb4{f:Nat}{args:Array Operand}{ts:Array TypeId}:sE P KT ops N i r m (⟨d,.call ⟨.value (.tmp f),args,ts⟩,ty,pos,af,none⟩::l) τ H sh KD=(kC P [] N H τ ((aU τ (.tmp f))) (args.toList.map (aU τ)) false<|tg fun x _=>sE P KT ops N (i+1) r m l (τ.put d x) H sh KD):=rfl
theorem jrh{t:TypeId}{y:Operand}:sT P KT sm ops (⟨d,.box t y,ty,pos,af,none⟩::l) τ H K=(oK (fx P H.length (aU τ) (.box t y) H)<|tg fun p=>sT P KT sm ops l (τ.put d p.1) (gx H p.2.2++[p.2.1]) K):=rfl
theorem jb5{t:TypeId}:sT P KT sm ops (⟨d,.alloc t,ty,pos,af,none⟩::l) τ H K=(oK (fx P H.length (aU τ) (.alloc t) H)<|tg fun p=>sT P KT sm ops l (τ.put d p.1) (gx H p.2.2++[p.2.1]) K):=rfl
theorem jb6{t:TypeId}:sE P KT ops N i r m (⟨d,.alloc t,ty,pos,af,none⟩::l) τ H sh KD=(oK (gr P N r (sn m af.toList) (aU τ) (.alloc t) H sh)<|tg fun p=>sE P KT ops N (i+1) (r+1) ((i,r)::m) l (τ.put d p.1) p.2.1 p.2.2 KD):=rfl
theorem jjd{t:TypeId}{y z:Operand}:sT P KT sm ops (⟨d,.makeSlice t y z,ty,pos,af,none⟩::l) τ H K=(oK (fx P H.length (aU τ) (.makeSlice t y z) H)<|tg fun p=>sT P KT sm ops l (τ.put d p.1) (gx H p.2.2++[p.2.1]) K):=rfl
theorem jje{t:TypeId}{y z:Operand}:sE P KT ops N i r m (⟨d,.makeSlice t y z,ty,pos,af,none⟩::l) τ H sh KD=(oK (gr P N r (sn m af.toList) (aU τ) (.makeSlice t y z) H sh)<|tg fun p=>sE P KT ops N (i+1) (r+1) ((i,r)::m) l (τ.put d p.1) p.2.1 p.2.2 KD):=rfl
theorem jz6{t:TypeId}{n:Nat}{ps:Array (Nat × Operand)}:sT P KT sm ops (⟨d,.buildSlice t n ps,ty,pos,af,none⟩::l) τ H K=(oK (fx P H.length (aU τ) (.buildSlice t n ps) H)<|tg fun p=>sT P KT sm ops l (τ.put d p.1) (gx H p.2.2++[p.2.1]) K):=rfl
theorem jz7{t:TypeId}{n:Nat}{ps:Array (Nat × Operand)}:sE P KT ops N i r m (⟨d,.buildSlice t n ps,ty,pos,af,none⟩::l) τ H sh KD=(oK (gr P N r (sn m af.toList) (aU τ) (.buildSlice t n ps) H sh)<|tg fun p=>sE P KT ops N (i+1) (r+1) ((i,r)::m) l (τ.put d p.1) p.2.1 p.2.2 KD):=rfl
theorem jri{args:Array Operand}{ts:Array TypeId}:sT P KT sm ops (⟨d,.call ⟨.builtin .append,args,ts⟩,ty,pos,af,none⟩::l) τ H K=(oK (fx P H.length (aU τ) (.call ⟨.builtin .append,args,ts⟩) H)<|tg fun p=>sT P KT sm ops l (τ.put d p.1) (gx H p.2.2++[p.2.1]) K):=rfl
theorem jrj{args:Array Operand}{ts:Array TypeId}:sE P KT ops N i r m (⟨d,.call ⟨.builtin .append,args,ts⟩,ty,pos,af,none⟩::l) τ H sh KD=(oK (gr P N r (sn m af.toList) (aU τ) (.call ⟨.builtin .append,args,ts⟩) H sh)<|tg fun p=>sE P KT ops N (i+1) (r+1) ((i,r)::m) l (τ.put d p.1) p.2.1 p.2.2 KD):=rfl
theorem jz8{t:TypeId}{y:Option Operand}:sT P KT sm ops (⟨d,.makeMap t y,ty,pos,af,none⟩::l) τ H K=(oK (fx P H.length (aU τ) (.makeMap t y) H)<|tg fun p=>sT P KT sm ops l (τ.put d p.1) (gx H p.2.2++[p.2.1]) K):=rfl
theorem jb7{t:TypeId}{y z:Operand}:sT P KT sm ops (⟨d,.store t y z,ty,pos,af,none⟩::l) τ H K=(oK (fN P t (aU τ y) (aU τ z) H [] 0)<|tg fun H'=>sT P KT sm ops l (τ.put d (.d (.val undef))) H' K):=rfl
theorem jb8{t:TypeId}{y z:Operand}:sE P KT ops N i r m (⟨d,.store t y z,ty,pos,af,none⟩::l) τ H sh KD=(oK (fN P t (aU τ y) (aU τ z) H sh (if tY ops ⟨d,.store t y z,ty,pos,af,none⟩then N else 0))<|tg fun H'=>sE P KT ops N (i+1) r m l (τ.put d (.d (.val undef))) H' sh KD):=rfl
theorem jrk{t:TypeId}{y z u:Operand}:sT P KT sm ops (⟨d,.insert t y z u,ty,pos,af,none⟩::l) τ H K=(oK (wF P KT (aU τ) (.insert t y z u) H [])<|tg fun p=>sT P KT sm ops l (τ.put d p.1) p.2 K):=rfl
theorem ypb{j:Nat}{want:Bool}(hl:bp [] ⟨d,op,ty,pos,af,none⟩=false):sE P KT ops N i r m (⟨d,op,ty,pos,af,some (j,want)⟩::l) τ H sh KD=gK (kl ops τ ⟨d,op,ty,pos,af,some (j,want)⟩) (tg (sE P KT ops N i r m (⟨d,op,ty,pos,af,none⟩::l) τ H sh KD)) (tg (sE P KT ops N (i+1) r m l (τ.put d (.d (.val undef))) H sh KD)):=by
 have h1:bp [] ⟨d,op,ty,pos,af,some (j,want)⟩=false:=hl
 have h2:tY ops ⟨d,op,ty,pos,af,some (j,want)⟩=tY ops ⟨d,op,ty,pos,af,none⟩:=rfl
 show _=GK _ _ _
 simp only[sE,h1,hl,h2,Bool.false_eq_true,if_false];rfl
theorem yjt{j:Nat}{want:Bool}(hl:bp [] ⟨d,op,ty,pos,af,none⟩=true):sE P KT ops N i r m (⟨d,op,ty,pos,af,some (j,want)⟩::l) τ H sh KD=gK (kl ops τ ⟨d,op,ty,pos,af,some (j,want)⟩) (tg (sE P KT ops N i r m (⟨d,op,ty,pos,af,none⟩::l) τ H sh KD)) (tg (sE P KT ops N (i+1) (r+1) ((i,r)::m) l (τ.put d (.d (.val undef))) H sh KD)):=by
 have h1:bp [] ⟨d,op,ty,pos,af,some (j,want)⟩=true:=hl
 have h2:tY ops ⟨d,op,ty,pos,af,some (j,want)⟩=tY ops ⟨d,op,ty,pos,af,none⟩:=rfl
 show _=GK _ _ _
 simp only[sE,h1,hl,h2,if_true];rfl
theorem jz9{j:Nat}{want:Bool}:sE P KT ops N i r m (⟨d,op,ty,pos,af,some (j,want)⟩::l) τ H sh KD=gK (kl ops τ ⟨d,op,ty,pos,af,some (j,want)⟩) (tg (sE P KT ops N i r m (⟨d,op,ty,pos,af,none⟩::l) τ H sh KD)) (tg (sE P KT ops N (i+1) (if bp [] ⟨d,op,ty,pos,af,none⟩then r+1 else r) (if bp [] ⟨d,op,ty,pos,af,none⟩then(i,r)::m else m) l (τ.put d (.d (.val undef))) H sh KD)):=by
 cases hl:bp [] ⟨d,op,ty,pos,af,none⟩with
 |false=>rw[ypb hl];rfl
 |true=>rw[yjt hl];rfl
theorem cQ{f:FuncId}{args:List AV}{ds:List D}{x:AV}{inl:Bool}{KK:AV→ak→Prop}(hp:cC P f ds x)(hd:AV.lT.iO args=some ds)(hK:KK x H):kC P sm N H τ (.d (.val (.func (.func f) #[] #[]))) args inl (tg KK):=.inl (jig hp hd hK)
theorem yaa{f:FuncId}{args:List AV}{ds:List D}{v:Value}{inl:Bool}{KK:AV→ak→Prop}(hp:cC P f ds (.d (.val v)))(hd:mo (lE H N) 9 args=some ds)(hK:KK (.d (.val v)) H):kC P sm N H τ (.d (.val (.func (.func f) #[] #[]))) args inl (tg KK):=.inl (jnw (KA:=fun x=>KK x H) hp hd hK)
theorem P0{f:FuncId}{args:List AV}{ds:List D}{x:AV}{inl:Bool}{KK:AV→ak→Prop}(hp:w9 P f ds x)(hd:mo (lE H N) 9 args=some ds)(hK:KK x H):kC P sm N H τ (.d (.val (.func (.func f) #[] #[]))) args inl (tg KK):=.inl (jnx (KA:=fun x=>KK x H) hp hd hK)
theorem yab{f:FuncId}{args:List AV}{ds:List D}{Q:AV→Prop}{KK:AV→ak→Prop}(hp:tV P f ds Q)(hd:AV.lT.iO args=some ds)(hK:∀x,Q x→KK x H):kC P sm N H τ (.d (.val (.func (.func f) #[] #[]))) args true (tg KK):=
 .inr (.inl ⟨rfl,f,[],[],rfl,.inr (.inl ⟨ds,Q,by simpa using hd,hp,hK⟩)⟩)
theorem ZB{f:FuncId}{args:List AV}{KK:AV→ak→Prop}(h:wU P f args H KK):kC P sm N H τ (.d (.val (.func (.func f) #[] #[]))) args true (tg KK):=
 .inr (.inl ⟨rfl,f,[],[],rfl,.inl (by simpa using h)⟩)
theorem Po{f:FuncId}{args:List AV}{KK:AV→ak→Prop}(h:yV P f args H KK):kC P sm N H τ (.d (.val (.func (.func f) #[] #[]))) args true (tg KK):=ZB h.ZQ
theorem Jh{f:FuncId}{fi ca:List D}{args:List AV}{ds:List D}{x:AV}{inl:Bool}{KK:AV→ak→Prop}(hp:cC P f (fi++ds++ca) x)(hd:AV.lT.iO (fi.map .d++args++ca.map .d)=some (fi++ds++ca))(hK:KK x H):kC P sm N H τ (.d (.dk (.func f) fi ca)) args inl (tg KK):=
 .inl ⟨x,⟨f,fi.map .d,ca.map .d,fi++ds++ca,rfl,.inl ⟨.inl hd,hp⟩⟩,hK⟩
theorem jrl{f:FuncId}{args:List AV}{K0 KK:AV→ak→Prop}(h:wU P f args H K0)(hK:∀x H',K0 x H'→KK x H'):kC P sm N H τ (.d (.val (.func (.func f) #[] #[]))) args true (tg KK):=ZB (h.mono hK)
theorem r7{f:FuncId}{args:List AV}{S T:ak}{K0 KK:AV→ak→Prop}{ks:List Nat}(h:cM P ks f args S K0)(hH:H=S++T)(hm:sm.all (aJ ks S.length)=true)(hτ:∀t,(τ t).allI (aJ ks S.length)=true)(ha:AV.ah (aN S.length) args=true)
  (hS:∀o∈S,o.allI (aN S.length)=true) (hT:∀o∈T,o.allI (aJ ks S.length)=true) (hK:∀x S',K0 x S'→S'.length=S.length∧KK x (S'++T)):kC P sm N H τ (.d (.val (.func (.func f) #[] #[]))) args true (tg KK):=
 .inr (.inl ⟨rfl,f,[],[],rfl,.inr (.inr ⟨ks,S,T,K0,hH,hm,hτ,by simpa using ha,hS,hT,by simpa using h,hK⟩)⟩)
theorem Aw{f:FuncId}{fi ca args:List AV}{S T:ak}{K0 KK:AV→ak→Prop}{ks:List Nat}(h:cM P ks f (fi++args++ca) S K0)(hH:H=S++T)(hm:sm.all (aJ ks S.length)=true)(hτ:∀t,(τ t).allI (aJ ks S.length)=true)(ha:AV.ah (aN S.length) (fi++args++ca)=true)
  (hS:∀o∈S,o.allI (aN S.length)=true) (hT:∀o∈T,o.allI (aJ ks S.length)=true) (hK:∀x S',K0 x S'→S'.length=S.length∧KK x (S'++T)):kC P sm N H τ (.dk (.func f) fi ca) args true (tg KK):=
 .inr (.inl ⟨rfl,f,fi,ca,rfl,.inr (.inr ⟨ks,S,T,K0,hH,hm,hτ,ha,hS,hT,h,hK⟩)⟩)
theorem fU{p:Nat→Bool}{l:List (Nat × AV)}(h:AV.ah p (l.map (·.2))=true)(t:Nat):(aG l t).allI p=true:=by
 induction l with
 |nil=>rfl
 |cons a l ih=>
  obtain⟨d,x⟩:=a
  rw[List.map_cons,AV.ah,gG]at h
  rw[DF]
  split
  ·exact h.1
  ·exact ih h.2
end
end
section
section
variable {P:Program} {t:TypeId} {a b:Int} {kk:IntKind}
theorem ifp{α:Type}{c:Prop}[Decidable c]{x y:α}(h:c):(if c then x else y)=x:=if_pos h
theorem ifn{α:Type}{c:Prop}[Decidable c]{x y:α}(h:¬c):(if c then x else y)=y:=if_neg h
theorem jrm{op:BinOp}{u v:Value}:ur P op t (.d (.val u)) (.d (.val v))=(gT P op t u v).map fun r=>.d (.val r):=rfl
def PZ:Option Value→Option Value→Option Bool→Option Bool
 |some (.int k x),some (.int k' y),r=>if k=k' then r.map fun r=>(x==y)&&r else none
 |_,_,_=>none
theorem jjh{a b:List Value}:sF a b []=some true:=rfl
def Xx:Option Value→Option Value→Option Bool→Option Bool
 |some (.bool x),some (.bool y),r=>r.map fun r=>(x==y)&&r
 |_,_,_=>none
theorem jb9{x y:Bool}{r:Option Bool}:Xx (some (.bool x)) (some (.bool y)) r=r.map fun r=>(x==y)&&r:=rfl
theorem jca{a b:List Value}{o:Nat}{os:List (Nat × Bool)}:sF a b ((o,true)::os)=Xx a[o]? b[o]? (sF a b os):=by
 rw[sF]
 generalize a[o]? =x
 generalize b[o]? =y
 cases x with
 |none=>cases y<;>rfl
 |some u=>
  cases y with
  |none=>cases u<;>rfl
  |some v=>cases u<;>cases v<;>rfl
theorem jcb{a b:List Value}{o:Nat}{os:List (Nat × Bool)}:sF a b ((o,false)::os)=PZ a[o]? b[o]? (sF a b os):=by
 rw[sF]
 generalize a[o]? =x
 generalize b[o]? =y
 cases x with
 |none=>cases y<;>rfl
 |some u=>
  cases y with
  |none=>cases u<;>rfl
  |some v=>cases u<;>cases v<;>rfl
theorem jji{k:IntKind}{x y:Int}{r:Option Bool}:PZ (some (.int k x)) (some (.int k y)) r=r.map fun r=>(x==y)&&r:=by simp[PZ]
def yS(P:Program)(t:TypeId)(a b:Option (List Value)):Option Bool:=(CE P t).bind fun os=>a.bind fun a=>b.bind fun b=>sF a b os
theorem ZA{l m:List AV}:ur P .eql t (.agg l) (.agg m)=(yS P t (kh l) (kh m)).map fun b=>.d (.val (.bool b)):=rfl
theorem Zz{l:List D}{m:List AV}:ur P .eql t (.d (.agg l)) (.agg m)=(yS P t (kh (l.map .d)) (kh m)).map fun b=>.d (.val (.bool b)):=rfl
theorem Zy{l:List AV}{m:List D}:ur P .eql t (.agg l) (.d (.agg m))=(yS P t (kh l) (kh (m.map .d))).map fun b=>.d (.val (.bool b)):=rfl
theorem Zx{l m:List D}:ur P .eql t (.d (.agg l)) (.d (.agg m))=(yS P t (kh (l.map .d)) (kh (m.map .d))).map fun b=>.d (.val (.bool b)):=rfl
theorem Zw{l m:List AV}:ur P .neq t (.agg l) (.agg m)=((yS P t (kh l) (kh m)).map (!·)).map fun b=>.d (.val (.bool b)):=rfl
theorem Zv{l:List D}{m:List AV}:ur P .neq t (.d (.agg l)) (.agg m)=((yS P t (kh (l.map .d)) (kh m)).map (!·)).map fun b=>.d (.val (.bool b)):=rfl
theorem Zu{l:List AV}{m:List D}:ur P .neq t (.agg l) (.d (.agg m))=((yS P t (kh l) (kh (m.map .d))).map (!·)).map fun b=>.d (.val (.bool b)):=rfl
theorem Zt{l m:List D}:ur P .neq t (.d (.agg l)) (.d (.agg m))=((yS P t (kh (l.map .d)) (kh (m.map .d))).map (!·)).map fun b=>.d (.val (.bool b)):=rfl
theorem Dw{os:List (Nat × Bool)}{a b:List Value}(h:CE P t=some os):yS P t (some a) (some b)=sF a b os:=by unfold yS;rw[h];rfl
theorem Zs(h1: -9223372036854775808≤a+b)(h2:a+b<9223372036854775808):gT P .add t (.int .i64 a) (.int .i64 b)=some (.int .i64 (a+b)):=by simp[gT,pb,GV h1 h2]
theorem Zr(h1: -9223372036854775808≤a - b)(h2:a - b<9223372036854775808):gT P .sub t (.int .i64 a) (.int .i64 b)=some (.int .i64 (a - b)):=by simp[gT,pb,GV h1 h2]
theorem Zq(h1: -9223372036854775808≤a*b)(h2:a*b<9223372036854775808):gT P .mul t (.int .i64 a) (.int .i64 b)=some (.int .i64 (a*b)):=by simp[gT,pb,GV h1 h2]
theorem Zp(h1:0≤a)(h2:0<b)(h3:a<9223372036854775808):gT P .quo t (.int .i64 a) (.int .i64 b)=some (.int .i64 (a / b)):=by
 have:=yjk (P:=P) (t:=t) (KV:=fun r=>r= .int .i64 (a / b)) h1 h2 h3
 obtain⟨r,hr,e⟩:=this.mpr rfl
 rw[hr,e]
theorem Zo(h1:0≤a)(h2:0<b):gT P .rem t (.int kk a) (.int kk b)=some (.int kk (a % b)):=by
 obtain⟨r,hr,e⟩:=(yjl (P:=P) (t:=t) (kk:=kk) (KV:=fun r=>r= .int kk (a % b)) h1 h2).mpr rfl
 rw[hr,e]
theorem Zn:gT P .eql t (.int kk a) (.int kk b)=some (.bool (a==b)):=by simp[gT,pb,CF]
theorem Zm:gT P .neq t (.int kk a) (.int kk b)=some (.bool (a !=b)):=by simp[gT,pb,CF]
theorem Zl:gT P .lss t (.int kk a) (.int kk b)=some (.bool (decide (a<b))):=by simp[gT,pb,CF]
theorem Zk:gT P .leq t (.int kk a) (.int kk b)=some (.bool (decide (a≤b))):=by simp[gT,pb,CF]
theorem Zj:gT P .gtr t (.int kk a) (.int kk b)=some (.bool (decide (b<a))):=by simp[gT,pb,CF]
theorem Zi:gT P .geq t (.int kk a) (.int kk b)=some (.bool (decide (b≤a))):=by simp[gT,pb,CF]
theorem jrn{a b:Bool}:gT P .neq t (.bool a) (.bool b)=if DI P t=true then some (.bool (a !=b))else none:=rfl
theorem Zh(h:0≤b):gT P .shl t (.int .i64 a) (.int kk b)=some (.int .i64 (IntKind.i64.wrap (a*2^min b.toNat 64))):=by simp[gT,pb,show ¬b<0 by omega,IntKind.bits]
theorem Zg(h:0≤b):gT P .shr t (.int .i64 a) (.int kk b)=some (.int .i64 (a.fdiv (2^min b.toNat 64))):=by simp[gT,pb,show ¬b<0 by omega,IntKind.bits]
theorem Zf:gT P .and t (.int .i64 a) (.int .i64 b)=some (.int .i64 (pc .and .i64 a b)):=by simp[gT,pb]
theorem Xw:gT P .or t (.int .i64 a) (.int .i64 b)=some (.int .i64 (pc .or .i64 a b)):=by simp[gT,pb]
theorem Ze:gT P .xor t (.int .i64 a) (.int .i64 b)=some (.int .i64 (pc .xor .i64 a b)):=by simp[gT,pb]
theorem ZK{b:Bool}:GD .not (.d (.val (.bool b)))=some (.d (.val (.bool (!b)))):=rfl
end
end
end Go.Proofs.YtapjobndmmkanaaGreat
