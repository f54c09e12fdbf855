/- Of no program: objects that are no more needed are dropped, the others numbered anew. -/
import Derived.Test.YtapjobndmmkanaaGreatAJ
set_option linter.unusedVariables false
set_option linter.unusedSimpArgs false
namespace Go.Proofs.YtapjobndmmkanaaGreat
open Go Go.RowKit
section
def kq:List Nat→Nat→Option Nat
 |[],_=>none
 |a::l,x=>if x=a then some 0 else(kq l x).map (·+1)
theorem Rb:∀{l:List Nat} {x j:Nat},kq l x=some j→l[j]? =some x
 |[],_,_,h=>by cases h
 |a::l,x,j,h=>by
  unfold kq at h
  split at h
  ·rename_i e;cases h;rw[e];rfl
  ·obtain⟨i,hi,rfl⟩:=dc.1 h
   simpa using Rb hi
mutual
def du(keep:List Nat):AV→AV
 | .any=>.any
 | .d x=>.d x
 | .os k id off n=>match kq keep id with|some j=>.os k j off n|none=>.any
 | .op id off=>match kq keep id with|some j=>.op j off|none=>.any
 | .om id=>match kq keep id with|some j=>.om j|none=>.any
 | .agg cs=>.agg (jF keep cs)
 | .dR cs=>.dR (jF keep cs)
 | .dC fn fi ca=>.dC fn (jF keep fi) (jF keep ca)
def jF(keep:List Nat):List AV→List AV
 |[]=>[]
 |x::l=>du keep x::jF keep l
end
def zy(keep:List Nat):bB→bB
 | .free=>.free
 | .dead=>.dead
 | .cells cs=>.cells (jF keep cs)
 | .map es clock=>.map (es.map fun e=>(e.1,e.2.1,du keep e.2.2)) clock
 | .loop b r fr=>.loop b r (jF keep fr)
def dg(keep:List Nat)(H:av):av:=keep.map fun i=>zy keep (H.getD i .dead)
theorem xL(keep:List Nat):∀cs:List AV,jF keep cs=cs.map (du keep)
 |[]=>rfl
 |x::l=>by rw[jF,xL keep l];rfl
theorem yek(keep:List Nat)(x:D):du keep (.d x)= .d x:=by rw[du]
theorem jv2(keep:List Nat)(ds:List D):jF keep (ds.map .d)=ds.map .d:=by
 rw[xL,List.map_map]
 exact List.map_congr_left fun x _=>yek keep x
theorem jk0(keep:List Nat)(o:bB):(zy keep o).live=o.live:=by cases o<;>rfl
section
variable {P:Program} {c:Cx} {τ:Fr} {a:Act} {w:World} {pl:List (Option (Nat × Nat))} {H:av} {Q:Exit→Fr→av→Prop}
def yc(keep:List Nat)(pl:List (Option (Nat × Nat))):List (Option (Nat × Nat)):=keep.map fun i=>pl.getD i none
theorem BM{keep:List Nat}{j i:Nat}(h:keep[j]? =some i){p:Option (Nat × Nat)}(hp:pl[i]? =some p):(yc keep pl)[j]? =some p:=by
 unfold yc
 rw[List.getElem?_map,h,Option.map_some,fZ,hp];rfl
theorem jk1{keep:List Nat}{j:Nat}{p:Nat × Nat}(h:(yc keep pl)[j]? =some (some p)):∃i,keep[j]? =some i∧pl[i]? =some (some p):=by
 unfold yc at h
 rw[List.getElem?_map,dc]at h
 obtain⟨i,hi,he⟩:=h
 refine⟨i,hi,?_⟩
 rw[fZ]at he
 cases hq:pl[i]? with
 |none=>rw[hq]at he;cases he
 |some q=>rw[hq]at he;exact congrArg some he
theorem KF{keep:List Nat}{own dX:Nat→Prop}(hw:∀b,dX b→own b){x:AV}{v:Value}(h:Rd w pl own x v):Rd w (yc keep pl) dX (du keep x) v:=by
 have place:∀{id j b base:Nat},kq keep id=some j→pl[id]? =some (some (b,base))→(yc keep pl)[j]? =some (some (b,base)):=fun hj hp=>BM (Rb hj) hp
 have pw:∀{cs:List AV} {j:Nat} {y:AV},(jF keep cs)[j]? =some y→∃x,cs[j]? =some x∧y=du keep x:=fun{cs j y} h=>by
  rw[xL,List.getElem?_map,dc]at h
  obtain⟨x,hx,rfl⟩:=h
  exact⟨x,hx,rfl⟩
 induction h with
 |any v=>rw[du];exact .any v
 |d x v h=>rw[du];exact .d _ _ (h.mono (bJ _) (fun _ _ _=>rfl) (fun b _ hb=>hw b hb))
 |os k id off n cap b base sz t h1 h2 h3 h4 h5=>
  rw[du]
  split
  ·rename_i j hj;exact .os k j off n cap b base sz t (place hj h1) h2 h3 h4 h5
  ·exact .any _
 |lU k id off ad=>
  rw[du]
  split
  ·exact .lU _ _ _ _
  ·exact .any _
 |op id off b base h1=>
  rw[du]
  split
  ·rename_i j hj;exact .op j off b base (place hj h1)
  ·exact .any _
 |om id b base h1=>
  rw[du]
  split
  ·rename_i j hj;exact .om j b base (place hj h1)
  ·exact .any _
 |agg cs vs hl _ ih=>
  rw[du]
  refine .agg _ _ (by rw[xL];simpa using hl) fun j y hj=>?_
  obtain⟨x,hx,rfl⟩:=pw hj
  exact ih j x hx
 |dR cs vs hl _ ih=>
  rw[du]
  refine .dR _ _ (by rw[xL];simpa using hl) fun j y hj=>?_
  obtain⟨x,hx,rfl⟩:=pw hj
  exact ih j x hx
 |dC fn fi ca vs us hl _ gr _ ih uu=>
  rw[du]
  refine .dC _ _ _ _ _ (by rw[xL];simpa using hl) (fun j y hj=>?_) (by rw[xL];simpa using gr) (fun j y hj=>?_)
  ·obtain⟨x,hx,rfl⟩:=pw hj
   exact ih j x hx
  ·obtain⟨x,hx,rfl⟩:=pw hj
   exact uu j x hx
theorem R.gc{m:List Nat}(hp:Kp c m){keep:List Nat}(hk:∀i∈m,keep[i]? =some i)(hn:keep.Nodup)(hb:∀i∈keep,i<H.length)(hR:R c τ H [] a w):R c (fun t=>du keep (τ t)) (dg keep H) [] a w:=by
 obtain⟨pl,h⟩:=hR
 have back:∀{j:Nat} {o':bB},(dg keep H)[j]? =some o'→∃i o,keep[j]? =some i∧H[i]? =some o∧o'=zy keep o:=fun{j o'} hj=>by
  unfold dg at hj
  rw[List.getElem?_map,dc]at hj
  obtain⟨i,hi,rfl⟩:=hj
  have aA:=hb i (List.mem_of_getElem? hi)
  exact⟨i,H[i],hi,iv aA,by rw[fZ,iv aA];rfl⟩
 have lu:∀{j:Nat} {o':bB} {p:Nat × Nat},(dg keep H)[j]? =some o'→o'.live=true→(yc keep pl)[j]? =some (some p)→∃i o,keep[j]? =some i∧H[i]? =some o∧o.live=true∧pl[i]? =some (some p):=fun{j o' p} hj hl hpj=>by
  obtain⟨i,o,h1,h2,rfl⟩:=back hj
  obtain⟨i',h3,h4⟩:=jk1 hpj
  rw[h1]at h3;cases h3
  exact⟨i,o,h1,h2,by rw[jk0]at hl;exact hl,h4⟩
 have dS:∀b,bF c.E (dg keep H) (yc keep pl) b→bF c.E H pl b:=fun b P8=>by
  rcases P8 with P8|⟨j,o',e,h1,h2,h3⟩
  ·exact .inl P8
  ·obtain⟨i,o,_,k2,k3,k4⟩:=lu h1 h2 h3
   exact .inr ⟨i,o,e,k2,k3,k4⟩
 refine⟨yc keep pl,⟨by simp[yc,dg],fun j o' hj=>?_,fun i j oi oj p q h1 h2 l1 l2 cR _ _ p1 p2=>?_,fun i o p h1 l1 p1=>?_,fun p hp=>(by cases hp),fun i j ci cj p q hm=>(by cases hm)⟩,h.lR,fun i o p h1 l1 p1=>?_,h.ext,fun t=>KF dS (h.fr t),h.size,h.defs.sub (fun b ⟨j,o',e,h1,h2,h3⟩=>let⟨i,o,_,k2,k3,k4⟩:=lu h1 h2 h3;⟨i,o,e,k2,k3,k4⟩),fun i p hi=>by
  exact BM (hk i (hp i p hi)) (h.keep i p hi)⟩
 ·obtain⟨i,o,h1,h2,rfl⟩:=back hj
  have ho:=h.h.obj i o h2
  cases o with
  |free=>exact BM h1 ho
  |dead=>trivial
  |cells cs=>
   rcases ho with⟨k1,k2⟩|⟨b,base,arr,t,k1,k2,k3,k4⟩
   ·exact .inl ⟨by subst k1;rfl,BM h1 k2⟩
   ·refine .inr ⟨b,base,arr,t,BM h1 k1,k2,by rw[xL];simpa using k3,fun j y hj=>?_⟩
    rw[xL,List.getElem?_map,dc]at hj
    obtain⟨x,hx,rfl⟩:=hj
    exact⟨KF dS (k4 j x hx).1,(k4 j x hx).2⟩
  |map es clock=>
   obtain⟨b,base,ms,k1,k2,k3,k4,k5⟩:=ho
   refine⟨b,base,ms,BM h1 k1,k2,by simpa using k3,by rw[List.map_map];exact k4,fun j e k n x hj hx=>?_⟩
   rw[List.getElem?_map,dc]at hx
   obtain⟨⟨k',n',x'⟩,lz,he⟩:=hx
   cases he
   obtain⟨m1,m2,m3⟩:=k5 j e k' n' x' hj lz
   exact⟨m1,m2,KF dS m3⟩
  |loop b r fr=>
   obtain⟨base,k1,k2,k3⟩:=ho
   refine⟨base,BM h1 k1,k2,fun j y hj=>?_⟩
   rw[xL,List.getElem?_map,dc]at hj
   obtain⟨x,hx,rfl⟩:=hj
   exact KF dS (k3 j x hx)
 ·obtain⟨i',o1,a1,a2,a3,a4⟩:=lu h1 l1 p1
  obtain⟨j',o2,b1,b2,b3,b4⟩:=lu h2 l2 p2
  refine h.h.mc i' j' o1 o2 p q a2 b2 a3 b3 (fun e=>?_) (by simp) (by simp) a4 b4
  subst e
  have nO:=List.pairwise_iff_getElem.1 hn
  obtain⟨m1,g1⟩:=ew.1 a1
  obtain⟨m2,g2⟩:=ew.1 b1
  rcases Nat.lt_trichotomy i j with hl|hl|hl
  ·exact nO i j m1 m2 hl (g1.trans g2.symm)
  ·exact cR hl
  ·exact nO j i m2 m1 hl (g2.trans g1.symm)
 ·obtain⟨i',o1,a1,a2,a3,a4⟩:=lu h1 l1 p1
  exact h.h.ext i' o1 p a2 a3 a4
 ·obtain⟨i',o1,a1,a2,a3,a4⟩:=lu h1 l1 p1
  exact h.js i' o1 p a2 a3 a4
theorem MC{f:FuncId}{fn:Func}{code:Code}{ds:List D}{Q:AV→av→Prop}{E:Nat→Prop}{vals:Array Value}(hf:P.funcs[f]? =some fn)(hb:fn.body=some code)(hn:ds.length≤fn.ntmps)(h:∀c:Cx,c.nt=fn.ntmps→Kp c []→Ij c→ei P c code (rI P fn Q) (yy ds) [])
  (hl:vals.size=ds.length) (hx:∀j x,ds[j]? =some x→fO w E x (vals.getD j undef)) (hE:∀b,E b→b<w.heap.size):
  Calls P f vals w fun e w'=>∃v x H' a' pl τ',e= .returned v∧Q x H'∧Rd w' pl (bF E H' pl) x v∧aV ⟨E,w,fun _=>False,fn.ntmps,[],none,w.heap.size⟩ τ' H' [] pl a' w':=by
 have hR:R ⟨E,w,fun _=>False,fn.ntmps,[],none,w.heap.size⟩ (yy ds) [] [] {tmps:=vals++Array.replicate (fn.ntmps - vals.size) undef,defers:=[]} w:=by
  refine⟨[],⟨rfl,fun id o ho=>by simp at ho,fun i j oi oj p q h1=>by simp at h1,fun i o p h1=>by simp at h1,fun p hp=>(by cases hp),fun i j ci cj p q hm=>(by cases hm)⟩,jK.refl _ _,fun id o p h1=>by simp at h1,hE,fun t=>?_,by simp;omega,sZ.nil,fun i p hi=>by simp at hi⟩
  simp only[RR]
  unfold yy
  rw[fZ,List.getElem?_map]
  cases hd:ds[t]? with
  |none=>
   have:vals.size≤t:=by rw[hl];exact List.getElem?_eq_none_iff.1 hd
   simp only[Array.getD,dif_neg (Nat.not_lt.2 this)]
   exact .d _ _ (.val _)
  |some x=>exact .d _ _ ((hx t x hd).mono (bJ _) (fun _ _ _=>rfl) (fun b _ hb=>by
   rcases hb with hb|⟨i,o,e,h1,_⟩
   ·exact hb
   ·simp at h1))
 exact TD (c:=⟨E,w,fun _=>False,fn.ntmps,[],none,w.heap.size⟩) rfl (bJ _) hf hb (h _ rfl (Kp.none rfl) ⟨rfl,bJ _⟩ _ w hR) fun τ' H' bK a' w' x v h1 k1 k2=>⟨v,x,H',a',bK,τ',rfl,k1,k2,h1⟩
theorem jdu{f:FuncId}{fn:Func}{code:Code}{ds:List D}{r:AV}(he:qq P f=true)(hf:P.funcs[f]? =some fn)(hb:fn.body=some code)(hn:ds.length≤fn.ntmps)
  (h:∀c:Cx,c.nt=fn.ntmps→Kp c []→Ij c→ei P c code (rI P fn fun x H=>ai H x=some r) (yy ds) []):dq P f ds r:=
 ⟨he,fun _ _ _ hl hx hE=>(MC hf hb hn h hl hx hE).mono fun _ _ ⟨v,_,_,_,_,_,h1,h2,h3,h4⟩=>⟨v,h1,RP h4.h h2 h3,h4.lR.mX⟩⟩
theorem jdv{f:FuncId}{fn:Func}{code:Code}{ds:List D}{Q:AV→Prop}(he:qq P f=true)(hf:P.funcs[f]? =some fn)(hb:fn.body=some code)(hn:ds.length≤fn.ntmps)
  (h:∀c:Cx,c.nt=fn.ntmps→Kp c []→Ij c→ei P c code (rI P fn fun x H=>∃r,ai H x=some r∧Q r) (yy ds) []):tq P f ds Q:=
 ⟨he,fun _ _ _ hl hx hE=>(MC hf hb hn h hl hx hE).mono fun _ _ ⟨v,_,_,_,_,_,h1,⟨r,h2,h5⟩,h3,h4⟩=>⟨v,r,h1,h5,RP h4.h h2 h3,h4.lR.mX⟩⟩
theorem jdw{f:FuncId}{fn:Func}{code:Code}{ds:List D}{r:AV}(he:qq P f=true)(hf:P.funcs[f]? =some fn)(hb:fn.body=some code)(hn:ds.length≤fn.ntmps)
  (h:∀c:Cx,c.nt=fn.ntmps→Kp c []→Ij c→ei P c code (rI P fn fun x H=>ku H x=some r) (yy ds) []):Dc P f ds r:=
 ⟨he,fun w O _ hl hx hE=>(MC hf hb hn h hl hx hE).mono fun _ w' ⟨v,_,_,_,_,_,h1,h2,h3,h4⟩=>⟨v,h1,jfr h4.h (fun id o p k1 k2 k3 wU=>by
  rcases wU with wU|wU
  ·exact h4.h.ext id o p k1 k2 k3 wU
  ·rcases h4.js id o p k1 k2 k3 with h|h
   ·exact h
   ·simp only at h;omega) h2 h3,h4.lR.mX⟩⟩
theorem fh{f:FuncId}{fn:Func}{code:Code}{ds:List D}{r:AV}(he:qq P f=true)(hf:P.funcs[f]? =some fn)(hb:fn.body=some code)(hn:ds.length≤fn.ntmps)
  (h:∀c:Cx,c.nt=fn.ntmps→Kp c []→ei P c code (rI P fn fun x H=>ai H x=some r) (yy ds) []):dq P f ds r:=jdu he hf hb hn fun c h1 h2 _=>h c h1 h2
theorem I3{f:FuncId}{fn:Func}{code:Code}{ds:List D}{Q:AV→Prop}(he:qq P f=true)(hf:P.funcs[f]? =some fn)(hb:fn.body=some code)(hn:ds.length≤fn.ntmps)
  (h:∀c:Cx,c.nt=fn.ntmps→Kp c []→ei P c code (rI P fn fun x H=>∃r,ai H x=some r∧Q r) (yy ds) []):tq P f ds Q:=jdv he hf hb hn fun c h1 h2 _=>h c h1 h2
theorem jdx{f:FuncId}{fn:Func}{code:Code}{ds:List D}{r:AV}(he:qq P f=true)(hf:P.funcs[f]? =some fn)(hb:fn.body=some code)(hn:ds.length≤fn.ntmps)
  (h:∀c:Cx,c.nt=fn.ntmps→Kp c []→ei P c code (rI P fn fun x H=>ku H x=some r) (yy ds) []):Dc P f ds r:=jdw he hf hb hn fun c h1 h2 _=>h c h1 h2
end
section
variable {P:Program} {fr:List FuncId} {ops l:List Oper} {τ:Fr} {H:av} {d:Option Tmp} {ty:TypeId} {pos:String} {af:Array Edge} {K:Fr→av→Prop} {t:TypeId}
variable {KV:Value→Prop} {a b:Bool}
theorem jaa{n:Nat}{zs:List D}:kl n zs=match zs with|[z]=>List.replicate n (.d z)|zs=>(List.replicate n (zs.map AV.d)).flatten:=rfl
theorem jab{pf:Nat→Option (Nat × Nat)}{cs:List AV}:u3 pf cs []=some cs:=rfl
theorem RH{pf:Nat→Option (Nat × Nat)}{cs:List AV}{i:Nat}{x:AV}{ps:List (Nat × AV)}:u3 pf cs ((i,x)::ps)=match pf i with
  |none=>none
  |some (off,size)=>match lQ x with
   |none=>none
   |some l=>if l.length≠size∨off+l.length>cs.length then none else u3 pf (iF cs off l) ps:=rfl
theorem jny{k:IntKind}{n:Int}:lQ (.d (.val (.int k n)))=some [.d (.val (.int k n))]:=rfl
theorem jf9{b:Bool}:lQ (.d (.val (.bool b)))=some [.d (.val (.bool b))]:=rfl
theorem Zn{cs:List D}{n:Nat}:lQ (.d (.fs cs n))=some [.d (.fs cs n)]:=rfl
theorem Zm{k id off n:Nat}:lQ (.os k id off n)=some [.os k id off n]:=rfl
theorem Zl{id off:Nat}:lQ (.op id off)=some [.op id off]:=rfl
theorem Zk{id:Nat}:lQ (.om id)=some [.om id]:=rfl
theorem jnz{cs:List AV}:lQ (.agg cs)=if cs.all AV.one then some cs else none:=rfl
theorem jga{cs:List D}:lQ (.d (.agg cs))=if cs.all D.one then some (cs.map .d)else none:=rfl
theorem jac{cs:List AV}{i:Nat}:iF cs i []=cs:=rfl
theorem RF{cs l:List AV}{i:Nat}{x:AV}:iF cs i (x::l)=iF (cs.set i x) (i+1) l:=rfl
end
end
section
def sb{α:Type}(o:Option α)(K:α→Prop):Prop:=∃x,o=some x∧K x
theorem yG{α:Type}{x:α}{K:α→Prop}:sb (some x) K=K x:=by simp[sb]
def GK(g:Option Bool)(A B:Prop):Prop:=match g with|some true=>A|some false=>B|none=>False
inductive Tg.{u} {α:Sort u} (a:α):Type where
 |mk
def tg.{u}{α:Sort u}(a:α):Tg a:=.mk
def oK{α:Type}{K:α→Prop}(o:Option α)(_:Tg K):Prop:=sb o K
theorem jgb{α:Type}{x:α}{K:α→Prop}:oK (some x) (tg K)=K x:=yG
def gK{A B:Prop}(g:Option Bool)(_:Tg A)(_:Tg B):Prop:=GK g A B
theorem WA{A B:Prop}:gK (some true) (tg A) (tg B)=A:=rfl
theorem Wz{A B:Prop}:gK (some false) (tg A) (tg B)=B:=rfl
def GH(P:Program)(sm:List Nat)(N:Nat)(H:av)(τ:Fr)(f:AV)(xs:List AV)(inl:Bool)(KK:AV→av→Prop):Prop:=
 (∃x,Bv P N H f xs x∧KK x H)∨(inl=true∧∃n fi ca,BT f=some (n,fi,ca)∧(w6 P n (fi++xs++ca) H KK∨(∃ds Q,AV.mB.jr (fi++xs++ca)=some ds∧tq P n ds Q∧∀x,Q x→KK x H)∨QP P sm n (fi++xs++ca) τ H KK))∨
  inl=true∧∃l,f= .d (.val (.func (.yield l) #[] #[]))∧QN P sm l xs τ H KK
def kC{KK:AV→av→Prop}(P:Program)(sm:List Nat)(N:Nat)(H:av)(τ:Fr)(f:AV)(xs:List AV)(inl:Bool)(_:Tg KK):Prop:=GH P sm N H τ f xs inl KK
def cT(P:Program)(KT:TypeId→Bool)(sm:List Nat)(op:Op)(ρ:Operand→AV)(H:av)(KK:AV→av→Prop):Prop:=
 match gx [] op with
 |0=>if sl op then(match op with
   | .call {callee:=.value f,args:=args,..}=>GH P sm H.length H (fun t=>ρ (.tmp t)) (ρ f) (args.toList.map ρ) true KK
   |_=>False)else sb (vj P H.length H KT ρ op) fun x=>KK x H
 |2=>(match op with
  | .store t p y=>sb (iR P t (ρ p) (ρ y) H [] 0) fun H'=>KK (.d (.val undef)) H'
  |_=>False)
 |4=>sb (x4 P KT ρ op H []) fun p=>KK p.1 p.2
 |_=>sb (gS P H.length ρ op H) fun p=>KK p.1 (gF H p.2.2++[p.2.1])
def sT(P:Program)(KT:TypeId→Bool)(sm:List Nat)(ops:List Oper):List Oper→Fr→av→(Fr→av→Prop)→Prop
 |[],τ,H,K=>K τ H
 |o::l,τ,H,K=>GK (lO ops τ o) (cT P KT sm o.op (bu τ) H fun x H'=>sT P KT sm ops l (τ.put o.dst x) H' K) (sT P KT sm ops l (τ.put o.dst (.d (.val undef))) H K)
def cE(P:Program)(KT:TypeId→Bool)(N r:Nat)(fresh:Bool)(m:List (Nat × Nat))(o:Oper)(ρ:Operand→AV)(H:av)(sh:List (Nat × Nat))(KK:AV→av→List (Nat × Nat)→Prop):Prop:=
 match gx [] o.op with
 |0=>if sl o.op then(match o.op with
   | .call {callee:=.value f,args:=args,..}=>GH P [] N H (fun t=>ρ (.tmp t)) (ρ f) (args.toList.map ρ) false fun x _=>KK x H sh
   |_=>False)else sb (vj P N H KT ρ o.op) fun x=>KK x H sh
 |2=>(match o.op with
  | .store t p y=>sb (iR P t (ρ p) (ρ y) H sh (if fresh then N else 0)) fun H'=>KK (.d (.val undef)) H' sh
  |_=>False)
 |4=>sb (x4 P KT ρ o.op H sh) fun p=>KK p.1 p.2 sh
 |_=>sb (jk P N r (vr m o.after.toList) ρ o.op H sh) fun p=>KK p.1 p.2.1 p.2.2
def sE(P:Program)(KT:TypeId→Bool)(ops:List Oper)(N:Nat):Nat→Nat→List (Nat × Nat)→List Oper→Fr→av→List (Nat × Nat)→(Fr→av→List (Nat × Nat)→Prop)→Prop
 |_,_,_,[],τ,H,sh,K=>K τ H sh
 |i,r,m,o::l,τ,H,sh,K=>GK (lO ops τ o)
   (cE P KT N r (vO ops o) m o (bu τ) H sh fun x H' sh'=>sE P KT ops N (i+1) (if bI [] o then r+1 else r) (if bI [] o then(i,r)::m else m) l (τ.put o.dst x) H' sh' K)
   (sE P KT ops N (i+1) (if bI [] o then r+1 else r) (if bI [] o then(i,r)::m else m) l (τ.put o.dst (.d (.val undef))) H sh K)
section
variable {P:Program} {KT:TypeId→Bool} {τ:Fr} {H:av}
theorem IV{α:Type}{o:Option α}{K K':α→Prop}(hK:∀x,K x→K' x)(h:sb o K):sb o K':=by
 obtain⟨x,h1,h2⟩:=h;exact⟨x,h1,hK x h2⟩
theorem jdy{sm:List Nat}{N:Nat}{τ:Fr}{f:AV}{xs:List AV}{inl:Bool}{K K':AV→av→Prop}(hK:∀x H',K x H'→K' x H')(h:GH P sm N H τ f xs inl K):GH P sm N H τ f xs inl K':=by
 rcases h with⟨x,h1,h2⟩|⟨h0,n,fi,ca,h1,h2⟩|⟨h0,l,h1,m,S,T,K0,a1,a2,a3,a4,a5,a6,a7,a8⟩
 case inr.inr=>exact .inr (.inr ⟨h0,l,h1,m,S,T,K0,a1,a2,a3,a4,a5,a6,a7,fun x S' hx=>⟨(a8 x S' hx).1,hK _ _ (a8 x S' hx).2⟩⟩)
 ·exact .inl ⟨x,h1,hK _ _ h2⟩
 ·refine .inr (.inl ⟨h0,n,fi,ca,h1,?_⟩)
  rcases h2 with h2|⟨ds,Q,h2,h3,h4⟩|⟨m,S,T,K0,a1,a2,a3,a4,a5,a6,a7,a8⟩
  ·exact .inl (h2.mono hK)
  ·exact .inr (.inl ⟨ds,Q,h2,h3,fun x hx=>hK _ _ (h4 x hx)⟩)
  ·exact .inr (.inr ⟨m,S,T,K0,a1,a2,a3,a4,a5,a6,a7,fun x S' hx=>⟨(a8 x S' hx).1,hK _ _ (a8 x S' hx).2⟩⟩)
theorem jrn{sm:List Nat}{op:Op}{ρ:Operand→AV}{K K':AV→av→Prop}(hK:∀x H',K x H'→K' x H')(h:cT P KT sm op ρ H K):cT P KT sm op ρ H K':=by
 unfold cT at h ⊢
 split at h
 ·split at h
  ·rename_i hc
   rw[if_pos hc]
   split at h
   ·exact jdy hK h
   ·exact h.elim
  ·rename_i hc
   rw[if_neg hc]
   exact IV (fun x=>hK x H) h
 ·split at h
  ·exact IV (fun x=>hK _ x) h
  ·exact h.elim
 ·exact IV (fun p=>hK p.1 p.2) h
 ·exact IV (fun p=>hK p.1 _) h
theorem jdz{N r:Nat}{fresh:Bool}{m:List (Nat × Nat)}{o:Oper}{sh:List (Nat × Nat)}{K K':AV→av→List (Nat × Nat)→Prop}(hK:∀x H' sh',K x H' sh'→K' x H' sh')(h:xz P [] N r fresh m o τ H sh K):xz P [] N r fresh m o τ H sh K':=by
 unfold xz at h ⊢
 split at h
 ·obtain⟨x,h1,h2⟩:=h;exact⟨x,h1,hK _ _ _ h2⟩
 ·obtain⟨x,h1,h2⟩:=h;exact⟨x,h1,hK _ _ _ h2⟩
 ·obtain⟨x,y,h1,h2⟩:=h;exact⟨x,y,h1,hK _ _ _ h2⟩
 ·obtain⟨a1,a2,a3,x,H',sh',h1,h2⟩:=h;exact⟨a1,a2,a3,x,H',sh',h1,hK _ _ _ h2⟩
end
section
variable {P:Program} {KT:TypeId→Bool} {c:Cx} {τ:Fr} {H:av} {Q:Exit→Fr→av→Prop} {ops:List Oper}
theorem IP{g:Option Bool}{A B:Prop}(h:GK g A B):∃b,g=some b∧(b=true→A)∧(b=false→B):=by
 unfold GK at h
 split at h
 ·exact⟨true,rfl,fun _=>h,fun e=>by cases e⟩
 ·exact⟨false,rfl,(fun e=>by cases e),fun _=>h⟩
 ·exact h.elim
theorem yel{sm:List Nat}(gE:∀k,KT k=true→Maps.Keyed P k){o:Oper}{K:Fr→av→Prop}(h:cT P KT sm o.op (bu τ) H fun x H'=>K (τ.put o.dst x) H'):Kx P [] sm o τ H K:=by
 unfold cT at h
 unfold Kx
 split at h
 ·rename_i hk
  simp only[hk]
  split at h
  ·split at h
   ·rename_i f args ts e
    rw[e]
    rcases h with⟨x,hq,hx⟩|⟨_,n,fi,ca,hc,hq⟩|⟨_,l,hl,hq⟩
    ·exact .inl ⟨x,hq,hx⟩
    ·exact .inr (.inl ⟨n,fi,ca,hc,hq⟩)
    ·exact .inr (.inr ⟨l,hl,hq⟩)
   ·exact h.elim
  ·obtain⟨x,hx,hK⟩:=h
   exact .inl ⟨x,jnw gE hx,hK⟩
 ·rename_i hk
  simp only[hk]
  split at h
  ·rename_i t p y e
   obtain⟨H1,hH,hK⟩:=h
   rw[e]
   exact⟨_,Mk hH,hK⟩
  ·exact h.elim
 ·rename_i hk
  simp only[hk]
  obtain⟨p,hp,hK⟩:=h
  exact⟨p.1,p.2,LG gE hp,hK⟩
 ·rename_i eZ qP A6
  obtain⟨⟨x,ob,dd⟩,hl,hK⟩:=h
  have Hf:=jf7 hl (K:=fun x H'=>K (τ.put o.dst x) H') hK
  rcases jf6 eZ qP A6 with hk|hk
  ·simp only[hk];exact Hf
  ·simp only[hk];exact Hf
theorem KE{sm:List Nat}(gE:∀k,KT k=true→Maps.Keyed P k){K:Fr→av→Prop}:∀{os:List Oper} {τ:Fr} {H:av},sT P KT sm ops os τ H K→Cg P [] sm ops os τ H K
 |[],_,_,h=>h
 |o::os,τ,H,h=>by
  obtain⟨b,hg,ht,hf⟩:=IP h
  refine⟨b,hg,fun e=>yel gE ?_,fun e=>KE gE (hf e)⟩
  have:=ht e
  exact jrn (fun x H' hh=>KE gE hh) this
theorem Zj(gE:∀k,KT k=true→Maps.Keyed P k){N r:Nat}{fresh:Bool}{m:List (Nat × Nat)}{o:Oper}{sh:List (Nat × Nat)}{K:AV→av→List (Nat × Nat)→Prop}(h:cE P KT N r fresh m o (bu τ) H sh K):xz P [] N r fresh m o τ H sh K:=by
 unfold cE at h
 unfold xz
 split at h
 ·rename_i hk
  simp only[hk]
  split at h
  ·split at h
   ·rename_i f args ts e
    rw[e]
    rcases h with⟨x,hq,hx⟩|⟨e,_⟩|⟨e,_⟩
    ·exact⟨x,hq,hx⟩
    ·cases e
    ·cases e
   ·exact h.elim
  ·obtain⟨x,hx,hK⟩:=h
   exact⟨x,jnw gE hx,hK⟩
 ·rename_i hk
  simp only[hk]
  split at h
  ·rename_i t p y e
   obtain⟨H1,hH,hK⟩:=h
   rw[e]
   exact⟨_,Mk hH,hK⟩
  ·exact h.elim
 ·rename_i hk
  simp only[hk]
  obtain⟨p,hp,hK⟩:=h
  exact⟨p.1,p.2,LG gE hp,hK⟩
 ·rename_i eZ qP A6
  obtain⟨⟨x,H',sh'⟩,hl,hK⟩:=h
  have:=jrm hl hK
  rcases jf6 eZ qP A6 with hk|hk
  ·simp only[hk];exact this
  ·simp only[hk];exact this
theorem KC(gE:∀k,KT k=true→Maps.Keyed P k){N:Nat}{K:Fr→av→List (Nat × Nat)→Prop}:∀{os:List Oper} {i r:Nat} {m:List (Nat × Nat)} {τ:Fr} {H:av} {sh:List (Nat × Nat)},sE P KT ops N i r m os τ H sh K→DH P [] ops N i r m os τ H sh K
 |[],_,_,_,_,_,_,h=>h
 |o::os,i,r,m,τ,H,sh,h=>by
  obtain⟨b,hg,ht,hf⟩:=IP h
  exact⟨b,hg,fun e=>jdz (fun x H' sh' hh=>KC gE hh) (Zj gE (ht e)),fun e=>KC gE (hf e)⟩
theorem aZ{sm:List Nat}(fK:Kp c sm)(gE:∀k,KT k=true→Maps.Keyed P k){id:Nat}{l:List Oper}{y:Code}{n:Nat}(hn:c.nt=n)(hd:pU n l=true)(h:∀K:Fr→av→Prop,(∀τ H,ei P c y Q τ H→K τ H)→sT P KT sm l l τ H K):ei P c (.seq (.region id l.toArray false) y) Q τ H:=
 jft (fr:=[]) fK hn hd fun K hK=>KE gE (h K hK)
theorem bT{sm:List Nat}(fK:Kp c sm)(gE:∀k,KT k=true→Maps.Keyed P k){id:Nat}{l:List Oper}{n:Nat}(hn:c.nt=n)(hd:pU n l=true)(h:∀K:Fr→av→Prop,(∀τ H,Q .normal τ H→K τ H)→sT P KT sm l l τ H K):ei P c (.region id l.toArray false) Q τ H:=
 yeb (fr:=[]) fK hn hd fun K hK=>KE gE (h K hK)
theorem dO(gE:∀k,KT k=true→Maps.Keyed P k){id:Nat}{l:List Oper}{y:Code}{n:Nat}(hn:c.nt=n)(hm:P.follows .mixedOrders=true)(hd:pU n l=true){q:Nat}(hq:l.countP (bI [])=q)(hB:yY [] l l.length 0 (Array.replicate l.length false)=true)
  (h:∀K:Fr→av→Prop,(∀τ H,ei P c y Q τ H→K τ H)→sE P KT l H.length 0 0 [] l τ (H++List.replicate q .free) [] fun τ' H' sh'=>K τ' (dK sh' H')):ei P c (.seq (.region id l.toArray true) y) Q τ H:=
 jfw (fr:=[]) hn hm hd hq hB fun K hK=>KC gE (h K hK)
theorem z8(gE:∀k,KT k=true→Maps.Keyed P k){id:Nat}{l:List Oper}{n:Nat}(hn:c.nt=n)(hm:P.follows .mixedOrders=true)(hd:pU n l=true){q:Nat}(hq:l.countP (bI [])=q)(hB:yY [] l l.length 0 (Array.replicate l.length false)=true)
  (h:∀K:Fr→av→Prop,(∀τ H,Q .normal τ H→K τ H)→sE P KT l H.length 0 0 [] l τ (H++List.replicate q .free) [] fun τ' H' sh'=>K τ' (dK sh' H')):ei P c (.region id l.toArray true) Q τ H:=
 yee (fr:=[]) hn hm hd hq hB fun K hK=>KC gE (h K hK)
end
section
variable {P:Program} {KT:TypeId→Bool} {sm:List Nat} {ops l:List Oper} {τ:Fr} {H:av} {sh:List (Nat × Nat)} {N i r:Nat} {m:List (Nat × Nat)} {d:Option Tmp} {op:Op} {ty:TypeId} {pos:String} {af:Array Edge} {K:Fr→av→Prop} {KD:Fr→av→List (Nat × Nat)→Prop}
theorem jn0:sT P KT sm ops [] τ H K=K τ H:=rfl
theorem jn1:sE P KT ops N i r m [] τ H sh KD=KD τ H sh:=rfl
theorem Wy{j:Nat}{want:Bool}:sT P KT sm ops (⟨d,op,ty,pos,af,some (j,want)⟩::l) τ H K=gK (lO ops τ ⟨d,op,ty,pos,af,some (j,want)⟩) (tg (sT P KT sm ops (⟨d,op,ty,pos,af,none⟩::l) τ H K)) (tg (sT P KT sm ops l (τ.put d (.d (.val undef))) H K)):=rfl
theorem jgd{y:Operand}:sT P KT sm ops (⟨d,.move y,ty,pos,af,none⟩::l) τ H K=(sT P KT sm ops l (τ.put d (bu τ y)) H K):=by simp[sT,sE,lO,GK,cT,cE,gx,sl,vj,yG,bI]
theorem jge{y:Operand}:sE P KT ops N i r m (⟨d,.move y,ty,pos,af,none⟩::l) τ H sh KD=(sE P KT ops N (i+1) r m l (τ.put d (bu τ y)) H sh KD):=by simp[sT,sE,lO,GK,cT,cE,gx,sl,vj,yG,bI]
theorem RE{y:Operand}:sT P KT sm ops (⟨d,.assign y,ty,pos,af,none⟩::l) τ H K=(sT P KT sm ops l (τ.put d (bu τ y)) H K):=by simp[sT,sE,lO,GK,cT,cE,gx,sl,vj,yG,bI]
theorem RD{y:Operand}:sE P KT ops N i r m (⟨d,.assign y,ty,pos,af,none⟩::l) τ H sh KD=(sE P KT ops N (i+1) r m l (τ.put d (bu τ y)) H sh KD):=by simp[sT,sE,lO,GK,cT,cE,gx,sl,vj,yG,bI]
theorem jgf{c a b:Operand}:sT P KT sm ops (⟨d,.pick c a b,ty,pos,af,none⟩::l) τ H K=(oK (match bu τ c with| .d (.val (.bool t))=>some (if t then bu τ a else bu τ b)|_=>none)<|tg fun x=>sT P KT sm ops l (τ.put d x) H K):=rfl
theorem jgg{c a b:Operand}:sE P KT ops N i r m (⟨d,.pick c a b,ty,pos,af,none⟩::l) τ H sh KD=(oK (match bu τ c with| .d (.val (.bool t))=>some (if t then bu τ a else bu τ b)|_=>none)<|tg fun x=>sE P KT ops N (i+1) r m l (τ.put d x) H sh KD):=rfl
theorem jgh{t:TypeId}{y:Operand}:sT P KT sm ops (⟨d,.load t y,ty,pos,af,none⟩::l) τ H K=(oK (fS P H.length H t (bu τ y))<|tg fun x=>sT P KT sm ops l (τ.put d x) H K):=rfl
theorem jgi{t:TypeId}{y:Operand}:sE P KT ops N i r m (⟨d,.load t y,ty,pos,af,none⟩::l) τ H sh KD=(oK (fS P N H t (bu τ y))<|tg fun x=>sE P KT ops N (i+1) r m l (τ.put d x) H sh KD):=rfl
theorem Zi{t:TypeId}{y:Operand}{f:Nat}:sT P KT sm ops (⟨d,.fieldAddr t y f,ty,pos,af,none⟩::l) τ H K=(oK (eh P t f (bu τ y))<|tg fun x=>sT P KT sm ops l (τ.put d x) H K):=rfl
theorem Zh{t:TypeId}{y:Operand}{f:Nat}:sE P KT ops N i r m (⟨d,.fieldAddr t y f,ty,pos,af,none⟩::l) τ H sh KD=(oK (eh P t f (bu τ y))<|tg fun x=>sE P KT ops N (i+1) r m l (τ.put d x) H sh KD):=rfl
theorem jad{t:TypeId}{y:Operand}{f:Nat}:sT P KT sm ops (⟨d,.field t y f,ty,pos,af,none⟩::l) τ H K=(oK (lF P t f (bu τ y))<|tg fun x=>sT P KT sm ops l (τ.put d x) H K):=rfl
theorem Y1{t:TypeId}{y z:Operand}:sT P KT sm ops (⟨d,.indexAddr t y z,ty,pos,af,none⟩::l) τ H K=(oK (ee P t (bu τ y) (bu τ z))<|tg fun x=>sT P KT sm ops l (τ.put d x) H K):=rfl
theorem Y0{t:TypeId}{y z:Operand}:sE P KT ops N i r m (⟨d,.indexAddr t y z,ty,pos,af,none⟩::l) τ H sh KD=(oK (ee P t (bu τ y) (bu τ z))<|tg fun x=>sE P KT ops N (i+1) r m l (τ.put d x) H sh KD):=rfl
theorem jae{t:TypeId}{y z:Operand}:sT P KT sm ops (⟨d,.index t y z,ty,pos,af,none⟩::l) τ H K=(oK (lx P t (bu τ y) (bu τ z))<|tg fun x=>sT P KT sm ops l (τ.put d x) H K):=rfl
theorem jaf{t:TypeId}{y:Operand}{lo hi:Option Operand}:sE P KT ops N i r m (⟨d,.slice t y lo hi none,ty,pos,af,none⟩::l) τ H sh KD=(oK (lr P N H t (bu τ y) (lo.map (bu τ)) (hi.map (bu τ)))<|tg fun x=>sE P KT ops N (i+1) r m l (τ.put d x) H sh KD):=rfl
theorem jn2{op:BinOp}{t t':TypeId}{y z:Operand}:sT P KT sm ops (⟨d,.binOp op t y z t',ty,pos,af,none⟩::l) τ H K=(oK (s9 P op t (bu τ y) (bu τ z))<|tg fun x=>sT P KT sm ops l (τ.put d x) H K):=rfl
theorem jn3{op:BinOp}{t t':TypeId}{y z:Operand}:sE P KT ops N i r m (⟨d,.binOp op t y z t',ty,pos,af,none⟩::l) τ H sh KD=(oK (s9 P op t (bu τ y) (bu τ z))<|tg fun x=>sE P KT ops N (i+1) r m l (τ.put d x) H sh KD):=rfl
theorem YZ{op:UnOp}{t:TypeId}{y:Operand}:sT P KT sm ops (⟨d,.unOp op t y,ty,pos,af,none⟩::l) τ H K=(oK (FM op (bu τ y))<|tg fun x=>sT P KT sm ops l (τ.put d x) H K):=rfl
theorem YY{op:UnOp}{t:TypeId}{y:Operand}:sE P KT ops N i r m (⟨d,.unOp op t y,ty,pos,af,none⟩::l) τ H sh KD=(oK (FM op (bu τ y))<|tg fun x=>sE P KT ops N (i+1) r m l (τ.put d x) H sh KD):=rfl
theorem jgj{s t:TypeId}{y:Operand}:sT P KT sm ops (⟨d,.convert s t y,ty,pos,af,none⟩::l) τ H K=(oK (oR P s t (bu τ y))<|tg fun x=>sT P KT sm ops l (τ.put d x) H K):=rfl
theorem jag{t:TypeId}{ps:Array (Nat × Operand)}:sT P KT sm ops (⟨d,.build t ps,ty,pos,af,none⟩::l) τ H K=(oK (jH P t (ps.toList.map fun p=>(p.1,bu τ p.2)))<|tg fun x=>sT P KT sm ops l (τ.put d x) H K):=rfl
theorem jah{t:TypeId}{ps:Array (Nat × Operand)}:sE P KT ops N i r m (⟨d,.build t ps,ty,pos,af,none⟩::l) τ H sh KD=(oK (jH P t (ps.toList.map fun p=>(p.1,bu τ p.2)))<|tg fun x=>sE P KT ops N (i+1) r m l (τ.put d x) H sh KD):=rfl
theorem SA{y:Operand}{ix:Nat}:sT P KT sm ops (⟨d,.extract y ix,ty,pos,af,none⟩::l) τ H K=(oK (match bu τ y with| .dR vs=>vs[ix]? |_=>none)<|tg fun x=>sT P KT sm ops l (τ.put d x) H K):=rfl
theorem Sz{y:Operand}{ix:Nat}:sE P KT ops N i r m (⟨d,.extract y ix,ty,pos,af,none⟩::l) τ H sh KD=(oK (match bu τ y with| .dR vs=>vs[ix]? |_=>none)<|tg fun x=>sE P KT ops N (i+1) r m l (τ.put d x) H sh KD):=rfl
theorem jgk{y:Operand}:sT P KT sm ops (⟨d,.nilCheck y,ty,pos,af,none⟩::l) τ H K=(oK (if ng (bu τ y)then some (bu τ y)else none)<|tg fun x=>sT P KT sm ops l (τ.put d x) H K):=rfl
theorem jgl{y:Operand}:sE P KT ops N i r m (⟨d,.nilCheck y,ty,pos,af,none⟩::l) τ H sh KD=(oK (if ng (bu τ y)then some (bu τ y)else none)<|tg fun x=>sE P KT ops N (i+1) r m l (τ.put d x) H sh KD):=rfl
theorem RC{t:TypeId}{y z:Operand}{ok:Bool}:sT P KT sm ops (⟨d,.lookup t y z ok,ty,pos,af,none⟩::l) τ H K=(oK (yC P H.length H KT t (bu τ y) (bu τ z) ok)<|tg fun x=>sT P KT sm ops l (τ.put d x) H K):=rfl
theorem RB{t:TypeId}{y z:Operand}{ok:Bool}:sE P KT ops N i r m (⟨d,.lookup t y z ok,ty,pos,af,none⟩::l) τ H sh KD=(oK (yC P N H KT t (bu τ y) (bu τ z) ok)<|tg fun x=>sE P KT ops N (i+1) r m l (τ.put d x) H sh KD):=rfl
theorem YX{fn:Fn}{fi ca:Array Operand}:sT P KT sm ops (⟨d,.makeFunc fn fi ca,ty,pos,af,none⟩::l) τ H K=(sT P KT sm ops l (τ.put d (.dC fn (fi.toList.map (bu τ)) (ca.toList.map (bu τ)))) H K):=by simp[sT,sE,lO,GK,cT,cE,gx,sl,vj,yG,bI]
theorem jn4{args:Array Operand}{ts:Array TypeId}:sT P KT sm ops (⟨d,.call ⟨.builtin .len,args,ts⟩,ty,pos,af,none⟩::l) τ H K=(oK (dF P .len ts.toList (args.toList.map (bu τ)))<|tg fun x=>sT P KT sm ops l (τ.put d x) H K):=rfl
theorem jn5{args:Array Operand}{ts:Array TypeId}:sE P KT ops N i r m (⟨d,.call ⟨.builtin .len,args,ts⟩,ty,pos,af,none⟩::l) τ H sh KD=(oK (dF P .len ts.toList (args.toList.map (bu τ)))<|tg fun x=>sE P KT ops N (i+1) r m l (τ.put d x) H sh KD):=rfl
theorem jn6{args:Array Operand}{ts:Array TypeId}:sT P KT sm ops (⟨d,.call ⟨.builtin .max,args,ts⟩,ty,pos,af,none⟩::l) τ H K=(oK (dF P .max ts.toList (args.toList.map (bu τ)))<|tg fun x=>sT P KT sm ops l (τ.put d x) H K):=rfl
theorem jn7{args:Array Operand}{ts:Array TypeId}:sE P KT ops N i r m (⟨d,.call ⟨.builtin .max,args,ts⟩,ty,pos,af,none⟩::l) τ H sh KD=(oK (dF P .max ts.toList (args.toList.map (bu τ)))<|tg fun x=>sE P KT ops N (i+1) r m l (τ.put d x) H sh KD):=rfl
theorem jn8{args:Array Operand}{ts:Array TypeId}:sT P KT sm ops (⟨d,.call ⟨.builtin .min,args,ts⟩,ty,pos,af,none⟩::l) τ H K=(oK (dF P .min ts.toList (args.toList.map (bu τ)))<|tg fun x=>sT P KT sm ops l (τ.put d x) H K):=rfl
theorem jn9{args:Array Operand}{ts:Array TypeId}:sE P KT ops N i r m (⟨d,.call ⟨.builtin .min,args,ts⟩,ty,pos,af,none⟩::l) τ H sh KD=(oK (dF P .min ts.toList (args.toList.map (bu τ)))<|tg fun x=>sE P KT ops N (i+1) r m l (τ.put d x) H sh KD):=rfl
theorem jai{f:FuncId}{args:Array Operand}{ts:Array TypeId}:sT P KT sm ops (⟨d,.call ⟨.value (.func f),args,ts⟩,ty,pos,af,none⟩::l) τ H K=(kC P sm H.length H τ ((bu τ (.func f))) (args.toList.map (bu τ)) true<|tg fun x H'=>sT P KT sm ops l (τ.put d x) H' K):=rfl
theorem jaj{f:FuncId}{args:Array Operand}{ts:Array TypeId}:sE P KT ops N i r m (⟨d,.call ⟨.value (.func f),args,ts⟩,ty,pos,af,none⟩::l) τ H sh KD=(kC P [] N H τ ((bu τ (.func f))) (args.toList.map (bu τ)) false<|tg fun x _=>sE P KT ops N (i+1) r m l (τ.put d x) H sh KD):=rfl
theorem jak{f:Nat}{args:Array Operand}{ts:Array TypeId}:sT P KT sm ops (⟨d,.call ⟨.value (.tmp f),args,ts⟩,ty,pos,af,none⟩::l) τ H K=(kC P sm H.length H τ ((bu τ (.tmp f))) (args.toList.map (bu τ)) true<|tg fun x H'=>sT P KT sm ops l (τ.put d x) H' K):=rfl
theorem joa{t:TypeId}{y:Operand}:sT P KT sm ops (⟨d,.box t y,ty,pos,af,none⟩::l) τ H K=(oK (gS P H.length (bu τ) (.box t y) H)<|tg fun p=>sT P KT sm ops l (τ.put d p.1) (gF H p.2.2++[p.2.1]) K):=rfl
theorem jal{t:TypeId}:sT P KT sm ops (⟨d,.alloc t,ty,pos,af,none⟩::l) τ H K=(oK (gS P H.length (bu τ) (.alloc t) H)<|tg fun p=>sT P KT sm ops l (τ.put d p.1) (gF H p.2.2++[p.2.1]) K):=rfl
theorem jam{t:TypeId}:sE P KT ops N i r m (⟨d,.alloc t,ty,pos,af,none⟩::l) τ H sh KD=(oK (jk P N r (vr m af.toList) (bu τ) (.alloc t) H sh)<|tg fun p=>sE P KT ops N (i+1) (r+1) ((i,r)::m) l (τ.put d p.1) p.2.1 p.2.2 KD):=rfl
theorem jgm{t:TypeId}{y z:Operand}:sT P KT sm ops (⟨d,.makeSlice t y z,ty,pos,af,none⟩::l) τ H K=(oK (gS P H.length (bu τ) (.makeSlice t y z) H)<|tg fun p=>sT P KT sm ops l (τ.put d p.1) (gF H p.2.2++[p.2.1]) K):=rfl
theorem jgn{t:TypeId}{y z:Operand}:sE P KT ops N i r m (⟨d,.makeSlice t y z,ty,pos,af,none⟩::l) τ H sh KD=(oK (jk P N r (vr m af.toList) (bu τ) (.makeSlice t y z) H sh)<|tg fun p=>sE P KT ops N (i+1) (r+1) ((i,r)::m) l (τ.put d p.1) p.2.1 p.2.2 KD):=rfl
theorem YW{t:TypeId}{n:Nat}{ps:Array (Nat × Operand)}:sT P KT sm ops (⟨d,.buildSlice t n ps,ty,pos,af,none⟩::l) τ H K=(oK (gS P H.length (bu τ) (.buildSlice t n ps) H)<|tg fun p=>sT P KT sm ops l (τ.put d p.1) (gF H p.2.2++[p.2.1]) K):=rfl
theorem YV{t:TypeId}{n:Nat}{ps:Array (Nat × Operand)}:sE P KT ops N i r m (⟨d,.buildSlice t n ps,ty,pos,af,none⟩::l) τ H sh KD=(oK (jk P N r (vr m af.toList) (bu τ) (.buildSlice t n ps) H sh)<|tg fun p=>sE P KT ops N (i+1) (r+1) ((i,r)::m) l (τ.put d p.1) p.2.1 p.2.2 KD):=rfl
theorem job{args:Array Operand}{ts:Array TypeId}:sT P KT sm ops (⟨d,.call ⟨.builtin .append,args,ts⟩,ty,pos,af,none⟩::l) τ H K=(oK (gS P H.length (bu τ) (.call ⟨.builtin .append,args,ts⟩) H)<|tg fun p=>sT P KT sm ops l (τ.put d p.1) (gF H p.2.2++[p.2.1]) K):=rfl
theorem joc{args:Array Operand}{ts:Array TypeId}:sE P KT ops N i r m (⟨d,.call ⟨.builtin .append,args,ts⟩,ty,pos,af,none⟩::l) τ H sh KD=(oK (jk P N r (vr m af.toList) (bu τ) (.call ⟨.builtin .append,args,ts⟩) H sh)<|tg fun p=>sE P KT ops N (i+1) (r+1) ((i,r)::m) l (τ.put d p.1) p.2.1 p.2.2 KD):=rfl
theorem YU{t:TypeId}{y:Option Operand}:sT P KT sm ops (⟨d,.makeMap t y,ty,pos,af,none⟩::l) τ H K=(oK (gS P H.length (bu τ) (.makeMap t y) H)<|tg fun p=>sT P KT sm ops l (τ.put d p.1) (gF H p.2.2++[p.2.1]) K):=rfl
theorem jan{t:TypeId}{y z:Operand}:sT P KT sm ops (⟨d,.store t y z,ty,pos,af,none⟩::l) τ H K=(oK (iR P t (bu τ y) (bu τ z) H [] 0)<|tg fun H'=>sT P KT sm ops l (τ.put d (.d (.val undef))) H' K):=rfl
theorem jao{t:TypeId}{y z:Operand}:sE P KT ops N i r m (⟨d,.store t y z,ty,pos,af,none⟩::l) τ H sh KD=(oK (iR P t (bu τ y) (bu τ z) H sh (if vO ops ⟨d,.store t y z,ty,pos,af,none⟩then N else 0))<|tg fun H'=>sE P KT ops N (i+1) r m l (τ.put d (.d (.val undef))) H' sh KD):=rfl
theorem jod{t:TypeId}{y z u:Operand}:sT P KT sm ops (⟨d,.insert t y z u,ty,pos,af,none⟩::l) τ H K=(oK (x4 P KT (bu τ) (.insert t y z u) H [])<|tg fun p=>sT P KT sm ops l (τ.put d p.1) p.2 K):=rfl
theorem yjo{j:Nat}{want:Bool}(hl:bI [] ⟨d,op,ty,pos,af,none⟩=false):sE P KT ops N i r m (⟨d,op,ty,pos,af,some (j,want)⟩::l) τ H sh KD=gK (lO ops τ ⟨d,op,ty,pos,af,some (j,want)⟩) (tg (sE P KT ops N i r m (⟨d,op,ty,pos,af,none⟩::l) τ H sh KD)) (tg (sE P KT ops N (i+1) r m l (τ.put d (.d (.val undef))) H sh KD)):=by
 have h1:bI [] ⟨d,op,ty,pos,af,some (j,want)⟩=false:=hl
 have h2:vO ops ⟨d,op,ty,pos,af,some (j,want)⟩=vO ops ⟨d,op,ty,pos,af,none⟩:=rfl
 show _=GK _ _ _
 simp only[sE,h1,hl,h2,Bool.false_eq_true,if_false];rfl
theorem yem{j:Nat}{want:Bool}(hl:bI [] ⟨d,op,ty,pos,af,none⟩=true):sE P KT ops N i r m (⟨d,op,ty,pos,af,some (j,want)⟩::l) τ H sh KD=gK (lO ops τ ⟨d,op,ty,pos,af,some (j,want)⟩) (tg (sE P KT ops N i r m (⟨d,op,ty,pos,af,none⟩::l) τ H sh KD)) (tg (sE P KT ops N (i+1) (r+1) ((i,r)::m) l (τ.put d (.d (.val undef))) H sh KD)):=by
 have h1:bI [] ⟨d,op,ty,pos,af,some (j,want)⟩=true:=hl
 have h2:vO ops ⟨d,op,ty,pos,af,some (j,want)⟩=vO ops ⟨d,op,ty,pos,af,none⟩:=rfl
 show _=GK _ _ _
 simp only[sE,h1,hl,h2,if_true];rfl
theorem YT{j:Nat}{want:Bool}:sE P KT ops N i r m (⟨d,op,ty,pos,af,some (j,want)⟩::l) τ H sh KD=gK (lO ops τ ⟨d,op,ty,pos,af,some (j,want)⟩) (tg (sE P KT ops N i r m (⟨d,op,ty,pos,af,none⟩::l) τ H sh KD)) (tg (sE P KT ops N (i+1) (if bI [] ⟨d,op,ty,pos,af,none⟩then r+1 else r) (if bI [] ⟨d,op,ty,pos,af,none⟩then(i,r)::m else m) l (τ.put d (.d (.val undef))) H sh KD)):=by
 cases hl:bI [] ⟨d,op,ty,pos,af,none⟩with
 |false=>rw[yjo hl];rfl
 |true=>rw[yem hl];rfl
theorem bx{f:FuncId}{args:List AV}{ds:List D}{x:AV}{inl:Bool}{KK:AV→av→Prop}(hp:dq P f ds x)(hd:AV.mB.jr args=some ds)(hK:KK x H):kC P sm N H τ (.d (.val (.func (.func f) #[] #[]))) args inl (tg KK):=.inl (jf1 hp hd hK)
theorem BB{f:FuncId}{args:List AV}{ds:List D}{v:Value}{inl:Bool}{KK:AV→av→Prop}(hp:dq P f ds (.d (.val v)))(hd:kx (l6 H N) 9 args=some ds)(hK:KK (.d (.val v)) H):kC P sm N H τ (.d (.val (.func (.func f) #[] #[]))) args inl (tg KK):=.inl (jky (KA:=fun x=>KK x H) hp hd hK)
theorem jwj{f:FuncId}{args:List AV}{ds:List D}{x:AV}{inl:Bool}{KK:AV→av→Prop}(hp:Dc P f ds x)(hd:kx (l6 H N) 9 args=some ds)(hK:KK x H):kC P sm N H τ (.d (.val (.func (.func f) #[] #[]))) args inl (tg KK):=.inl (jkz (KA:=fun x=>KK x H) hp hd hK)
theorem joe{f:FuncId}{args:List AV}{ds:List D}{Q:AV→Prop}{KK:AV→av→Prop}(hp:tq P f ds Q)(hd:AV.mB.jr args=some ds)(hK:∀x,Q x→KK x H):kC P sm N H τ (.d (.val (.func (.func f) #[] #[]))) args true (tg KK):=
 .inr (.inl ⟨rfl,f,[],[],rfl,.inr (.inl ⟨ds,Q,by simpa using hd,hp,hK⟩)⟩)
theorem yen{f:FuncId}{args:List AV}{KK:AV→av→Prop}(h:w6 P f args H KK):kC P sm N H τ (.d (.val (.func (.func f) #[] #[]))) args true (tg KK):=
 .inr (.inl ⟨rfl,f,[],[],rfl,.inl (by simpa using h)⟩)
theorem jgo{f:FuncId}{fi ca:List D}{args:List AV}{ds:List D}{x:AV}{inl:Bool}{KK:AV→av→Prop}(hp:dq P f (fi++ds++ca) x)(hd:AV.mB.jr (fi.map .d++args++ca.map .d)=some (fi++ds++ca))(hK:KK x H):kC P sm N H τ (.d (.dC (.func f) fi ca)) args inl (tg KK):=
 .inl ⟨x,⟨f,fi.map .d,ca.map .d,fi++ds++ca,rfl,.inl ⟨.inl hd,hp⟩⟩,hK⟩
theorem jof{f:FuncId}{args:List AV}{K0 KK:AV→av→Prop}(h:w6 P f args H K0)(hK:∀x H',K0 x H'→KK x H'):kC P sm N H τ (.d (.val (.func (.func f) #[] #[]))) args true (tg KK):=yen (h.mono hK)
theorem rH{f:FuncId}{args:List AV}{S T:av}{K0 KK:AV→av→Prop}{ks:List Nat}(h:cY P ks f args S K0)(hH:H=S++T)(hm:sm.all (aL ks S.length)=true)(hτ:∀t,(τ t).allI (aL ks S.length)=true)(ha:AV.aj (aO S.length) args=true)
  (hS:∀o∈S,o.allI (aO S.length)=true) (hT:∀o∈T,o.allI (aL ks S.length)=true) (hK:∀x S',K0 x S'→S'.length=S.length∧KK x (S'++T)):kC P sm N H τ (.d (.val (.func (.func f) #[] #[]))) args true (tg KK):=
 .inr (.inl ⟨rfl,f,[],[],rfl,.inr (.inr ⟨ks,S,T,K0,hH,hm,hτ,by simpa using ha,hS,hT,by simpa using h,hK⟩)⟩)
theorem BA{f:FuncId}{fi ca args:List AV}{S T:av}{K0 KK:AV→av→Prop}{ks:List Nat}(h:cY P ks f (fi++args++ca) S K0)(hH:H=S++T)(hm:sm.all (aL ks S.length)=true)(hτ:∀t,(τ t).allI (aL ks S.length)=true)(ha:AV.aj (aO S.length) (fi++args++ca)=true)
  (hS:∀o∈S,o.allI (aO S.length)=true) (hT:∀o∈T,o.allI (aL ks S.length)=true) (hK:∀x S',K0 x S'→S'.length=S.length∧KK x (S'++T)):kC P sm N H τ (.dC (.func f) fi ca) args true (tg KK):=
 .inr (.inl ⟨rfl,f,fi,ca,rfl,.inr (.inr ⟨ks,S,T,K0,hH,hm,hτ,ha,hS,hT,h,hK⟩)⟩)
theorem fL{p:Nat→Bool}{l:List (Nat × AV)}(h:AV.aj p (l.map (·.2))=true)(t:Nat):(aF l t).allI p=true:=by
 induction l with
 |nil=>rfl
 |cons a l ih=>
  obtain⟨d,x⟩:=a
  rw[List.map_cons,AV.aj,fY]at h
  rw[Dh]
  split
  ·exact h.1
  ·exact ih h.2
end
end
section
section
variable {P:Program} {t:TypeId} {a b:Int} {kk:IntKind}
theorem ifp{α:Type}{c:Prop}[Decidable c]{x y:α}(h:c):(if c then x else y)=x:=if_pos h
theorem ifn{α:Type}{c:Prop}[Decidable c]{x y:α}(h:¬c):(if c then x else y)=y:=if_neg h
theorem jog{op:BinOp}{u v:Value}:s9 P op t (.d (.val u)) (.d (.val v))=(iO P op t u v).map fun r=>.d (.val r):=rfl
def OY:Option Value→Option Value→Option Bool→Option Bool
 |some (.int k x),some (.int k' y),r=>if k=k' then r.map fun r=>(x==y)&&r else none
 |_,_,_=>none
theorem jgq{a b:List Value}:u6 a b []=some true:=rfl
def yjp:Option Value→Option Value→Option Bool→Option Bool
 |some (.bool x),some (.bool y),r=>r.map fun r=>(x==y)&&r
 |_,_,_=>none
theorem jap{x y:Bool}{r:Option Bool}:yjp (some (.bool x)) (some (.bool y)) r=r.map fun r=>(x==y)&&r:=rfl
theorem jaq{a b:List Value}{o:Nat}{os:List (Nat × Bool)}:u6 a b ((o,false)::os)=OY a[o]? b[o]? (u6 a b os):=by
 rw[u6]
 generalize a[o]? =x
 generalize b[o]? =y
 cases x with
 |none=>cases y<;>rfl
 |some u=>
  cases y with
  |none=>cases u<;>rfl
  |some v=>cases u<;>cases v<;>rfl
theorem jgr{k:IntKind}{x y:Int}{r:Option Bool}:OY (some (.int k x)) (some (.int k y)) r=r.map fun r=>(x==y)&&r:=by simp[OY]
def yf(P:Program)(t:TypeId)(a b:Option (List Value)):Option Bool:=(DL P t).bind fun os=>a.bind fun a=>b.bind fun b=>u6 a b os
theorem YS{l m:List AV}:s9 P .eql t (.agg l) (.agg m)=(yf P t (ky l) (ky m)).map fun b=>.d (.val (.bool b)):=rfl
theorem YR{l:List D}{m:List AV}:s9 P .eql t (.d (.agg l)) (.agg m)=(yf P t (ky (l.map .d)) (ky m)).map fun b=>.d (.val (.bool b)):=rfl
theorem YQ{l:List AV}{m:List D}:s9 P .eql t (.agg l) (.d (.agg m))=(yf P t (ky l) (ky (m.map .d))).map fun b=>.d (.val (.bool b)):=rfl
theorem YP{l m:List D}:s9 P .eql t (.d (.agg l)) (.d (.agg m))=(yf P t (ky (l.map .d)) (ky (m.map .d))).map fun b=>.d (.val (.bool b)):=rfl
theorem YO{l m:List AV}:s9 P .neq t (.agg l) (.agg m)=((yf P t (ky l) (ky m)).map (!·)).map fun b=>.d (.val (.bool b)):=rfl
theorem YN{l:List D}{m:List AV}:s9 P .neq t (.d (.agg l)) (.agg m)=((yf P t (ky (l.map .d)) (ky m)).map (!·)).map fun b=>.d (.val (.bool b)):=rfl
theorem YM{l:List AV}{m:List D}:s9 P .neq t (.agg l) (.d (.agg m))=((yf P t (ky l) (ky (m.map .d))).map (!·)).map fun b=>.d (.val (.bool b)):=rfl
theorem YL{l m:List D}:s9 P .neq t (.d (.agg l)) (.d (.agg m))=((yf P t (ky (l.map .d)) (ky (m.map .d))).map (!·)).map fun b=>.d (.val (.bool b)):=rfl
theorem z7{os:List (Nat × Bool)}{a b:List Value}(h:DL P t=some os):yf P t (some a) (some b)=u6 a b os:=by unfold yf;rw[h];rfl
theorem YK(h1: -9223372036854775808≤a+b)(h2:a+b<9223372036854775808):iO P .add t (.int .i64 a) (.int .i64 b)=some (.int .i64 (a+b)):=by simp[iO,qp,Ge h1 h2]
theorem YJ(h1: -9223372036854775808≤a - b)(h2:a - b<9223372036854775808):iO P .sub t (.int .i64 a) (.int .i64 b)=some (.int .i64 (a - b)):=by simp[iO,qp,Ge h1 h2]
theorem YI(h1: -9223372036854775808≤a*b)(h2:a*b<9223372036854775808):iO P .mul t (.int .i64 a) (.int .i64 b)=some (.int .i64 (a*b)):=by simp[iO,qp,Ge h1 h2]
theorem YH(h1:0≤a)(h2:0<b)(h3:a<9223372036854775808):iO P .quo t (.int .i64 a) (.int .i64 b)=some (.int .i64 (a / b)):=by
 have:=yec (P:=P) (t:=t) (KV:=fun r=>r= .int .i64 (a / b)) h1 h2 h3
 obtain⟨r,hr,e⟩:=this.mpr rfl
 rw[hr,e]
theorem YG(h1:0≤a)(h2:0<b):iO P .rem t (.int kk a) (.int kk b)=some (.int kk (a % b)):=by
 obtain⟨r,hr,e⟩:=(yed (P:=P) (t:=t) (kk:=kk) (KV:=fun r=>r= .int kk (a % b)) h1 h2).mpr rfl
 rw[hr,e]
theorem YF:iO P .eql t (.int kk a) (.int kk b)=some (.bool (a==b)):=by simp[iO,qp,Ch]
theorem YE:iO P .neq t (.int kk a) (.int kk b)=some (.bool (a !=b)):=by simp[iO,qp,Ch]
theorem YD:iO P .lss t (.int kk a) (.int kk b)=some (.bool (decide (a<b))):=by simp[iO,qp,Ch]
theorem Zb:iO P .leq t (.int kk a) (.int kk b)=some (.bool (decide (a≤b))):=by simp[iO,qp,Ch]
theorem Za:iO P .gtr t (.int kk a) (.int kk b)=some (.bool (decide (b<a))):=by simp[iO,qp,Ch]
theorem Y9:iO P .geq t (.int kk a) (.int kk b)=some (.bool (decide (b≤a))):=by simp[iO,qp,Ch]
theorem joh{a b:Bool}:iO P .neq t (.bool a) (.bool b)=if Dj P t=true then some (.bool (a !=b))else none:=rfl
theorem Y8(h:0≤b):iO P .shl t (.int .i64 a) (.int kk b)=some (.int .i64 (IntKind.i64.wrap (a*2^min b.toNat 64))):=by simp[iO,qp,show ¬b<0 by omega,IntKind.bits]
theorem Y7(h:0≤b):iO P .shr t (.int .i64 a) (.int kk b)=some (.int .i64 (a.fdiv (2^min b.toNat 64))):=by simp[iO,qp,show ¬b<0 by omega,IntKind.bits]
theorem Y6:iO P .and t (.int .i64 a) (.int .i64 b)=some (.int .i64 (Gh .and .i64 a b)):=by simp[iO,qp]
theorem Y5{b:Bool}:FM .not (.d (.val (.bool b)))=some (.d (.val (.bool (!b)))):=rfl
end
end
end Go.Proofs.YtapjobndmmkanaaGreat
