/- Of no program: objects that are no more needed are dropped, the others numbered anew. -/
import Derived.Test.YtapjobndmmkanaaGreatAJ
set_option linter.unusedVariables false
set_option linter.unusedSimpArgs false
namespace Go.Proofs.YtapjobndmmkanaaGreat
open Go Go.RowKit
section
def posN:List Nat→Nat→Option Nat
 |[],_=>none
 |a::l,x=>if x=a then some 0 else(posN l x).map (·+1)
theorem jax:∀{l:List Nat} {x j:Nat},posN l x=some j→l[j]? =some x
 |[],_,_,h=>by cases h
 |a::l,x,j,h=>by
  unfold posN at h
  split at h
  ·rename_i e;cases h;rw[e];rfl
  ·obtain⟨i,hi,rfl⟩:=qah.1 h
   simpa using jax hi
mutual
def gcV(keep:List Nat):AV→AV
 | .any=>.any
 | .d x=>.d x
 | .os k id off n=>match posN keep id with|some j=>.os k j off n|none=>.any
 | .op id off=>match posN keep id with|some j=>.op j off|none=>.any
 | .om id=>match posN keep id with|some j=>.om j|none=>.any
 | .agg cs=>.agg (gcVs keep cs)
 | .tup cs=>.tup (gcVs keep cs)
 | .clo fn fi ca=>.clo fn (gcVs keep fi) (gcVs keep ca)
def gcVs(keep:List Nat):List AV→List AV
 |[]=>[]
 |x::l=>gcV keep x::gcVs keep l
end
def gcO(keep:List Nat):AObj→AObj
 | .free=>.free
 | .dead=>.dead
 | .cells cs=>.cells (gcVs keep cs)
 | .map es clock=>.map (es.map fun e=>(e.1,e.2.1,gcV keep e.2.2)) clock
 | .loop b r fr=>.loop b r (gcVs keep fr)
def gcH(keep:List Nat)(H:zad):zad:=keep.map fun i=>gcO keep (H.getD i .dead)
theorem zfe(keep:List Nat):∀cs:List AV,gcVs keep cs=cs.map (gcV keep)
 |[]=>rfl
 |x::l=>by rw[gcVs,zfe keep l];rfl
theorem jtx(keep:List Nat)(x:D):gcV keep (.d x)= .d x:=by rw[gcV]
theorem jym(keep:List Nat)(ds:List D):gcVs keep (ds.map .d)=ds.map .d:=by
 rw[zfe,List.map_map]
 exact List.map_congr_left fun x _=>jtx keep x
theorem jmk(keep:List Nat)(o:AObj):(gcO keep o).live=o.live:=by cases o<;>rfl
section
variable {P:Program} {c:Cx} {τ:Fr} {a:Act} {w:World} {pl:List (Option (Nat × Nat))} {H:zad} {Q:Exit→Fr→zad→Prop}
def gcP(keep:List Nat)(pl:List (Option (Nat × Nat))):List (Option (Nat × Nat)):=keep.map fun i=>pl.getD i none
theorem zlz{keep:List Nat}{j i:Nat}(h:keep[j]? =some i){p:Option (Nat × Nat)}(hp:pl[i]? =some p):(gcP keep pl)[j]? =some p:=by
 unfold gcP
 rw[List.getElem?_map,h,Option.map_some,qai,hp];rfl
theorem jml{keep:List Nat}{j:Nat}{p:Nat × Nat}(h:(gcP keep pl)[j]? =some (some p)):∃i,keep[j]? =some i∧pl[i]? =some (some p):=by
 unfold gcP at h
 rw[List.getElem?_map,qah]at h
 obtain⟨i,hi,he⟩:=h
 refine⟨i,hi,?_⟩
 rw[qai]at he
 cases hq:pl[i]? with
 |none=>rw[hq]at he;cases he
 |some q=>rw[hq]at he;exact congrArg some he
theorem jmm{keep:List Nat}{own own':Nat→Prop}(hw:∀b,own' b→own b){x:AV}{v:Value}(h:Rd w pl own x v):Rd w (gcP keep pl) own' (gcV keep x) v:=by
 have place:∀{id j b base:Nat},posN keep id=some j→pl[id]? =some (some (b,base))→(gcP keep pl)[j]? =some (some (b,base)):=fun hj hp=>zlz (jax hj) hp
 have gets:∀{cs:List AV} {j:Nat} {y:AV},(gcVs keep cs)[j]? =some y→∃x,cs[j]? =some x∧y=gcV keep x:=fun{cs j y} h=>by
  rw[zfe,List.getElem?_map,qah]at h
  obtain⟨x,hx,rfl⟩:=h
  exact⟨x,hx,rfl⟩
 induction h with
 |any v=>rw[gcV];exact .any v
 |d x v h=>rw[gcV];exact .d _ _ (h.mono (qao _) (fun _ _ _=>rfl) (fun b _ hb=>hw b hb))
 |os k id off n cap b base sz t h1 h2 h3 h4 h5=>
  rw[gcV]
  split
  ·rename_i j hj;exact .os k j off n cap b base sz t (place hj h1) h2 h3 h4 h5
  ·exact .any _
 |os0 k id off ad=>
  rw[gcV]
  split
  ·exact .os0 _ _ _ _
  ·exact .any _
 |op id off b base h1=>
  rw[gcV]
  split
  ·rename_i j hj;exact .op j off b base (place hj h1)
  ·exact .any _
 |om id b base h1=>
  rw[gcV]
  split
  ·rename_i j hj;exact .om j b base (place hj h1)
  ·exact .any _
 |agg cs vs hl _ ih=>
  rw[gcV]
  refine .agg _ _ (by rw[zfe];simpa using hl) fun j y hj=>?_
  obtain⟨x,hx,rfl⟩:=gets hj
  exact ih j x hx
 |tup cs vs hl _ ih=>
  rw[gcV]
  refine .tup _ _ (by rw[zfe];simpa using hl) fun j y hj=>?_
  obtain⟨x,hx,rfl⟩:=gets hj
  exact ih j x hx
 |clo fn fi ca vs us hl _ hl' _ ih ih'=>
  rw[gcV]
  refine .clo _ _ _ _ _ (by rw[zfe];simpa using hl) (fun j y hj=>?_) (by rw[zfe];simpa using hl') (fun j y hj=>?_)
  ·obtain⟨x,hx,rfl⟩:=gets hj
   exact ih j x hx
  ·obtain⟨x,hx,rfl⟩:=gets hj
   exact ih' j x hx
theorem R.gc{m:List Nat}(hp:Kp c m){keep:List Nat}(hk:∀i∈m,keep[i]? =some i)(hn:keep.Nodup)(hb:∀i∈keep,i<H.length)(hR:R c τ H [] a w):R c (fun t=>gcV keep (τ t)) (gcH keep H) [] a w:=by
 obtain⟨pl,h⟩:=hR
 have back:∀{j:Nat} {o':AObj},(gcH keep H)[j]? =some o'→∃i o,keep[j]? =some i∧H[i]? =some o∧o'=gcO keep o:=fun{j o'} hj=>by
  unfold gcH at hj
  rw[List.getElem?_map,qah]at hj
  obtain⟨i,hi,rfl⟩:=hj
  have hlt:=hb i (List.mem_of_getElem? hi)
  exact⟨i,H[i],hi,qal hlt,by rw[qai,qal hlt];rfl⟩
 have placed:∀{j:Nat} {o':AObj} {p:Nat × Nat},(gcH keep H)[j]? =some o'→o'.live=true→(gcP keep pl)[j]? =some (some p)→∃i o,keep[j]? =some i∧H[i]? =some o∧o.live=true∧pl[i]? =some (some p):=fun{j o' p} hj hl hpj=>by
  obtain⟨i,o,h1,h2,rfl⟩:=back hj
  obtain⟨i',h3,h4⟩:=jml hpj
  rw[h1]at h3;cases h3
  exact⟨i,o,h1,h2,by rw[jmk]at hl;exact hl,h4⟩
 have hown:∀b,zbp c.E (gcH keep H) (gcP keep pl) b→zbp c.E H pl b:=fun b hbo=>by
  rcases hbo with hbo|⟨j,o',e,h1,h2,h3⟩
  ·exact .inl hbo
  ·obtain⟨i,o,_,k2,k3,k4⟩:=placed h1 h2 h3
   exact .inr ⟨i,o,e,k2,k3,k4⟩
 refine⟨gcP keep pl,⟨by simp[gcP,gcH],fun j o' hj=>?_,fun i j oi oj p q h1 h2 l1 l2 hne _ _ p1 p2=>?_,fun i o p h1 l1 p1=>?_,fun p hp=>(by cases hp),fun i j ci cj p q hm=>(by cases hm)⟩,h.stp,fun i o p h1 l1 p1=>?_,h.ext,fun t=>jmm hown (h.fr t),h.size,h.defs.sub (fun b ⟨j,o',e,h1,h2,h3⟩=>let⟨i,o,_,k2,k3,k4⟩:=placed h1 h2 h3;⟨i,o,e,k2,k3,k4⟩),fun i p hi=>by
  exact zlz (hk i (hp i p hi)) (h.keep i p hi)⟩
 ·obtain⟨i,o,h1,h2,rfl⟩:=back hj
  have ho:=h.h.obj i o h2
  cases o with
  |free=>exact zlz h1 ho
  |dead=>trivial
  |cells cs=>
   rcases ho with⟨k1,k2⟩|⟨b,base,arr,t,k1,k2,k3,k4⟩
   ·exact .inl ⟨by subst k1;rfl,zlz h1 k2⟩
   ·refine .inr ⟨b,base,arr,t,zlz h1 k1,k2,by rw[zfe];simpa using k3,fun j y hj=>?_⟩
    rw[zfe,List.getElem?_map,qah]at hj
    obtain⟨x,hx,rfl⟩:=hj
    exact⟨jmm hown (k4 j x hx).1,(k4 j x hx).2⟩
  |map es clock=>
   obtain⟨b,base,ms,k1,k2,k3,k4,k5⟩:=ho
   refine⟨b,base,ms,zlz h1 k1,k2,by simpa using k3,by rw[List.map_map];exact k4,fun j e k n x hj hx=>?_⟩
   rw[List.getElem?_map,qah]at hx
   obtain⟨⟨k',n',x'⟩,hx',he⟩:=hx
   cases he
   obtain⟨m1,m2,m3⟩:=k5 j e k' n' x' hj hx'
   exact⟨m1,m2,jmm hown m3⟩
  |loop b r fr=>
   obtain⟨base,k1,k2,k3⟩:=ho
   refine⟨base,zlz h1 k1,k2,fun j y hj=>?_⟩
   rw[zfe,List.getElem?_map,qah]at hj
   obtain⟨x,hx,rfl⟩:=hj
   exact jmm hown (k3 j x hx)
 ·obtain⟨i',o1,a1,a2,a3,a4⟩:=placed h1 l1 p1
  obtain⟨j',o2,b1,b2,b3,b4⟩:=placed h2 l2 p2
  refine h.h.dis i' j' o1 o2 p q a2 b2 a3 b3 (fun e=>?_) (by simp) (by simp) a4 b4
  subst e
  have hnd:=List.pairwise_iff_getElem.1 hn
  obtain⟨m1,g1⟩:=qag.1 a1
  obtain⟨m2,g2⟩:=qag.1 b1
  rcases Nat.lt_trichotomy i j with hl|hl|hl
  ·exact hnd i j m1 m2 hl (g1.trans g2.symm)
  ·exact hne hl
  ·exact hnd j i m2 m1 hl (g2.trans g1.symm)
 ·obtain⟨i',o1,a1,a2,a3,a4⟩:=placed h1 l1 p1
  exact h.h.ext i' o1 p a2 a3 a4
 ·obtain⟨i',o1,a1,a2,a3,a4⟩:=placed h1 l1 p1
  exact h.own0 i' o1 p a2 a3 a4
theorem zie{f:FuncId}{fn:Func}{code:Code}{ds:List D}{Q:AV→zad→Prop}{E:Nat→Prop}{vals:Array Value}(hf:P.funcs[f]? =some fn)(hb:fn.body=some code)(hn:ds.length≤fn.ntmps)(h:∀c:Cx,c.nt=fn.ntmps→Kp c []→Top c→AWp P c code (zgs P fn Q) (zis ds) [])
  (hl:vals.size=ds.length) (hx:∀j x,ds[j]? =some x→RdD w E x (vals.getD j undef)) (hE:∀b,E b→b<w.heap.size):
  Calls P f vals w fun e w'=>∃v x H' a' pl τ',e= .returned v∧Q x H'∧Rd w' pl (zbp E H' pl) x v∧RelS ⟨E,w,fun _=>False,fn.ntmps,[],none,w.heap.size⟩ τ' H' [] pl a' w':=by
 have hR:R ⟨E,w,fun _=>False,fn.ntmps,[],none,w.heap.size⟩ (zis ds) [] [] {tmps:=vals++Array.replicate (fn.ntmps - vals.size) undef,defers:=[]} w:=by
  refine⟨[],⟨rfl,fun id o ho=>by simp at ho,fun i j oi oj p q h1=>by simp at h1,fun i o p h1=>by simp at h1,fun p hp=>(by cases hp),fun i j ci cj p q hm=>(by cases hm)⟩,Stp.refl _ _,fun id o p h1=>by simp at h1,hE,fun t=>?_,by simp;omega,Dfk.nil,fun i p hi=>by simp at hi⟩
  simp only[zq5]
  unfold zis
  rw[qai,List.getElem?_map]
  cases hd:ds[t]? with
  |none=>
   have:vals.size≤t:=by rw[hl];exact List.getElem?_eq_none_iff.1 hd
   simp only[Array.getD,dif_neg (Nat.not_lt.2 this)]
   exact .d _ _ (.val _)
  |some x=>exact .d _ _ ((hx t x hd).mono (qao _) (fun _ _ _=>rfl) (fun b _ hb=>by
   rcases hb with hb|⟨i,o,e,h1,_⟩
   ·exact hb
   ·simp at h1))
 exact zjk (c:=⟨E,w,fun _=>False,fn.ntmps,[],none,w.heap.size⟩) rfl (qao _) hf hb (h _ rfl (Kp.none rfl) ⟨rfl,qao _⟩ _ w hR) fun τ' H' pl' a' w' x v h1 k1 k2=>⟨v,x,H',a',pl',τ',rfl,k1,k2,h1⟩
theorem jez{f:FuncId}{fn:Func}{code:Code}{ds:List D}{r:AV}(he:zsd P f=true)(hf:P.funcs[f]? =some fn)(hb:fn.body=some code)(hn:ds.length≤fn.ntmps)
  (h:∀c:Cx,c.nt=fn.ntmps→Kp c []→Top c→AWp P c code (zgs P fn fun x H=>closeA H x=some r) (zis ds) []):za2 P f ds r:=
 ⟨he,fun _ _ _ hl hx hE=>(zie hf hb hn h hl hx hE).mono fun _ _ ⟨v,_,_,_,_,_,h1,h2,h3,h4⟩=>⟨v,h1,zq6 h4.h h2 h3,h4.stp.to_below⟩⟩
theorem je0{f:FuncId}{fn:Func}{code:Code}{ds:List D}{Q:AV→Prop}(he:zsd P f=true)(hf:P.funcs[f]? =some fn)(hb:fn.body=some code)(hn:ds.length≤fn.ntmps)
  (h:∀c:Cx,c.nt=fn.ntmps→Kp c []→Top c→AWp P c code (zgs P fn fun x H=>∃r,closeA H x=some r∧Q r) (zis ds) []):zg5 P f ds Q:=
 ⟨he,fun _ _ _ hl hx hE=>(zie hf hb hn h hl hx hE).mono fun _ _ ⟨v,_,_,_,_,_,h1,⟨r,h2,h5⟩,h3,h4⟩=>⟨v,r,h1,h5,zq6 h4.h h2 h3,h4.stp.to_below⟩⟩
theorem je1{f:FuncId}{fn:Func}{code:Code}{ds:List D}{r:AV}(he:zsd P f=true)(hf:P.funcs[f]? =some fn)(hb:fn.body=some code)(hn:ds.length≤fn.ntmps)
  (h:∀c:Cx,c.nt=fn.ntmps→Kp c []→Top c→AWp P c code (zgs P fn fun x H=>closeN H x=some r) (zis ds) []):zji P f ds r:=
 ⟨he,fun w O _ hl hx hE=>(zie hf hb hn h hl hx hE).mono fun _ w' ⟨v,_,_,_,_,_,h1,h2,h3,h4⟩=>⟨v,h1,zv3 h4.h (fun id o p k1 k2 k3 hE'=>by
  rcases hE' with hE'|hE'
  ·exact h4.h.ext id o p k1 k2 k3 hE'
  ·rcases h4.own0 id o p k1 k2 k3 with h|h
   ·exact h
   ·simp only at h;omega) h2 h3,h4.stp.to_below⟩⟩
theorem zax{f:FuncId}{fn:Func}{code:Code}{ds:List D}{r:AV}(he:zsd P f=true)(hf:P.funcs[f]? =some fn)(hb:fn.body=some code)(hn:ds.length≤fn.ntmps)
  (h:∀c:Cx,c.nt=fn.ntmps→Kp c []→AWp P c code (zgs P fn fun x H=>closeA H x=some r) (zis ds) []):za2 P f ds r:=jez he hf hb hn fun c h1 h2 _=>h c h1 h2
theorem zj9{f:FuncId}{fn:Func}{code:Code}{ds:List D}{Q:AV→Prop}(he:zsd P f=true)(hf:P.funcs[f]? =some fn)(hb:fn.body=some code)(hn:ds.length≤fn.ntmps)
  (h:∀c:Cx,c.nt=fn.ntmps→Kp c []→AWp P c code (zgs P fn fun x H=>∃r,closeA H x=some r∧Q r) (zis ds) []):zg5 P f ds Q:=je0 he hf hb hn fun c h1 h2 _=>h c h1 h2
theorem zs6{f:FuncId}{fn:Func}{code:Code}{ds:List D}{r:AV}(he:zsd P f=true)(hf:P.funcs[f]? =some fn)(hb:fn.body=some code)(hn:ds.length≤fn.ntmps)
  (h:∀c:Cx,c.nt=fn.ntmps→Kp c []→AWp P c code (zgs P fn fun x H=>closeN H x=some r) (zis ds) []):zji P f ds r:=je1 he hf hb hn fun c h1 h2 _=>h c h1 h2
end
section
variable {P:Program} {fr:List FuncId} {ops l:List Oper} {τ:Fr} {H:zad} {d:Option Tmp} {ty:TypeId} {pos:String} {af:Array Edge} {K:Fr→zad→Prop} {t:TypeId}
variable {KV:Value→Prop} {a b:Bool}
theorem jay{n:Nat}{zs:List D}:zmh n zs=match zs with|[z]=>List.replicate n (.d z)|zs=>(List.replicate n (zs.map AV.d)).flatten:=rfl
theorem jaz{pf:Nat→Option (Nat × Nat)}{cs:List AV}:zpi pf cs []=some cs:=rfl
theorem zwd{pf:Nat→Option (Nat × Nat)}{cs:List AV}{i:Nat}{x:AV}{ps:List (Nat × AV)}:zpi pf cs ((i,x)::ps)=match pf i with
  |none=>none
  |some (off,size)=>match zcm x with
   |none=>none
   |some l=>if l.length≠size∨off+l.length>cs.length then none else zpi pf (zbq cs off l) ps:=rfl
theorem jpl{k:IntKind}{n:Int}:zcm (.d (.val (.int k n)))=some [.d (.val (.int k n))]:=rfl
theorem jhy{b:Bool}:zcm (.d (.val (.bool b)))=some [.d (.val (.bool b))]:=rfl
theorem jyn{cs:List D}{n:Nat}:zcm (.d (.fs cs n))=some [.d (.fs cs n)]:=rfl
theorem jyo{k id off n:Nat}:zcm (.os k id off n)=some [.os k id off n]:=rfl
theorem jyp{id off:Nat}:zcm (.op id off)=some [.op id off]:=rfl
theorem jyq{id:Nat}:zcm (.om id)=some [.om id]:=rfl
theorem jpm{cs:List AV}:zcm (.agg cs)=if cs.all AV.one then some cs else none:=rfl
theorem jhz{cs:List D}:zcm (.d (.agg cs))=if cs.all D.one then some (cs.map .d)else none:=rfl
theorem ja0{cs:List AV}{i:Nat}:zbq cs i []=cs:=rfl
theorem zwe{cs l:List AV}{i:Nat}{x:AV}:zbq cs i (x::l)=zbq (cs.set i x) (i+1) l:=rfl
end
end
section
def zx3{α:Type}(o:Option α)(K:α→Prop):Prop:=∃x,o=some x∧K x
theorem zea{α:Type}{x:α}{K:α→Prop}:zx3 (some x) K=K x:=by simp[zx3]
def GK(g:Option Bool)(A B:Prop):Prop:=match g with|some true=>A|some false=>B|none=>False
inductive Tg.{u} {α:Sort u} (a:α):Type where
 |mk
def tg.{u}{α:Sort u}(a:α):Tg a:=.mk
def oK{α:Type}{K:α→Prop}(o:Option α)(_:Tg K):Prop:=zx3 o K
theorem jh0{α:Type}{x:α}{K:α→Prop}:oK (some x) (tg K)=K x:=zea
def gK{A B:Prop}(g:Option Bool)(_:Tg A)(_:Tg B):Prop:=GK g A B
theorem ykj{A B:Prop}:gK (some true) (tg A) (tg B)=A:=rfl
theorem ykk{A B:Prop}:gK (some false) (tg A) (tg B)=B:=rfl
def jh1(P:Program)(sm:List Nat)(N:Nat)(H:zad)(τ:Fr)(f:AV)(xs:List AV)(inl:Bool)(KK:AV→zad→Prop):Prop:=
 (∃x,zym P N H f xs x∧KK x H)∨(inl=true∧∃n fi ca,zgh f=some (n,fi,ca)∧(IcS P n (fi++xs++ca) H KK∨(∃ds Q,AV.toD.toDs (fi++xs++ca)=some ds∧zg5 P n ds Q∧∀x,Q x→KK x H)∨ScK P sm n (fi++xs++ca) τ H KK))∨
  inl=true∧∃l,f= .d (.val (.func (.yield l) #[] #[]))∧YcK P sm l xs τ H KK
def kC{KK:AV→zad→Prop}(P:Program)(sm:List Nat)(N:Nat)(H:zad)(τ:Fr)(f:AV)(xs:List AV)(inl:Bool)(_:Tg KK):Prop:=jh1 P sm N H τ f xs inl KK
def cT(P:Program)(KT:TypeId→Bool)(sm:List Nat)(op:Op)(ρ:Operand→AV)(H:zad)(KK:AV→zad→Prop):Prop:=
 match kOf [] op with
 |0=>if zdp op then(match op with
   | .call {callee:=.value f,args:=args,..}=>jh1 P sm H.length H (fun t=>ρ (.tmp t)) (ρ f) (args.toList.map ρ) true KK
   |_=>False)else zx3 (opF P H.length H KT ρ op) fun x=>KK x H
 |2=>(match op with
  | .store t p y=>zx3 (storeF P t (ρ p) (ρ y) H [] 0) fun H'=>KK (.d (.val undef)) H'
  |_=>False)
 |4=>zx3 (zuk P KT ρ op H []) fun p=>KK p.1 p.2
 |_=>zx3 (layF P H.length ρ op H) fun p=>KK p.1 (deadH H p.2.2++[p.2.1])
def sT(P:Program)(KT:TypeId→Bool)(sm:List Nat)(ops:List Oper):List Oper→Fr→zad→(Fr→zad→Prop)→Prop
 |[],τ,H,K=>K τ H
 |o::l,τ,H,K=>GK (zc2 ops τ o) (cT P KT sm o.op (zaw τ) H fun x H'=>sT P KT sm ops l (τ.put o.dst x) H' K) (sT P KT sm ops l (τ.put o.dst (.d (.val undef))) H K)
def cE(P:Program)(KT:TypeId→Bool)(N r:Nat)(fresh:Bool)(m:List (Nat × Nat))(o:Oper)(ρ:Operand→AV)(H:zad)(sh:List (Nat × Nat))(KK:AV→zad→List (Nat × Nat)→Prop):Prop:=
 match kOf [] o.op with
 |0=>if zdp o.op then(match o.op with
   | .call {callee:=.value f,args:=args,..}=>jh1 P [] N H (fun t=>ρ (.tmp t)) (ρ f) (args.toList.map ρ) false fun x _=>KK x H sh
   |_=>False)else zx3 (opF P N H KT ρ o.op) fun x=>KK x H sh
 |2=>(match o.op with
  | .store t p y=>zx3 (storeF P t (ρ p) (ρ y) H sh (if fresh then N else 0)) fun H'=>KK (.d (.val undef)) H' sh
  |_=>False)
 |4=>zx3 (zuk P KT ρ o.op H sh) fun p=>KK p.1 p.2 sh
 |_=>zx3 (layEF P N r (zyy m o.after.toList) ρ o.op H sh) fun p=>KK p.1 p.2.1 p.2.2
def sE(P:Program)(KT:TypeId→Bool)(ops:List Oper)(N:Nat):Nat→Nat→List (Nat × Nat)→List Oper→Fr→zad→List (Nat × Nat)→(Fr→zad→List (Nat × Nat)→Prop)→Prop
 |_,_,_,[],τ,H,sh,K=>K τ H sh
 |i,r,m,o::l,τ,H,sh,K=>GK (zc2 ops τ o)
   (cE P KT N r (zev ops o) m o (zaw τ) H sh fun x H' sh'=>sE P KT ops N (i+1) (if lays [] o then r+1 else r) (if lays [] o then(i,r)::m else m) l (τ.put o.dst x) H' sh' K)
   (sE P KT ops N (i+1) (if lays [] o then r+1 else r) (if lays [] o then(i,r)::m else m) l (τ.put o.dst (.d (.val undef))) H sh K)
section
variable {P:Program} {KT:TypeId→Bool} {τ:Fr} {H:zad}
theorem zmp{α:Type}{o:Option α}{K K':α→Prop}(hK:∀x,K x→K' x)(h:zx3 o K):zx3 o K':=by
 obtain⟨x,h1,h2⟩:=h;exact⟨x,h1,hK x h2⟩
theorem je2{sm:List Nat}{N:Nat}{τ:Fr}{f:AV}{xs:List AV}{inl:Bool}{K K':AV→zad→Prop}(hK:∀x H',K x H'→K' x H')(h:jh1 P sm N H τ f xs inl K):jh1 P sm N H τ f xs inl K':=by
 rcases h with⟨x,h1,h2⟩|⟨h0,n,fi,ca,h1,h2⟩|⟨h0,l,h1,m,S,T,K0,a1,a2,a3,a4,a5,a6,a7,a8⟩
 case inr.inr=>exact .inr (.inr ⟨h0,l,h1,m,S,T,K0,a1,a2,a3,a4,a5,a6,a7,fun x S' hx=>⟨(a8 x S' hx).1,hK _ _ (a8 x S' hx).2⟩⟩)
 ·exact .inl ⟨x,h1,hK _ _ h2⟩
 ·refine .inr (.inl ⟨h0,n,fi,ca,h1,?_⟩)
  rcases h2 with h2|⟨ds,Q,h2,h3,h4⟩|⟨m,S,T,K0,a1,a2,a3,a4,a5,a6,a7,a8⟩
  ·exact .inl (h2.mono hK)
  ·exact .inr (.inl ⟨ds,Q,h2,h3,fun x hx=>hK _ _ (h4 x hx)⟩)
  ·exact .inr (.inr ⟨m,S,T,K0,a1,a2,a3,a4,a5,a6,a7,fun x S' hx=>⟨(a8 x S' hx).1,hK _ _ (a8 x S' hx).2⟩⟩)
theorem jty{sm:List Nat}{op:Op}{ρ:Operand→AV}{K K':AV→zad→Prop}(hK:∀x H',K x H'→K' x H')(h:cT P KT sm op ρ H K):cT P KT sm op ρ H K':=by
 unfold cT at h ⊢
 split at h
 ·split at h
  ·rename_i hc
   rw[if_pos hc]
   split at h
   ·exact je2 hK h
   ·exact h.elim
  ·rename_i hc
   rw[if_neg hc]
   exact zmp (fun x=>hK x H) h
 ·split at h
  ·exact zmp (fun x=>hK _ x) h
  ·exact h.elim
 ·exact zmp (fun p=>hK p.1 p.2) h
 ·exact zmp (fun p=>hK p.1 _) h
theorem zs7{N r:Nat}{fresh:Bool}{m:List (Nat × Nat)}{o:Oper}{sh:List (Nat × Nat)}{K K':AV→zad→List (Nat × Nat)→Prop}(hK:∀x H' sh',K x H' sh'→K' x H' sh')(h:zmn P [] N r fresh m o τ H sh K):zmn P [] N r fresh m o τ H sh K':=by
 unfold zmn at h ⊢
 split at h
 ·obtain⟨x,h1,h2⟩:=h;exact⟨x,h1,hK _ _ _ h2⟩
 ·obtain⟨x,h1,h2⟩:=h;exact⟨x,h1,hK _ _ _ h2⟩
 ·obtain⟨x,y,h1,h2⟩:=h;exact⟨x,y,h1,hK _ _ _ h2⟩
 ·obtain⟨a1,a2,a3,x,H',sh',h1,h2⟩:=h;exact⟨a1,a2,a3,x,H',sh',h1,hK _ _ _ h2⟩
end
section
variable {P:Program} {KT:TypeId→Bool} {c:Cx} {τ:Fr} {H:zad} {Q:Exit→Fr→zad→Prop} {ops:List Oper}
theorem zmq{g:Option Bool}{A B:Prop}(h:GK g A B):∃b,g=some b∧(b=true→A)∧(b=false→B):=by
 unfold GK at h
 split at h
 ·exact⟨true,rfl,fun _=>h,fun e=>by cases e⟩
 ·exact⟨false,rfl,(fun e=>by cases e),fun _=>h⟩
 ·exact h.elim
theorem yhw{sm:List Nat}(hKT:∀k,KT k=true→Maps.Keyed P k){o:Oper}{K:Fr→zad→Prop}(h:cT P KT sm o.op (zaw τ) H fun x H'=>K (τ.put o.dst x) H'):jes P [] sm o τ H K:=by
 unfold cT at h
 unfold jes
 split at h
 ·rename_i hk
  simp only[hk]
  split at h
  ·split at h
   ·rename_i f args ts e
    rw[e]
    rcases h with⟨x,hq,hx⟩|⟨_,n,fi,ca,hc,hq⟩|⟨_,l,hl,hq⟩
    ·exact .inl ⟨x,hq,hx⟩
    ·exact .inr (.inl ⟨n,fi,ca,hc,hq⟩)
    ·exact .inr (.inr ⟨l,hl,hq⟩)
   ·exact h.elim
  ·obtain⟨x,hx,hK⟩:=h
   exact .inl ⟨x,jat hKT hx,hK⟩
 ·rename_i hk
  simp only[hk]
  split at h
  ·rename_i t p y e
   obtain⟨H1,hH,hK⟩:=h
   rw[e]
   exact⟨_,zjm hH,hK⟩
  ·exact h.elim
 ·rename_i hk
  simp only[hk]
  obtain⟨p,hp,hK⟩:=h
  exact⟨p.1,p.2,zrd hKT hp,hK⟩
 ·rename_i hk0 hk2 hk4
  obtain⟨⟨x,ob,dd⟩,hl,hK⟩:=h
  have hlay:=zum hl (K:=fun x H'=>K (τ.put o.dst x) H') hK
  rcases zul hk0 hk2 hk4 with hk|hk
  ·simp only[hk];exact hlay
  ·simp only[hk];exact hlay
theorem jmn{sm:List Nat}(hKT:∀k,KT k=true→Maps.Keyed P k){K:Fr→zad→Prop}:∀{os:List Oper} {τ:Fr} {H:zad},sT P KT sm ops os τ H K→jpf P [] sm ops os τ H K
 |[],_,_,h=>h
 |o::os,τ,H,h=>by
  obtain⟨b,hg,ht,hf⟩:=zmq h
  refine⟨b,hg,fun e=>yhw hKT ?_,fun e=>jmn hKT (hf e)⟩
  have:=ht e
  exact jty (fun x H' hh=>jmn hKT hh) this
theorem jtz(hKT:∀k,KT k=true→Maps.Keyed P k){N r:Nat}{fresh:Bool}{m:List (Nat × Nat)}{o:Oper}{sh:List (Nat × Nat)}{K:AV→zad→List (Nat × Nat)→Prop}(h:cE P KT N r fresh m o (zaw τ) H sh K):zmn P [] N r fresh m o τ H sh K:=by
 unfold cE at h
 unfold zmn
 split at h
 ·rename_i hk
  simp only[hk]
  split at h
  ·split at h
   ·rename_i f args ts e
    rw[e]
    rcases h with⟨x,hq,hx⟩|⟨e,_⟩|⟨e,_⟩
    ·exact⟨x,hq,hx⟩
    ·cases e
    ·cases e
   ·exact h.elim
  ·obtain⟨x,hx,hK⟩:=h
   exact⟨x,jat hKT hx,hK⟩
 ·rename_i hk
  simp only[hk]
  split at h
  ·rename_i t p y e
   obtain⟨H1,hH,hK⟩:=h
   rw[e]
   exact⟨_,zjm hH,hK⟩
  ·exact h.elim
 ·rename_i hk
  simp only[hk]
  obtain⟨p,hp,hK⟩:=h
  exact⟨p.1,p.2,zrd hKT hp,hK⟩
 ·rename_i hk0 hk2 hk4
  obtain⟨⟨x,H',sh'⟩,hl,hK⟩:=h
  have:=zy1 hl hK
  rcases zul hk0 hk2 hk4 with hk|hk
  ·simp only[hk];exact this
  ·simp only[hk];exact this
theorem jmo(hKT:∀k,KT k=true→Maps.Keyed P k){N:Nat}{K:Fr→zad→List (Nat × Nat)→Prop}:∀{os:List Oper} {i r:Nat} {m:List (Nat × Nat)} {τ:Fr} {H:zad} {sh:List (Nat × Nat)},sE P KT ops N i r m os τ H sh K→jpg P [] ops N i r m os τ H sh K
 |[],_,_,_,_,_,_,h=>h
 |o::os,i,r,m,τ,H,sh,h=>by
  obtain⟨b,hg,ht,hf⟩:=zmq h
  exact⟨b,hg,fun e=>zs7 (fun x H' sh' hh=>jmo hKT hh) (jtz hKT (ht e)),fun e=>jmo hKT (hf e)⟩
theorem zaf{sm:List Nat}(hc0:Kp c sm)(hKT:∀k,KT k=true→Maps.Keyed P k){id:Nat}{l:List Oper}{y:Code}{n:Nat}(hn:c.nt=n)(hd:zgi n l=true)(h:∀K:Fr→zad→Prop,(∀τ H,AWp P c y Q τ H→K τ H)→sT P KT sm l l τ H K):AWp P c (.seq (.region id l.toArray false) y) Q τ H:=
 jg7 (fr:=[]) hc0 hn hd fun K hK=>jmn hKT (h K hK)
theorem za1{sm:List Nat}(hc0:Kp c sm)(hKT:∀k,KT k=true→Maps.Keyed P k){id:Nat}{l:List Oper}{n:Nat}(hn:c.nt=n)(hd:zgi n l=true)(h:∀K:Fr→zad→Prop,(∀τ H,Q .normal τ H→K τ H)→sT P KT sm l l τ H K):AWp P c (.region id l.toArray false) Q τ H:=
 yhn (fr:=[]) hc0 hn hd fun K hK=>jmn hKT (h K hK)
theorem zay(hKT:∀k,KT k=true→Maps.Keyed P k){id:Nat}{l:List Oper}{y:Code}{n:Nat}(hn:c.nt=n)(hm:P.follows .mixedOrders=true)(hd:zgi n l=true){q:Nat}(hq:l.countP (lays [])=q)(hB:jg5 [] l l.length 0 (Array.replicate l.length false)=true)
  (h:∀K:Fr→zad→Prop,(∀τ H,AWp P c y Q τ H→K τ H)→sE P KT l H.length 0 0 [] l τ (H++List.replicate q .free) [] fun τ' H' sh'=>K τ' (killAll sh' H')):AWp P c (.seq (.region id l.toArray true) y) Q τ H:=
 zv9 (fr:=[]) hn hm hd hq hB fun K hK=>jmo hKT (h K hK)
theorem zov(hKT:∀k,KT k=true→Maps.Keyed P k){id:Nat}{l:List Oper}{n:Nat}(hn:c.nt=n)(hm:P.follows .mixedOrders=true)(hd:zgi n l=true){q:Nat}(hq:l.countP (lays [])=q)(hB:jg5 [] l l.length 0 (Array.replicate l.length false)=true)
  (h:∀K:Fr→zad→Prop,(∀τ H,Q .normal τ H→K τ H)→sE P KT l H.length 0 0 [] l τ (H++List.replicate q .free) [] fun τ' H' sh'=>K τ' (killAll sh' H')):AWp P c (.region id l.toArray true) Q τ H:=
 jyh (fr:=[]) hn hm hd hq hB fun K hK=>jmo hKT (h K hK)
end
section
variable {P:Program} {KT:TypeId→Bool} {sm:List Nat} {ops l:List Oper} {τ:Fr} {H:zad} {sh:List (Nat × Nat)} {N i r:Nat} {m:List (Nat × Nat)} {d:Option Tmp} {op:Op} {ty:TypeId} {pos:String} {af:Array Edge} {K:Fr→zad→Prop} {KD:Fr→zad→List (Nat × Nat)→Prop}
theorem jpn:sT P KT sm ops [] τ H K=K τ H:=rfl
theorem jpo:sE P KT ops N i r m [] τ H sh KD=KD τ H sh:=rfl
theorem ykl{j:Nat}{want:Bool}:sT P KT sm ops (⟨d,op,ty,pos,af,some (j,want)⟩::l) τ H K=gK (zc2 ops τ ⟨d,op,ty,pos,af,some (j,want)⟩) (tg (sT P KT sm ops (⟨d,op,ty,pos,af,none⟩::l) τ H K)) (tg (sT P KT sm ops l (τ.put d (.d (.val undef))) H K)):=rfl
theorem jh2{y:Operand}:sT P KT sm ops (⟨d,.move y,ty,pos,af,none⟩::l) τ H K=(sT P KT sm ops l (τ.put d (zaw τ y)) H K):=by simp[sT,sE,zc2,GK,cT,cE,kOf,zdp,opF,zea,lays]
theorem jh3{y:Operand}:sE P KT ops N i r m (⟨d,.move y,ty,pos,af,none⟩::l) τ H sh KD=(sE P KT ops N (i+1) r m l (τ.put d (zaw τ y)) H sh KD):=by simp[sT,sE,zc2,GK,cT,cE,kOf,zdp,opF,zea,lays]
theorem zwf{y:Operand}:sT P KT sm ops (⟨d,.assign y,ty,pos,af,none⟩::l) τ H K=(sT P KT sm ops l (τ.put d (zaw τ y)) H K):=by simp[sT,sE,zc2,GK,cT,cE,kOf,zdp,opF,zea,lays]
theorem zwg{y:Operand}:sE P KT ops N i r m (⟨d,.assign y,ty,pos,af,none⟩::l) τ H sh KD=(sE P KT ops N (i+1) r m l (τ.put d (zaw τ y)) H sh KD):=by simp[sT,sE,zc2,GK,cT,cE,kOf,zdp,opF,zea,lays]
theorem jh4{c a b:Operand}:sT P KT sm ops (⟨d,.pick c a b,ty,pos,af,none⟩::l) τ H K=(oK (match zaw τ c with| .d (.val (.bool t))=>some (if t then zaw τ a else zaw τ b)|_=>none)<|tg fun x=>sT P KT sm ops l (τ.put d x) H K):=rfl
theorem jh5{c a b:Operand}:sE P KT ops N i r m (⟨d,.pick c a b,ty,pos,af,none⟩::l) τ H sh KD=(oK (match zaw τ c with| .d (.val (.bool t))=>some (if t then zaw τ a else zaw τ b)|_=>none)<|tg fun x=>sE P KT ops N (i+1) r m l (τ.put d x) H sh KD):=rfl
theorem jh6{t:TypeId}{y:Operand}:sT P KT sm ops (⟨d,.load t y,ty,pos,af,none⟩::l) τ H K=(oK (loadF P H.length H t (zaw τ y))<|tg fun x=>sT P KT sm ops l (τ.put d x) H K):=rfl
theorem jh7{t:TypeId}{y:Operand}:sE P KT ops N i r m (⟨d,.load t y,ty,pos,af,none⟩::l) τ H sh KD=(oK (loadF P N H t (zaw τ y))<|tg fun x=>sE P KT ops N (i+1) r m l (τ.put d x) H sh KD):=rfl
theorem jyr{t:TypeId}{y:Operand}{f:Nat}:sT P KT sm ops (⟨d,.fieldAddr t y f,ty,pos,af,none⟩::l) τ H K=(oK (fieldAddrF P t f (zaw τ y))<|tg fun x=>sT P KT sm ops l (τ.put d x) H K):=rfl
theorem jys{t:TypeId}{y:Operand}{f:Nat}:sE P KT ops N i r m (⟨d,.fieldAddr t y f,ty,pos,af,none⟩::l) τ H sh KD=(oK (fieldAddrF P t f (zaw τ y))<|tg fun x=>sE P KT ops N (i+1) r m l (τ.put d x) H sh KD):=rfl
theorem jyt{t:TypeId}{y z:Operand}:sT P KT sm ops (⟨d,.indexAddr t y z,ty,pos,af,none⟩::l) τ H K=(oK (indexAddrF P t (zaw τ y) (zaw τ z))<|tg fun x=>sT P KT sm ops l (τ.put d x) H K):=rfl
theorem jyu{t:TypeId}{y z:Operand}:sE P KT ops N i r m (⟨d,.indexAddr t y z,ty,pos,af,none⟩::l) τ H sh KD=(oK (indexAddrF P t (zaw τ y) (zaw τ z))<|tg fun x=>sE P KT ops N (i+1) r m l (τ.put d x) H sh KD):=rfl
theorem ja1{t:TypeId}{y z:Operand}:sT P KT sm ops (⟨d,.index t y z,ty,pos,af,none⟩::l) τ H K=(oK (indexF P t (zaw τ y) (zaw τ z))<|tg fun x=>sT P KT sm ops l (τ.put d x) H K):=rfl
theorem ja2{t:TypeId}{y:Operand}{lo hi:Option Operand}:sT P KT sm ops (⟨d,.slice t y lo hi none,ty,pos,af,none⟩::l) τ H K=(oK (sliceF P H.length H t (zaw τ y) (lo.map (zaw τ)) (hi.map (zaw τ)))<|tg fun x=>sT P KT sm ops l (τ.put d x) H K):=rfl
theorem ja3{t:TypeId}{y:Operand}{lo hi:Option Operand}:sE P KT ops N i r m (⟨d,.slice t y lo hi none,ty,pos,af,none⟩::l) τ H sh KD=(oK (sliceF P N H t (zaw τ y) (lo.map (zaw τ)) (hi.map (zaw τ)))<|tg fun x=>sE P KT ops N (i+1) r m l (τ.put d x) H sh KD):=rfl
theorem jpp{op:BinOp}{t t':TypeId}{y z:Operand}:sT P KT sm ops (⟨d,.binOp op t y z t',ty,pos,af,none⟩::l) τ H K=(oK (zwa P op t (zaw τ y) (zaw τ z))<|tg fun x=>sT P KT sm ops l (τ.put d x) H K):=rfl
theorem jpq{op:BinOp}{t t':TypeId}{y z:Operand}:sE P KT ops N i r m (⟨d,.binOp op t y z t',ty,pos,af,none⟩::l) τ H sh KD=(oK (zwa P op t (zaw τ y) (zaw τ z))<|tg fun x=>sE P KT ops N (i+1) r m l (τ.put d x) H sh KD):=rfl
theorem jyv{op:UnOp}{t:TypeId}{y:Operand}:sT P KT sm ops (⟨d,.unOp op t y,ty,pos,af,none⟩::l) τ H K=(oK (unF op (zaw τ y))<|tg fun x=>sT P KT sm ops l (τ.put d x) H K):=rfl
theorem jyw{op:UnOp}{t:TypeId}{y:Operand}:sE P KT ops N i r m (⟨d,.unOp op t y,ty,pos,af,none⟩::l) τ H sh KD=(oK (unF op (zaw τ y))<|tg fun x=>sE P KT ops N (i+1) r m l (τ.put d x) H sh KD):=rfl
theorem jh8{s t:TypeId}{y:Operand}:sT P KT sm ops (⟨d,.convert s t y,ty,pos,af,none⟩::l) τ H K=(oK (convF P s t (zaw τ y))<|tg fun x=>sT P KT sm ops l (τ.put d x) H K):=rfl
theorem jh9{s t:TypeId}{y:Operand}:sE P KT ops N i r m (⟨d,.convert s t y,ty,pos,af,none⟩::l) τ H sh KD=(oK (convF P s t (zaw τ y))<|tg fun x=>sE P KT ops N (i+1) r m l (τ.put d x) H sh KD):=rfl
theorem ja4{t:TypeId}{ps:Array (Nat × Operand)}:sT P KT sm ops (⟨d,.build t ps,ty,pos,af,none⟩::l) τ H K=(oK (buildF P t (ps.toList.map fun p=>(p.1,zaw τ p.2)))<|tg fun x=>sT P KT sm ops l (τ.put d x) H K):=rfl
theorem ja5{t:TypeId}{ps:Array (Nat × Operand)}:sE P KT ops N i r m (⟨d,.build t ps,ty,pos,af,none⟩::l) τ H sh KD=(oK (buildF P t (ps.toList.map fun p=>(p.1,zaw τ p.2)))<|tg fun x=>sE P KT ops N (i+1) r m l (τ.put d x) H sh KD):=rfl
theorem zs8{y:Operand}{ix:Nat}:sT P KT sm ops (⟨d,.extract y ix,ty,pos,af,none⟩::l) τ H K=(oK (match zaw τ y with| .tup vs=>vs[ix]? |_=>none)<|tg fun x=>sT P KT sm ops l (τ.put d x) H K):=rfl
theorem zs9{y:Operand}{ix:Nat}:sE P KT ops N i r m (⟨d,.extract y ix,ty,pos,af,none⟩::l) τ H sh KD=(oK (match zaw τ y with| .tup vs=>vs[ix]? |_=>none)<|tg fun x=>sE P KT ops N (i+1) r m l (τ.put d x) H sh KD):=rfl
theorem jia{y:Operand}:sT P KT sm ops (⟨d,.nilCheck y,ty,pos,af,none⟩::l) τ H K=(oK (if nilOk (zaw τ y)then some (zaw τ y)else none)<|tg fun x=>sT P KT sm ops l (τ.put d x) H K):=rfl
theorem jib{y:Operand}:sE P KT ops N i r m (⟨d,.nilCheck y,ty,pos,af,none⟩::l) τ H sh KD=(oK (if nilOk (zaw τ y)then some (zaw τ y)else none)<|tg fun x=>sE P KT ops N (i+1) r m l (τ.put d x) H sh KD):=rfl
theorem zwh{t:TypeId}{y z:Operand}{ok:Bool}:sT P KT sm ops (⟨d,.lookup t y z ok,ty,pos,af,none⟩::l) τ H K=(oK (zid P H.length H KT t (zaw τ y) (zaw τ z) ok)<|tg fun x=>sT P KT sm ops l (τ.put d x) H K):=rfl
theorem zwi{t:TypeId}{y z:Operand}{ok:Bool}:sE P KT ops N i r m (⟨d,.lookup t y z ok,ty,pos,af,none⟩::l) τ H sh KD=(oK (zid P N H KT t (zaw τ y) (zaw τ z) ok)<|tg fun x=>sE P KT ops N (i+1) r m l (τ.put d x) H sh KD):=rfl
theorem jyx{fn:Fn}{fi ca:Array Operand}:sT P KT sm ops (⟨d,.makeFunc fn fi ca,ty,pos,af,none⟩::l) τ H K=(sT P KT sm ops l (τ.put d (.clo fn (fi.toList.map (zaw τ)) (ca.toList.map (zaw τ)))) H K):=by simp[sT,sE,zc2,GK,cT,cE,kOf,zdp,opF,zea,lays]
theorem jpr{args:Array Operand}{ts:Array TypeId}:sT P KT sm ops (⟨d,.call ⟨.builtin .len,args,ts⟩,ty,pos,af,none⟩::l) τ H K=(oK (builtinF P .len ts.toList (args.toList.map (zaw τ)))<|tg fun x=>sT P KT sm ops l (τ.put d x) H K):=rfl
theorem jps{args:Array Operand}{ts:Array TypeId}:sE P KT ops N i r m (⟨d,.call ⟨.builtin .len,args,ts⟩,ty,pos,af,none⟩::l) τ H sh KD=(oK (builtinF P .len ts.toList (args.toList.map (zaw τ)))<|tg fun x=>sE P KT ops N (i+1) r m l (τ.put d x) H sh KD):=rfl
theorem jpt{args:Array Operand}{ts:Array TypeId}:sT P KT sm ops (⟨d,.call ⟨.builtin .max,args,ts⟩,ty,pos,af,none⟩::l) τ H K=(oK (builtinF P .max ts.toList (args.toList.map (zaw τ)))<|tg fun x=>sT P KT sm ops l (τ.put d x) H K):=rfl
theorem jpu{args:Array Operand}{ts:Array TypeId}:sT P KT sm ops (⟨d,.call ⟨.builtin .min,args,ts⟩,ty,pos,af,none⟩::l) τ H K=(oK (builtinF P .min ts.toList (args.toList.map (zaw τ)))<|tg fun x=>sT P KT sm ops l (τ.put d x) H K):=rfl
theorem ja6{f:FuncId}{args:Array Operand}{ts:Array TypeId}:sT P KT sm ops (⟨d,.call ⟨.value (.func f),args,ts⟩,ty,pos,af,none⟩::l) τ H K=(kC P sm H.length H τ ((zaw τ (.func f))) (args.toList.map (zaw τ)) true<|tg fun x H'=>sT P KT sm ops l (τ.put d x) H' K):=rfl
theorem ja7{f:FuncId}{args:Array Operand}{ts:Array TypeId}:sE P KT ops N i r m (⟨d,.call ⟨.value (.func f),args,ts⟩,ty,pos,af,none⟩::l) τ H sh KD=(kC P [] N H τ ((zaw τ (.func f))) (args.toList.map (zaw τ)) false<|tg fun x _=>sE P KT ops N (i+1) r m l (τ.put d x) H sh KD):=rfl
theorem ja8{f:Nat}{args:Array Operand}{ts:Array TypeId}:sT P KT sm ops (⟨d,.call ⟨.value (.tmp f),args,ts⟩,ty,pos,af,none⟩::l) τ H K=(kC P sm H.length H τ ((zaw τ (.tmp f))) (args.toList.map (zaw τ)) true<|tg fun x H'=>sT P KT sm ops l (τ.put d x) H' K):=rfl
theorem ja9{f:Nat}{args:Array Operand}{ts:Array TypeId}:sE P KT ops N i r m (⟨d,.call ⟨.value (.tmp f),args,ts⟩,ty,pos,af,none⟩::l) τ H sh KD=(kC P [] N H τ ((zaw τ (.tmp f))) (args.toList.map (zaw τ)) false<|tg fun x _=>sE P KT ops N (i+1) r m l (τ.put d x) H sh KD):=rfl
theorem jpv{t:TypeId}{y:Operand}:sT P KT sm ops (⟨d,.box t y,ty,pos,af,none⟩::l) τ H K=(oK (layF P H.length (zaw τ) (.box t y) H)<|tg fun p=>sT P KT sm ops l (τ.put d p.1) (deadH H p.2.2++[p.2.1]) K):=rfl
theorem jba{t:TypeId}:sT P KT sm ops (⟨d,.alloc t,ty,pos,af,none⟩::l) τ H K=(oK (layF P H.length (zaw τ) (.alloc t) H)<|tg fun p=>sT P KT sm ops l (τ.put d p.1) (deadH H p.2.2++[p.2.1]) K):=rfl
theorem jbb{t:TypeId}:sE P KT ops N i r m (⟨d,.alloc t,ty,pos,af,none⟩::l) τ H sh KD=(oK (layEF P N r (zyy m af.toList) (zaw τ) (.alloc t) H sh)<|tg fun p=>sE P KT ops N (i+1) (r+1) ((i,r)::m) l (τ.put d p.1) p.2.1 p.2.2 KD):=rfl
theorem jic{t:TypeId}{y z:Operand}:sT P KT sm ops (⟨d,.makeSlice t y z,ty,pos,af,none⟩::l) τ H K=(oK (layF P H.length (zaw τ) (.makeSlice t y z) H)<|tg fun p=>sT P KT sm ops l (τ.put d p.1) (deadH H p.2.2++[p.2.1]) K):=rfl
theorem jid{t:TypeId}{y z:Operand}:sE P KT ops N i r m (⟨d,.makeSlice t y z,ty,pos,af,none⟩::l) τ H sh KD=(oK (layEF P N r (zyy m af.toList) (zaw τ) (.makeSlice t y z) H sh)<|tg fun p=>sE P KT ops N (i+1) (r+1) ((i,r)::m) l (τ.put d p.1) p.2.1 p.2.2 KD):=rfl
theorem jyy{t:TypeId}{n:Nat}{ps:Array (Nat × Operand)}:sT P KT sm ops (⟨d,.buildSlice t n ps,ty,pos,af,none⟩::l) τ H K=(oK (layF P H.length (zaw τ) (.buildSlice t n ps) H)<|tg fun p=>sT P KT sm ops l (τ.put d p.1) (deadH H p.2.2++[p.2.1]) K):=rfl
theorem jyz{t:TypeId}{n:Nat}{ps:Array (Nat × Operand)}:sE P KT ops N i r m (⟨d,.buildSlice t n ps,ty,pos,af,none⟩::l) τ H sh KD=(oK (layEF P N r (zyy m af.toList) (zaw τ) (.buildSlice t n ps) H sh)<|tg fun p=>sE P KT ops N (i+1) (r+1) ((i,r)::m) l (τ.put d p.1) p.2.1 p.2.2 KD):=rfl
theorem jpw{args:Array Operand}{ts:Array TypeId}:sT P KT sm ops (⟨d,.call ⟨.builtin .append,args,ts⟩,ty,pos,af,none⟩::l) τ H K=(oK (layF P H.length (zaw τ) (.call ⟨.builtin .append,args,ts⟩) H)<|tg fun p=>sT P KT sm ops l (τ.put d p.1) (deadH H p.2.2++[p.2.1]) K):=rfl
theorem jpx{args:Array Operand}{ts:Array TypeId}:sE P KT ops N i r m (⟨d,.call ⟨.builtin .append,args,ts⟩,ty,pos,af,none⟩::l) τ H sh KD=(oK (layEF P N r (zyy m af.toList) (zaw τ) (.call ⟨.builtin .append,args,ts⟩) H sh)<|tg fun p=>sE P KT ops N (i+1) (r+1) ((i,r)::m) l (τ.put d p.1) p.2.1 p.2.2 KD):=rfl
theorem jy0{t:TypeId}{y:Option Operand}:sT P KT sm ops (⟨d,.makeMap t y,ty,pos,af,none⟩::l) τ H K=(oK (layF P H.length (zaw τ) (.makeMap t y) H)<|tg fun p=>sT P KT sm ops l (τ.put d p.1) (deadH H p.2.2++[p.2.1]) K):=rfl
theorem jbc{t:TypeId}{y z:Operand}:sT P KT sm ops (⟨d,.store t y z,ty,pos,af,none⟩::l) τ H K=(oK (storeF P t (zaw τ y) (zaw τ z) H [] 0)<|tg fun H'=>sT P KT sm ops l (τ.put d (.d (.val undef))) H' K):=rfl
theorem jbd{t:TypeId}{y z:Operand}:sE P KT ops N i r m (⟨d,.store t y z,ty,pos,af,none⟩::l) τ H sh KD=(oK (storeF P t (zaw τ y) (zaw τ z) H sh (if zev ops ⟨d,.store t y z,ty,pos,af,none⟩then N else 0))<|tg fun H'=>sE P KT ops N (i+1) r m l (τ.put d (.d (.val undef))) H' sh KD):=rfl
theorem jy1{t:TypeId}{y z u:Operand}:sT P KT sm ops (⟨d,.mapUpdate t y z u,ty,pos,af,none⟩::l) τ H K=(oK (zuk P KT (zaw τ) (.mapUpdate t y z u) H [])<|tg fun p=>sT P KT sm ops l (τ.put d p.1) p.2 K):=rfl
theorem jpy{t:TypeId}{y z u:Operand}:sT P KT sm ops (⟨d,.insert t y z u,ty,pos,af,none⟩::l) τ H K=(oK (zuk P KT (zaw τ) (.insert t y z u) H [])<|tg fun p=>sT P KT sm ops l (τ.put d p.1) p.2 K):=rfl
theorem ymt{j:Nat}{want:Bool}(hl:lays [] ⟨d,op,ty,pos,af,none⟩=false):sE P KT ops N i r m (⟨d,op,ty,pos,af,some (j,want)⟩::l) τ H sh KD=gK (zc2 ops τ ⟨d,op,ty,pos,af,some (j,want)⟩) (tg (sE P KT ops N i r m (⟨d,op,ty,pos,af,none⟩::l) τ H sh KD)) (tg (sE P KT ops N (i+1) r m l (τ.put d (.d (.val undef))) H sh KD)):=by
 have h1:lays [] ⟨d,op,ty,pos,af,some (j,want)⟩=false:=hl
 have h2:zev ops ⟨d,op,ty,pos,af,some (j,want)⟩=zev ops ⟨d,op,ty,pos,af,none⟩:=rfl
 show _=GK _ _ _
 simp only[sE,h1,hl,h2,Bool.false_eq_true,if_false];rfl
theorem yhx{j:Nat}{want:Bool}(hl:lays [] ⟨d,op,ty,pos,af,none⟩=true):sE P KT ops N i r m (⟨d,op,ty,pos,af,some (j,want)⟩::l) τ H sh KD=gK (zc2 ops τ ⟨d,op,ty,pos,af,some (j,want)⟩) (tg (sE P KT ops N i r m (⟨d,op,ty,pos,af,none⟩::l) τ H sh KD)) (tg (sE P KT ops N (i+1) (r+1) ((i,r)::m) l (τ.put d (.d (.val undef))) H sh KD)):=by
 have h1:lays [] ⟨d,op,ty,pos,af,some (j,want)⟩=true:=hl
 have h2:zev ops ⟨d,op,ty,pos,af,some (j,want)⟩=zev ops ⟨d,op,ty,pos,af,none⟩:=rfl
 show _=GK _ _ _
 simp only[sE,h1,hl,h2,if_true];rfl
theorem jy2{j:Nat}{want:Bool}:sE P KT ops N i r m (⟨d,op,ty,pos,af,some (j,want)⟩::l) τ H sh KD=gK (zc2 ops τ ⟨d,op,ty,pos,af,some (j,want)⟩) (tg (sE P KT ops N i r m (⟨d,op,ty,pos,af,none⟩::l) τ H sh KD)) (tg (sE P KT ops N (i+1) (if lays [] ⟨d,op,ty,pos,af,none⟩then r+1 else r) (if lays [] ⟨d,op,ty,pos,af,none⟩then(i,r)::m else m) l (τ.put d (.d (.val undef))) H sh KD)):=by
 cases hl:lays [] ⟨d,op,ty,pos,af,none⟩with
 |false=>rw[ymt hl];rfl
 |true=>rw[yhx hl];rfl
theorem zbl{f:FuncId}{args:List AV}{ds:List D}{x:AV}{inl:Bool}{KK:AV→zad→Prop}(hp:za2 P f ds x)(hd:AV.toD.toDs args=some ds)(hK:KK x H):kC P sm N H τ (.d (.val (.func (.func f) #[] #[]))) args inl (tg KK):=.inl (jhe hp hd hK)
theorem zta{f:FuncId}{args:List AV}{ds:List D}{v:Value}{inl:Bool}{KK:AV→zad→Prop}(hp:za2 P f ds (.d (.val v)))(hd:zel (zfv H N) 9 args=some ds)(hK:KK (.d (.val v)) H):kC P sm N H τ (.d (.val (.func (.func f) #[] #[]))) args inl (tg KK):=.inl (jmi (KA:=fun x=>KK x H) hp hd hK)
theorem jie{f:FuncId}{args:List AV}{ds:List D}{x:AV}{inl:Bool}{KK:AV→zad→Prop}(hp:zji P f ds x)(hd:zel (zfv H N) 9 args=some ds)(hK:KK x H):kC P sm N H τ (.d (.val (.func (.func f) #[] #[]))) args inl (tg KK):=.inl (jmj (KA:=fun x=>KK x H) hp hd hK)
theorem jif{f:FuncId}{args:List AV}{ds:List D}{Q:AV→Prop}{KK:AV→zad→Prop}(hp:zg5 P f ds Q)(hd:AV.toD.toDs args=some ds)(hK:∀x,Q x→KK x H):kC P sm N H τ (.d (.val (.func (.func f) #[] #[]))) args true (tg KK):=
 .inr (.inl ⟨rfl,f,[],[],rfl,.inr (.inl ⟨ds,Q,by simpa using hd,hp,hK⟩)⟩)
theorem jy3{f:FuncId}{args:List AV}{KK:AV→zad→Prop}(h:IcS P f args H KK):kC P sm N H τ (.d (.val (.func (.func f) #[] #[]))) args true (tg KK):=
 .inr (.inl ⟨rfl,f,[],[],rfl,.inl (by simpa using h)⟩)
theorem jt0{f:FuncId}{args:List AV}{KK:AV→zad→Prop}(h:IcK P f args H KK):kC P sm N H τ (.d (.val (.func (.func f) #[] #[]))) args true (tg KK):=jy3 h.sem
theorem zut{f:FuncId}{fi ca:List D}{args:List AV}{ds:List D}{x:AV}{inl:Bool}{KK:AV→zad→Prop}(hp:za2 P f (fi++ds++ca) x)(hd:AV.toD.toDs (fi.map .d++args++ca.map .d)=some (fi++ds++ca))(hK:KK x H):kC P sm N H τ (.d (.clo (.func f) fi ca)) args inl (tg KK):=
 .inl ⟨x,⟨f,fi.map .d,ca.map .d,fi++ds++ca,rfl,.inl ⟨.inl hd,hp⟩⟩,hK⟩
theorem jpz{f:FuncId}{args:List AV}{K0 KK:AV→zad→Prop}(h:IcS P f args H K0)(hK:∀x H',K0 x H'→KK x H'):kC P sm N H τ (.d (.val (.func (.func f) #[] #[]))) args true (tg KK):=jy3 (h.mono hK)
theorem zk7{f:FuncId}{args:List AV}{S T:zad}{K0 KK:AV→zad→Prop}{ks:List Nat}(h:ScS P ks f args S K0)(hH:H=S++T)(hm:sm.all (okI ks S.length)=true)(hτ:∀t,(τ t).allI (okI ks S.length)=true)(ha:AV.allIs (ltI S.length) args=true)
  (hS:∀o∈S,o.allI (ltI S.length)=true) (hT:∀o∈T,o.allI (okI ks S.length)=true) (hK:∀x S',K0 x S'→S'.length=S.length∧KK x (S'++T)):kC P sm N H τ (.d (.val (.func (.func f) #[] #[]))) args true (tg KK):=
 .inr (.inl ⟨rfl,f,[],[],rfl,.inr (.inr ⟨ks,S,T,K0,hH,hm,hτ,by simpa using ha,hS,hT,by simpa using h,hK⟩)⟩)
theorem zow{f:FuncId}{fi ca args:List AV}{S T:zad}{K0 KK:AV→zad→Prop}{ks:List Nat}(h:ScS P ks f (fi++args++ca) S K0)(hH:H=S++T)(hm:sm.all (okI ks S.length)=true)(hτ:∀t,(τ t).allI (okI ks S.length)=true)(ha:AV.allIs (ltI S.length) (fi++args++ca)=true)
  (hS:∀o∈S,o.allI (ltI S.length)=true) (hT:∀o∈T,o.allI (okI ks S.length)=true) (hK:∀x S',K0 x S'→S'.length=S.length∧KK x (S'++T)):kC P sm N H τ (.clo (.func f) fi ca) args true (tg KK):=
 .inr (.inl ⟨rfl,f,fi,ca,rfl,.inr (.inr ⟨ks,S,T,K0,hH,hm,hτ,ha,hS,hT,h,hK⟩)⟩)
theorem zbi{p:Nat→Bool}{l:List (Nat × AV)}(h:AV.allIs p (l.map (·.2))=true)(t:Nat):(frL l t).allI p=true:=by
 induction l with
 |nil=>rfl
 |cons a l ih=>
  obtain⟨d,x⟩:=a
  rw[List.map_cons,AV.allIs,qar]at h
  rw[zn0]
  split
  ·exact h.1
  ·exact ih h.2
end
end
section
section
variable {P:Program} {t:TypeId} {a b:Int} {kk:IntKind}
theorem ifp{α:Type}{c:Prop}[Decidable c]{x y:α}(h:c):(if c then x else y)=x:=if_pos h
theorem ifn{α:Type}{c:Prop}[Decidable c]{x y:α}(h:¬c):(if c then x else y)=y:=if_neg h
theorem jp0{op:BinOp}{u v:Value}:zwa P op t (.d (.val u)) (.d (.val v))=(zg0 P op t u v).map fun r=>.d (.val r):=rfl
def jig:Option Value→Option Value→Option Bool→Option Bool
 |some (.int k x),some (.int k' y),r=>if k=k' then r.map fun r=>(x==y)&&r else none
 |_,_,_=>none
theorem jih{a b:List Value}:zgr a b []=some true:=rfl
def ykm:Option Value→Option Value→Option Bool→Option Bool
 |some (.bool x),some (.bool y),r=>r.map fun r=>(x==y)&&r
 |_,_,_=>none
theorem jbe{x y:Bool}{r:Option Bool}:ykm (some (.bool x)) (some (.bool y)) r=r.map fun r=>(x==y)&&r:=rfl
theorem jbf{a b:List Value}{o:Nat}{os:List (Nat × Bool)}:zgr a b ((o,true)::os)=ykm a[o]? b[o]? (zgr a b os):=by
 rw[zgr]
 generalize a[o]? =x
 generalize b[o]? =y
 cases x with
 |none=>cases y<;>rfl
 |some u=>
  cases y with
  |none=>cases u<;>rfl
  |some v=>cases u<;>cases v<;>rfl
theorem jbg{a b:List Value}{o:Nat}{os:List (Nat × Bool)}:zgr a b ((o,false)::os)=jig a[o]? b[o]? (zgr a b os):=by
 rw[zgr]
 generalize a[o]? =x
 generalize b[o]? =y
 cases x with
 |none=>cases y<;>rfl
 |some u=>
  cases y with
  |none=>cases u<;>rfl
  |some v=>cases u<;>cases v<;>rfl
theorem jii{k:IntKind}{x y:Int}{r:Option Bool}:jig (some (.int k x)) (some (.int k y)) r=r.map fun r=>(x==y)&&r:=by simp[jig]
def eqB(P:Program)(t:TypeId)(a b:Option (List Value)):Option Bool:=(jx9 P t).bind fun os=>a.bind fun a=>b.bind fun b=>zgr a b os
theorem jy4{l m:List AV}:zwa P .eql t (.agg l) (.agg m)=(eqB P t (zes l) (zes m)).map fun b=>.d (.val (.bool b)):=rfl
theorem jy5{l:List D}{m:List AV}:zwa P .eql t (.d (.agg l)) (.agg m)=(eqB P t (zes (l.map .d)) (zes m)).map fun b=>.d (.val (.bool b)):=rfl
theorem jy6{l:List AV}{m:List D}:zwa P .eql t (.agg l) (.d (.agg m))=(eqB P t (zes l) (zes (m.map .d))).map fun b=>.d (.val (.bool b)):=rfl
theorem jy7{l m:List D}:zwa P .eql t (.d (.agg l)) (.d (.agg m))=(eqB P t (zes (l.map .d)) (zes (m.map .d))).map fun b=>.d (.val (.bool b)):=rfl
theorem jy8{l m:List AV}:zwa P .neq t (.agg l) (.agg m)=((eqB P t (zes l) (zes m)).map (!·)).map fun b=>.d (.val (.bool b)):=rfl
theorem jy9{l:List D}{m:List AV}:zwa P .neq t (.d (.agg l)) (.agg m)=((eqB P t (zes (l.map .d)) (zes m)).map (!·)).map fun b=>.d (.val (.bool b)):=rfl
theorem jza{l:List AV}{m:List D}:zwa P .neq t (.agg l) (.d (.agg m))=((eqB P t (zes l) (zes (m.map .d))).map (!·)).map fun b=>.d (.val (.bool b)):=rfl
theorem jzb{l m:List D}:zwa P .neq t (.d (.agg l)) (.d (.agg m))=((eqB P t (zes (l.map .d)) (zes (m.map .d))).map (!·)).map fun b=>.d (.val (.bool b)):=rfl
theorem jp1{os:List (Nat × Bool)}{a b:List Value}(h:jx9 P t=some os):eqB P t (some a) (some b)=zgr a b os:=by unfold eqB;rw[h];rfl
theorem jzc(h1: -9223372036854775808≤a+b)(h2:a+b<9223372036854775808):zg0 P .add t (.int .i64 a) (.int .i64 b)=some (.int .i64 (a+b)):=by simp[zg0,zub,jyg h1 h2]
theorem jzd(h1: -9223372036854775808≤a - b)(h2:a - b<9223372036854775808):zg0 P .sub t (.int .i64 a) (.int .i64 b)=some (.int .i64 (a - b)):=by simp[zg0,zub,jyg h1 h2]
theorem jze(h1: -9223372036854775808≤a*b)(h2:a*b<9223372036854775808):zg0 P .mul t (.int .i64 a) (.int .i64 b)=some (.int .i64 (a*b)):=by simp[zg0,zub,jyg h1 h2]
theorem jzf(h1:0≤a)(h2:0<b)(h3:a<9223372036854775808):zg0 P .quo t (.int .i64 a) (.int .i64 b)=some (.int .i64 (a / b)):=by
 have:=yho (P:=P) (t:=t) (KV:=fun r=>r= .int .i64 (a / b)) h1 h2 h3
 obtain⟨r,hr,e⟩:=this.mpr rfl
 rw[hr,e]
theorem jzg(h1:0≤a)(h2:0<b):zg0 P .rem t (.int kk a) (.int kk b)=some (.int kk (a % b)):=by
 obtain⟨r,hr,e⟩:=(yhp (P:=P) (t:=t) (kk:=kk) (KV:=fun r=>r= .int kk (a % b)) h1 h2).mpr rfl
 rw[hr,e]
theorem jzh:zg0 P .eql t (.int kk a) (.int kk b)=some (.bool (a==b)):=by simp[zg0,zub,jtk]
theorem jzi:zg0 P .neq t (.int kk a) (.int kk b)=some (.bool (a !=b)):=by simp[zg0,zub,jtk]
theorem jzj:zg0 P .lss t (.int kk a) (.int kk b)=some (.bool (decide (a<b))):=by simp[zg0,zub,jtk]
theorem jzk:zg0 P .leq t (.int kk a) (.int kk b)=some (.bool (decide (a≤b))):=by simp[zg0,zub,jtk]
theorem jzl:zg0 P .gtr t (.int kk a) (.int kk b)=some (.bool (decide (b<a))):=by simp[zg0,zub,jtk]
theorem jzm:zg0 P .geq t (.int kk a) (.int kk b)=some (.bool (decide (b≤a))):=by simp[zg0,zub,jtk]
theorem jp2{a b:Bool}:zg0 P .neq t (.bool a) (.bool b)=if znu P t=true then some (.bool (a !=b))else none:=rfl
theorem jzn(h:0≤b):zg0 P .shl t (.int .i64 a) (.int kk b)=some (.int .i64 (IntKind.i64.wrap (a*2^min b.toNat 64))):=by simp[zg0,zub,show ¬b<0 by omega,IntKind.bits]
theorem jzo(h:0≤b):zg0 P .shr t (.int .i64 a) (.int kk b)=some (.int .i64 (a.fdiv (2^min b.toNat 64))):=by simp[zg0,zub,show ¬b<0 by omega,IntKind.bits]
theorem jzp:zg0 P .and t (.int .i64 a) (.int .i64 b)=some (.int .i64 (zr9 .and .i64 a b)):=by simp[zg0,zub]
theorem ykn:zg0 P .or t (.int .i64 a) (.int .i64 b)=some (.int .i64 (zr9 .or .i64 a b)):=by simp[zg0,zub]
theorem jzq:zg0 P .xor t (.int .i64 a) (.int .i64 b)=some (.int .i64 (zr9 .xor .i64 a b)):=by simp[zg0,zub]
theorem jzr{b:Bool}:unF .not (.d (.val (.bool b)))=some (.d (.val (.bool (!b)))):=rfl
end
end
end Go.Proofs.YtapjobndmmkanaaGreat
