/- Of no program: objects that are no more needed are dropped, the others numbered anew. -/
import Derived.Test.YtfolbdkbpmgjgaaAJ
set_option linter.unusedVariables false
set_option linter.unusedSimpArgs false
namespace Go.Proofs.Ytfolbdkbpmgjgaa
open Go Go.RowKit
section
def posN:List Nat→Nat→Option Nat
 |[],_=>none
 |a::l,x=>if x=a then some 0 else(posN l x).map (·+1)
theorem zqx:∀{l:List Nat} {x j:Nat},posN l x=some j→l[j]? =some x
 |[],_,_,h=>by cases h
 |a::l,x,j,h=>by
  unfold posN at h
  split at h
  ·rename_i e;cases h;rw[e];rfl
  ·obtain⟨i,hi,rfl⟩:=Option.map_eq_some_iff.1 h
   simpa using zqx hi
mutual
def gcV(keep:List Nat):AV→AV
 | .any=>.any
 | .d x=>.d x
 | .os k id off n=>match posN keep id with|some j=>.os k j off n|none=>.any
 | .op id off=>match posN keep id with|some j=>.op j off|none=>.any
 | .om id=>match posN keep id with|some j=>.om j|none=>.any
 | .agg cs=>.agg (gcVs keep cs)
 | .tup cs=>.tup (gcVs keep cs)
 | .clo fn fi ca=>.clo fn (gcVs keep fi) (gcVs keep ca)
def gcVs(keep:List Nat):List AV→List AV
 |[]=>[]
 |x::l=>gcV keep x::gcVs keep l
end
def gcO(keep:List Nat):AObj→AObj
 | .free=>.free
 | .dead=>.dead
 | .cells cs=>.cells (gcVs keep cs)
 | .map es clock=>.map (es.map fun e=>(e.1,e.2.1,gcV keep e.2.2)) clock
 | .loop b r fr=>.loop b r (gcVs keep fr)
def gcH(keep:List Nat)(H:zaa):zaa:=keep.map fun i=>gcO keep (H.getD i .dead)
theorem zdz(keep:List Nat):∀cs:List AV,gcVs keep cs=cs.map (gcV keep)
 |[]=>rfl
 |x::l=>by rw[gcVs,zdz keep l];rfl
theorem joy(keep:List Nat)(x:D):gcV keep (.d x)= .d x:=by rw[gcV]
theorem ji9(keep:List Nat)(ds:List D):gcVs keep (ds.map .d)=ds.map .d:=by
 rw[zdz,List.map_map]
 exact List.map_congr_left fun x _=>joy keep x
theorem zzw(keep:List Nat)(o:AObj):(gcO keep o).live=o.live:=by cases o<;>rfl
section
variable {P:Program} {c:Cx} {τ:Fr} {a:Act} {w:World} {pl:List (Option (Nat × Nat))} {H:zaa} {Q:Exit→Fr→zaa→Prop}
def gcP(keep:List Nat)(pl:List (Option (Nat × Nat))):List (Option (Nat × Nat)):=keep.map fun i=>pl.getD i none
theorem zgi{keep:List Nat}{j i:Nat}(h:keep[j]? =some i){p:Option (Nat × Nat)}(hp:pl[i]? =some p):(gcP keep pl)[j]? =some p:=by
 unfold gcP
 rw[List.getElem?_map,h,Option.map_some,List.getD_eq_getElem?_getD,hp];rfl
theorem zzx{keep:List Nat}{j:Nat}{p:Nat × Nat}(h:(gcP keep pl)[j]? =some (some p)):∃i,keep[j]? =some i∧pl[i]? =some (some p):=by
 unfold gcP at h
 rw[List.getElem?_map,Option.map_eq_some_iff]at h
 obtain⟨i,hi,he⟩:=h
 refine⟨i,hi,?_⟩
 rw[List.getD_eq_getElem?_getD]at he
 cases hq:pl[i]? with
 |none=>rw[hq]at he;cases he
 |some q=>rw[hq]at he;exact congrArg some he
theorem zzy{keep:List Nat}{own own':Nat→Prop}(hw:∀b,own' b→own b){x:AV}{v:Value}(h:Rd w pl own x v):Rd w (gcP keep pl) own' (gcV keep x) v:=by
 have place:∀{id j b base:Nat},posN keep id=some j→pl[id]? =some (some (b,base))→(gcP keep pl)[j]? =some (some (b,base)):=fun hj hp=>zgi (zqx hj) hp
 have gets:∀{cs:List AV} {j:Nat} {y:AV},(gcVs keep cs)[j]? =some y→∃x,cs[j]? =some x∧y=gcV keep x:=fun{cs j y} h=>by
  rw[zdz,List.getElem?_map,Option.map_eq_some_iff]at h
  obtain⟨x,hx,rfl⟩:=h
  exact⟨x,hx,rfl⟩
 induction h with
 |any v=>rw[gcV];exact .any v
 |d x v h=>rw[gcV];exact .d _ _ (h.mono (Nat.le_refl _) (fun _ _ _=>rfl) (fun b _ hb=>hw b hb))
 |os k id off n cap b base sz t h1 h2 h3 h4 h5=>
  rw[gcV]
  split
  ·rename_i j hj;exact .os k j off n cap b base sz t (place hj h1) h2 h3 h4 h5
  ·exact .any _
 |os0 k id off ad=>
  rw[gcV]
  split
  ·exact .os0 _ _ _ _
  ·exact .any _
 |op id off b base h1=>
  rw[gcV]
  split
  ·rename_i j hj;exact .op j off b base (place hj h1)
  ·exact .any _
 |om id b base h1=>
  rw[gcV]
  split
  ·rename_i j hj;exact .om j b base (place hj h1)
  ·exact .any _
 |agg cs vs hl _ ih=>
  rw[gcV]
  refine .agg _ _ (by rw[zdz];simpa using hl) fun j y hj=>?_
  obtain⟨x,hx,rfl⟩:=gets hj
  exact ih j x hx
 |tup cs vs hl _ ih=>
  rw[gcV]
  refine .tup _ _ (by rw[zdz];simpa using hl) fun j y hj=>?_
  obtain⟨x,hx,rfl⟩:=gets hj
  exact ih j x hx
 |clo fn fi ca vs us hl _ hl' _ ih ih'=>
  rw[gcV]
  refine .clo _ _ _ _ _ (by rw[zdz];simpa using hl) (fun j y hj=>?_) (by rw[zdz];simpa using hl') (fun j y hj=>?_)
  ·obtain⟨x,hx,rfl⟩:=gets hj
   exact ih j x hx
  ·obtain⟨x,hx,rfl⟩:=gets hj
   exact ih' j x hx
theorem R.gc{m:List Nat}(hp:Kp c m){keep:List Nat}(hk:∀i∈m,keep[i]? =some i)(hn:keep.Nodup)(hb:∀i∈keep,i<H.length)(hR:R c τ H [] a w):R c (fun t=>gcV keep (τ t)) (gcH keep H) [] a w:=by
 obtain⟨pl,h⟩:=hR
 have back:∀{j:Nat} {o':AObj},(gcH keep H)[j]? =some o'→∃i o,keep[j]? =some i∧H[i]? =some o∧o'=gcO keep o:=fun{j o'} hj=>by
  unfold gcH at hj
  rw[List.getElem?_map,Option.map_eq_some_iff]at hj
  obtain⟨i,hi,rfl⟩:=hj
  have hlt:=hb i (List.mem_of_getElem? hi)
  exact⟨i,H[i],hi,List.getElem?_eq_getElem hlt,by rw[List.getD_eq_getElem?_getD,List.getElem?_eq_getElem hlt];rfl⟩
 have placed:∀{j:Nat} {o':AObj} {p:Nat × Nat},(gcH keep H)[j]? =some o'→o'.live=true→(gcP keep pl)[j]? =some (some p)→∃i o,keep[j]? =some i∧H[i]? =some o∧o.live=true∧pl[i]? =some (some p):=fun{j o' p} hj hl hpj=>by
  obtain⟨i,o,h1,h2,rfl⟩:=back hj
  obtain⟨i',h3,h4⟩:=zzx hpj
  rw[h1]at h3;cases h3
  exact⟨i,o,h1,h2,by rw[zzw]at hl;exact hl,h4⟩
 have hown:∀b,za4 c.E (gcH keep H) (gcP keep pl) b→za4 c.E H pl b:=fun b hbo=>by
  rcases hbo with hbo|⟨j,o',e,h1,h2,h3⟩
  ·exact .inl hbo
  ·obtain⟨i,o,_,k2,k3,k4⟩:=placed h1 h2 h3
   exact .inr ⟨i,o,e,k2,k3,k4⟩
 refine⟨gcP keep pl,⟨by simp[gcP,gcH],fun j o' hj=>?_,fun i j oi oj p q h1 h2 l1 l2 hne _ _ p1 p2=>?_,fun i o p h1 l1 p1=>?_,fun p hp=>(by cases hp),fun i j ci cj p q hm=>(by cases hm)⟩,h.stp,fun i o p h1 l1 p1=>?_,h.ext,fun t=>zzy hown (h.fr t),h.size,h.defs.sub (fun b ⟨j,o',e,h1,h2,h3⟩=>let⟨i,o,_,k2,k3,k4⟩:=placed h1 h2 h3;⟨i,o,e,k2,k3,k4⟩),fun i p hi=>by
  exact zgi (hk i (hp i p hi)) (h.keep i p hi)⟩
 ·obtain⟨i,o,h1,h2,rfl⟩:=back hj
  have ho:=h.h.obj i o h2
  cases o with
  |free=>exact zgi h1 ho
  |dead=>trivial
  |cells cs=>
   rcases ho with⟨k1,k2⟩|⟨b,base,arr,t,k1,k2,k3,k4⟩
   ·exact .inl ⟨by subst k1;rfl,zgi h1 k2⟩
   ·refine .inr ⟨b,base,arr,t,zgi h1 k1,k2,by rw[zdz];simpa using k3,fun j y hj=>?_⟩
    rw[zdz,List.getElem?_map,Option.map_eq_some_iff]at hj
    obtain⟨x,hx,rfl⟩:=hj
    exact⟨zzy hown (k4 j x hx).1,(k4 j x hx).2⟩
  |map es clock=>
   obtain⟨b,base,ms,k1,k2,k3,k4,k5⟩:=ho
   refine⟨b,base,ms,zgi h1 k1,k2,by simpa using k3,by rw[List.map_map];exact k4,fun j e k n x hj hx=>?_⟩
   rw[List.getElem?_map,Option.map_eq_some_iff]at hx
   obtain⟨⟨k',n',x'⟩,hx',he⟩:=hx
   cases he
   obtain⟨m1,m2,m3⟩:=k5 j e k' n' x' hj hx'
   exact⟨m1,m2,zzy hown m3⟩
  |loop b r fr=>
   obtain⟨base,k1,k2,k3⟩:=ho
   refine⟨base,zgi h1 k1,k2,fun j y hj=>?_⟩
   rw[zdz,List.getElem?_map,Option.map_eq_some_iff]at hj
   obtain⟨x,hx,rfl⟩:=hj
   exact zzy hown (k3 j x hx)
 ·obtain⟨i',o1,a1,a2,a3,a4⟩:=placed h1 l1 p1
  obtain⟨j',o2,b1,b2,b3,b4⟩:=placed h2 l2 p2
  refine h.h.dis i' j' o1 o2 p q a2 b2 a3 b3 (fun e=>?_) (by simp) (by simp) a4 b4
  subst e
  have hnd:=List.pairwise_iff_getElem.1 hn
  obtain⟨m1,g1⟩:=List.getElem?_eq_some_iff.1 a1
  obtain⟨m2,g2⟩:=List.getElem?_eq_some_iff.1 b1
  rcases Nat.lt_trichotomy i j with hl|hl|hl
  ·exact hnd i j m1 m2 hl (g1.trans g2.symm)
  ·exact hne hl
  ·exact hnd j i m2 m1 hl (g2.trans g1.symm)
 ·obtain⟨i',o1,a1,a2,a3,a4⟩:=placed h1 l1 p1
  exact h.h.ext i' o1 p a2 a3 a4
 ·obtain⟨i',o1,a1,a2,a3,a4⟩:=placed h1 l1 p1
  exact h.own0 i' o1 p a2 a3 a4
theorem zg1{f:FuncId}{fn:Func}{code:Code}{ds:List D}{Q:AV→zaa→Prop}{E:Nat→Prop}{vals:Array Value}(hf:P.funcs[f]? =some fn)(hb:fn.body=some code)(hn:ds.length≤fn.ntmps)(h:∀c:Cx,c.nt=fn.ntmps→Kp c []→Top c→AWp P c code (zer P fn Q) (zf4 ds) [])
  (hl:vals.size=ds.length) (hx:∀j x,ds[j]? =some x→RdD w E x (vals.getD j undef)) (hE:∀b,E b→b<w.heap.size):
  Calls P f vals w fun e w'=>∃v x H' a' pl τ',e= .returned v∧Q x H'∧Rd w' pl (za4 E H' pl) x v∧RelS ⟨E,w,fun _=>False,fn.ntmps,[],none,w.heap.size⟩ τ' H' [] pl a' w':=by
 have hR:R ⟨E,w,fun _=>False,fn.ntmps,[],none,w.heap.size⟩ (zf4 ds) [] [] {tmps:=vals++Array.replicate (fn.ntmps - vals.size) undef,defers:=[]} w:=by
  refine⟨[],⟨rfl,fun id o ho=>by simp at ho,fun i j oi oj p q h1=>by simp at h1,fun i o p h1=>by simp at h1,fun p hp=>(by cases hp),fun i j ci cj p q hm=>(by cases hm)⟩,Stp.refl _ _,fun id o p h1=>by simp at h1,hE,fun t=>?_,by simp;omega,Dfk.nil,fun i p hi=>by simp at hi⟩
  simp only[zi4]
  unfold zf4
  rw[List.getD_eq_getElem?_getD,List.getElem?_map]
  cases hd:ds[t]? with
  |none=>
   have:vals.size≤t:=by rw[hl];exact List.getElem?_eq_none_iff.1 hd
   simp only[Array.getD,dif_neg (Nat.not_lt.2 this)]
   exact .d _ _ (.val _)
  |some x=>exact .d _ _ ((hx t x hd).mono (Nat.le_refl _) (fun _ _ _=>rfl) (fun b _ hb=>by
   rcases hb with hb|⟨i,o,e,h1,_⟩
   ·exact hb
   ·simp at h1))
 exact zfb (c:=⟨E,w,fun _=>False,fn.ntmps,[],none,w.heap.size⟩) rfl (Nat.le_refl _) hf hb (h _ rfl (Kp.none rfl) ⟨rfl,Nat.le_refl _⟩ _ w hR) fun τ' H' pl' a' w' x v h1 k1 k2=>⟨v,x,H',a',pl',τ',rfl,k1,k2,h1⟩
theorem zfu{f:FuncId}{fn:Func}{code:Code}{ds:List D}{r:AV}(he:zk7 P f=true)(hf:P.funcs[f]? =some fn)(hb:fn.body=some code)(hn:ds.length≤fn.ntmps)
  (h:∀c:Cx,c.nt=fn.ntmps→Kp c []→Top c→AWp P c code (zer P fn fun x H=>closeA H x=some r) (zf4 ds) []):zas P f ds r:=
 ⟨he,fun _ _ _ hl hx hE=>(zg1 hf hb hn h hl hx hE).mono fun _ _ ⟨v,_,_,_,_,_,h1,h2,h3,h4⟩=>⟨v,h1,zi5 h4.h h2 h3,h4.stp.to_below⟩⟩
theorem zsv{f:FuncId}{fn:Func}{code:Code}{ds:List D}{Q:AV→Prop}(he:zk7 P f=true)(hf:P.funcs[f]? =some fn)(hb:fn.body=some code)(hn:ds.length≤fn.ntmps)
  (h:∀c:Cx,c.nt=fn.ntmps→Kp c []→Top c→AWp P c code (zer P fn fun x H=>∃r,closeA H x=some r∧Q r) (zf4 ds) []):zix P f ds Q:=
 ⟨he,fun _ _ _ hl hx hE=>(zg1 hf hb hn h hl hx hE).mono fun _ _ ⟨v,_,_,_,_,_,h1,⟨r,h2,h5⟩,h3,h4⟩=>⟨v,r,h1,h5,zi5 h4.h h2 h3,h4.stp.to_below⟩⟩
theorem zau{f:FuncId}{fn:Func}{code:Code}{ds:List D}{r:AV}(he:zk7 P f=true)(hf:P.funcs[f]? =some fn)(hb:fn.body=some code)(hn:ds.length≤fn.ntmps)
  (h:∀c:Cx,c.nt=fn.ntmps→Kp c []→AWp P c code (zer P fn fun x H=>closeA H x=some r) (zf4 ds) []):zas P f ds r:=zfu he hf hb hn fun c h1 h2 _=>h c h1 h2
theorem zsw{f:FuncId}{fn:Func}{code:Code}{ds:List D}{Q:AV→Prop}(he:zk7 P f=true)(hf:P.funcs[f]? =some fn)(hb:fn.body=some code)(hn:ds.length≤fn.ntmps)
  (h:∀c:Cx,c.nt=fn.ntmps→Kp c []→AWp P c code (zer P fn fun x H=>∃r,closeA H x=some r∧Q r) (zf4 ds) []):zix P f ds Q:=zsv he hf hb hn fun c h1 h2 _=>h c h1 h2
end
section
variable {P:Program} {fr:List FuncId} {ops l:List Oper} {τ:Fr} {H:zaa} {d:Option Tmp} {ty:TypeId} {pos:String} {af:Array Edge} {K:Fr→zaa→Prop} {t:TypeId}
variable {KV:Value→Prop} {a b:Bool}
theorem zqy{n:Nat}{zs:List D}:zf2 n zs=match zs with|[z]=>List.replicate n (.d z)|zs=>(List.replicate n (zs.map AV.d)).flatten:=rfl
theorem zqz{pf:Nat→Option (Nat × Nat)}{cs:List AV}:zib pf cs []=some cs:=rfl
theorem zm9{pf:Nat→Option (Nat × Nat)}{cs:List AV}{i:Nat}{x:AV}{ps:List (Nat × AV)}:zib pf cs ((i,x)::ps)=match pf i with
  |none=>none
  |some (off,size)=>match zb2 x with
   |none=>none
   |some l=>if l.length≠size∨off+l.length>cs.length then none else zib pf (zch cs off l) ps:=rfl
theorem jcp{k:IntKind}{n:Int}:zb2 (.d (.val (.int k n)))=some [.d (.val (.int k n))]:=rfl
theorem zvm{b:Bool}:zb2 (.d (.val (.bool b)))=some [.d (.val (.bool b))]:=rfl
theorem jja{cs:List D}{n:Nat}:zb2 (.d (.fs cs n))=some [.d (.fs cs n)]:=rfl
theorem jjb{k id off n:Nat}:zb2 (.os k id off n)=some [.os k id off n]:=rfl
theorem jcq{cs:List AV}:zb2 (.agg cs)=if cs.all AV.one then some cs else none:=rfl
theorem zvn{cs:List D}:zb2 (.d (.agg cs))=if cs.all D.one then some (cs.map .d)else none:=rfl
theorem zq0{cs:List AV}{i:Nat}:zch cs i []=cs:=rfl
theorem zna{cs l:List AV}{i:Nat}{x:AV}:zch cs i (x::l)=zch (cs.set i x) (i+1) l:=rfl
end
/- Of no program: a run that simp carries out, each step in its turn. -/
end
section
def zo9{α:Type}(o:Option α)(K:α→Prop):Prop:=∃x,o=some x∧K x
theorem zc4{α:Type}{x:α}{K:α→Prop}:zo9 (some x) K=K x:=by simp[zo9]
def GK(g:Option Bool)(A B:Prop):Prop:=match g with|some true=>A|some false=>B|none=>False
inductive Tg.{u} {α:Sort u} (a:α):Type where
 |mk
def tg.{u}{α:Sort u}(a:α):Tg a:=.mk
def oK{α:Type}{K:α→Prop}(o:Option α)(_:Tg K):Prop:=zo9 o K
theorem zvo{α:Type}{x:α}{K:α→Prop}:oK (some x) (tg K)=K x:=zc4
def gK{A B:Prop}(g:Option Bool)(_:Tg A)(_:Tg B):Prop:=GK g A B
theorem jq7{A B:Prop}:gK (some true) (tg A) (tg B)=A:=rfl
theorem jq8{A B:Prop}:gK (some false) (tg A) (tg B)=B:=rfl
def zvp(P:Program)(sm:List Nat)(N:Nat)(H:zaa)(τ:Fr)(f:AV)(xs:List AV)(inl:Bool)(KK:AV→zaa→Prop):Prop:=
 (∃x,zso P N H f xs x∧KK x H)∨(inl=true∧∃n fi ca,zde f=some (n,fi,ca)∧(IcS P n (fi++xs++ca) H KK∨(∃ds Q,AV.toD.toDs (fi++xs++ca)=some ds∧zix P n ds Q∧∀x,Q x→KK x H)∨ScK P sm n (fi++xs++ca) τ H KK))∨
  inl=true∧∃l,f= .d (.val (.func (.yield l) #[] #[]))∧YcK P sm l xs τ H KK
def kC{KK:AV→zaa→Prop}(P:Program)(sm:List Nat)(N:Nat)(H:zaa)(τ:Fr)(f:AV)(xs:List AV)(inl:Bool)(_:Tg KK):Prop:=zvp P sm N H τ f xs inl KK
def cT(P:Program)(KT:TypeId→Bool)(sm:List Nat)(op:Op)(ρ:Operand→AV)(H:zaa)(KK:AV→zaa→Prop):Prop:=
 match kOf [] op with
 |0=>if zci op then(match op with
   | .call {callee:=.value f,args:=args,..}=>zvp P sm H.length H (fun t=>ρ (.tmp t)) (ρ f) (args.toList.map ρ) true KK
   |_=>False)else zo9 (opF P H.length H KT ρ op) fun x=>KK x H
 |2=>(match op with
  | .store t p y=>zo9 (storeF P t (ρ p) (ρ y) H [] 0) fun H'=>KK (.d (.val undef)) H'
  |_=>False)
 |4=>zo9 (jcm P KT ρ op H []) fun p=>KK p.1 p.2
 |_=>zo9 (layF P H.length ρ op H) fun p=>KK p.1 (deadH H p.2.2++[p.2.1])
def sT(P:Program)(KT:TypeId→Bool)(sm:List Nat)(ops:List Oper):List Oper→Fr→zaa→(Fr→zaa→Prop)→Prop
 |[],τ,H,K=>K τ H
 |o::l,τ,H,K=>GK (zbr ops τ o) (cT P KT sm o.op (zap τ) H fun x H'=>sT P KT sm ops l (τ.put o.dst x) H' K) (sT P KT sm ops l (τ.put o.dst (.d (.val undef))) H K)
def cE(P:Program)(KT:TypeId→Bool)(N r:Nat)(fresh:Bool)(m:List (Nat × Nat))(o:Oper)(ρ:Operand→AV)(H:zaa)(sh:List (Nat × Nat))(KK:AV→zaa→List (Nat × Nat)→Prop):Prop:=
 match kOf [] o.op with
 |0=>if zci o.op then(match o.op with
   | .call {callee:=.value f,args:=args,..}=>zvp P [] N H (fun t=>ρ (.tmp t)) (ρ f) (args.toList.map ρ) false fun x _=>KK x H sh
   |_=>False)else zo9 (opF P N H KT ρ o.op) fun x=>KK x H sh
 |2=>(match o.op with
  | .store t p y=>zo9 (storeF P t (ρ p) (ρ y) H sh (if fresh then N else 0)) fun H'=>KK (.d (.val undef)) H' sh
  |_=>False)
 |4=>zo9 (jcm P KT ρ o.op H sh) fun p=>KK p.1 p.2 sh
 |_=>zo9 (layEF P N r (zo5 m o.after.toList) ρ o.op H sh) fun p=>KK p.1 p.2.1 p.2.2
def sE(P:Program)(KT:TypeId→Bool)(ops:List Oper)(N:Nat):Nat→Nat→List (Nat × Nat)→List Oper→Fr→zaa→List (Nat × Nat)→(Fr→zaa→List (Nat × Nat)→Prop)→Prop
 |_,_,_,[],τ,H,sh,K=>K τ H sh
 |i,r,m,o::l,τ,H,sh,K=>GK (zbr ops τ o)
   (cE P KT N r (zc2 ops o) m o (zap τ) H sh fun x H' sh'=>sE P KT ops N (i+1) (if lays [] o then r+1 else r) (if lays [] o then(i,r)::m else m) l (τ.put o.dst x) H' sh' K)
   (sE P KT ops N (i+1) (if lays [] o then r+1 else r) (if lays [] o then(i,r)::m else m) l (τ.put o.dst (.d (.val undef))) H sh K)
section
variable {P:Program} {KT:TypeId→Bool} {τ:Fr} {H:zaa}
theorem zg2{α:Type}{o:Option α}{K K':α→Prop}(hK:∀x,K x→K' x)(h:zo9 o K):zo9 o K':=by
 obtain⟨x,h1,h2⟩:=h;exact⟨x,h1,hK x h2⟩
theorem zsx{sm:List Nat}{N:Nat}{τ:Fr}{f:AV}{xs:List AV}{inl:Bool}{K K':AV→zaa→Prop}(hK:∀x H',K x H'→K' x H')(h:zvp P sm N H τ f xs inl K):zvp P sm N H τ f xs inl K':=by
 rcases h with⟨x,h1,h2⟩|⟨h0,n,fi,ca,h1,h2⟩|⟨h0,l,h1,m,S,T,K0,a1,a2,a3,a4,a5,a6,a7,a8⟩
 case inr.inr=>exact .inr (.inr ⟨h0,l,h1,m,S,T,K0,a1,a2,a3,a4,a5,a6,a7,fun x S' hx=>⟨(a8 x S' hx).1,hK _ _ (a8 x S' hx).2⟩⟩)
 ·exact .inl ⟨x,h1,hK _ _ h2⟩
 ·refine .inr (.inl ⟨h0,n,fi,ca,h1,?_⟩)
  rcases h2 with h2|⟨ds,Q,h2,h3,h4⟩|⟨m,S,T,K0,a1,a2,a3,a4,a5,a6,a7,a8⟩
  ·exact .inl (h2.mono hK)
  ·exact .inr (.inl ⟨ds,Q,h2,h3,fun x hx=>hK _ _ (h4 x hx)⟩)
  ·exact .inr (.inr ⟨m,S,T,K0,a1,a2,a3,a4,a5,a6,a7,fun x S' hx=>⟨(a8 x S' hx).1,hK _ _ (a8 x S' hx).2⟩⟩)
theorem je4{sm:List Nat}{op:Op}{ρ:Operand→AV}{K K':AV→zaa→Prop}(hK:∀x H',K x H'→K' x H')(h:cT P KT sm op ρ H K):cT P KT sm op ρ H K':=by
 unfold cT at h ⊢
 split at h
 ·split at h
  ·rename_i hc
   rw[if_pos hc]
   split at h
   ·exact zsx hK h
   ·exact h.elim
  ·rename_i hc
   rw[if_neg hc]
   exact zg2 (fun x=>hK x H) h
 ·split at h
  ·exact zg2 (fun x=>hK _ x) h
  ·exact h.elim
 ·exact zg2 (fun p=>hK p.1 p.2) h
 ·exact zg2 (fun p=>hK p.1 _) h
theorem zkr{N r:Nat}{fresh:Bool}{m:List (Nat × Nat)}{o:Oper}{sh:List (Nat × Nat)}{K K':AV→zaa→List (Nat × Nat)→Prop}(hK:∀x H' sh',K x H' sh'→K' x H' sh')(h:zgh P [] N r fresh m o τ H sh K):zgh P [] N r fresh m o τ H sh K':=by
 unfold zgh at h ⊢
 split at h
 ·obtain⟨x,h1,h2⟩:=h;exact⟨x,h1,hK _ _ _ h2⟩
 ·obtain⟨x,h1,h2⟩:=h;exact⟨x,h1,hK _ _ _ h2⟩
 ·obtain⟨x,y,h1,h2⟩:=h;exact⟨x,y,h1,hK _ _ _ h2⟩
 ·obtain⟨a1,a2,a3,x,H',sh',h1,h2⟩:=h;exact⟨a1,a2,a3,x,H',sh',h1,hK _ _ _ h2⟩
end
section
variable {P:Program} {KT:TypeId→Bool} {c:Cx} {τ:Fr} {H:zaa} {Q:Exit→Fr→zaa→Prop} {ops:List Oper}
theorem zfv{g:Option Bool}{A B:Prop}(h:GK g A B):∃b,g=some b∧(b=true→A)∧(b=false→B):=by
 unfold GK at h
 split at h
 ·exact⟨true,rfl,fun _=>h,fun e=>by cases e⟩
 ·exact⟨false,rfl,(fun e=>by cases e),fun _=>h⟩
 ·exact h.elim
theorem joz{sm:List Nat}(hKT:∀k,KT k=true→Maps.Keyed P k){o:Oper}{K:Fr→zaa→Prop}(h:cT P KT sm o.op (zap τ) H fun x H'=>K (τ.put o.dst x) H'):zsr P [] sm o τ H K:=by
 unfold cT at h
 unfold zsr
 split at h
 ·rename_i hk
  simp only[hk]
  split at h
  ·split at h
   ·rename_i f args ts e
    rw[e]
    rcases h with⟨x,hq,hx⟩|⟨_,n,fi,ca,hc,hq⟩|⟨_,l,hl,hq⟩
    ·exact .inl ⟨x,hq,hx⟩
    ·exact .inr (.inl ⟨n,fi,ca,hc,hq⟩)
    ·exact .inr (.inr ⟨l,hl,hq⟩)
   ·exact h.elim
  ·obtain⟨x,hx,hK⟩:=h
   exact .inl ⟨x,zqt hKT hx,hK⟩
 ·rename_i hk
  simp only[hk]
  split at h
  ·rename_i t p y e
   obtain⟨H1,hH,hK⟩:=h
   rw[e]
   exact⟨_,zfd hH,hK⟩
  ·exact h.elim
 ·rename_i hk
  simp only[hk]
  obtain⟨p,hp,hK⟩:=h
  exact⟨p.1,p.2,zjd hKT hp,hK⟩
 ·rename_i hk0 hk2 hk4
  obtain⟨⟨x,ob,dd⟩,hl,hK⟩:=h
  have hlay:=zli hl (K:=fun x H'=>K (τ.put o.dst x) H') hK
  rcases zlh hk0 hk2 hk4 with hk|hk
  ·simp only[hk];exact hlay
  ·simp only[hk];exact hlay
theorem zzz{sm:List Nat}(hKT:∀k,KT k=true→Maps.Keyed P k){K:Fr→zaa→Prop}:∀{os:List Oper} {τ:Fr} {H:zaa},sT P KT sm ops os τ H K→jch P [] sm ops os τ H K
 |[],_,_,h=>h
 |o::os,τ,H,h=>by
  obtain⟨b,hg,ht,hf⟩:=zfv h
  refine⟨b,hg,fun e=>joz hKT ?_,fun e=>zzz hKT (hf e)⟩
  have:=ht e
  exact je4 (fun x H' hh=>zzz hKT hh) this
theorem je5(hKT:∀k,KT k=true→Maps.Keyed P k){N r:Nat}{fresh:Bool}{m:List (Nat × Nat)}{o:Oper}{sh:List (Nat × Nat)}{K:AV→zaa→List (Nat × Nat)→Prop}(h:cE P KT N r fresh m o (zap τ) H sh K):zgh P [] N r fresh m o τ H sh K:=by
 unfold cE at h
 unfold zgh
 split at h
 ·rename_i hk
  simp only[hk]
  split at h
  ·split at h
   ·rename_i f args ts e
    rw[e]
    rcases h with⟨x,hq,hx⟩|⟨e,_⟩|⟨e,_⟩
    ·exact⟨x,hq,hx⟩
    ·cases e
    ·cases e
   ·exact h.elim
  ·obtain⟨x,hx,hK⟩:=h
   exact⟨x,zqt hKT hx,hK⟩
 ·rename_i hk
  simp only[hk]
  split at h
  ·rename_i t p y e
   obtain⟨H1,hH,hK⟩:=h
   rw[e]
   exact⟨_,zfd hH,hK⟩
  ·exact h.elim
 ·rename_i hk
  simp only[hk]
  obtain⟨p,hp,hK⟩:=h
  exact⟨p.1,p.2,zjd hKT hp,hK⟩
 ·rename_i hk0 hk2 hk4
  obtain⟨⟨x,H',sh'⟩,hl,hK⟩:=h
  have:=zo8 hl hK
  rcases zlh hk0 hk2 hk4 with hk|hk
  ·simp only[hk];exact this
  ·simp only[hk];exact this
theorem zz0(hKT:∀k,KT k=true→Maps.Keyed P k){N:Nat}{K:Fr→zaa→List (Nat × Nat)→Prop}:∀{os:List Oper} {i r:Nat} {m:List (Nat × Nat)} {τ:Fr} {H:zaa} {sh:List (Nat × Nat)},sE P KT ops N i r m os τ H sh K→jci P [] ops N i r m os τ H sh K
 |[],_,_,_,_,_,_,h=>h
 |o::os,i,r,m,τ,H,sh,h=>by
  obtain⟨b,hg,ht,hf⟩:=zfv h
  exact⟨b,hg,fun e=>zkr (fun x H' sh' hh=>zz0 hKT hh) (je5 hKT (ht e)),fun e=>zz0 hKT (hf e)⟩
theorem zaj{sm:List Nat}(hc0:Kp c sm)(hKT:∀k,KT k=true→Maps.Keyed P k){id:Nat}{l:List Oper}{y:Code}{n:Nat}(hn:c.nt=n)(hd:zdl n l=true)(h:∀K:Fr→zaa→Prop,(∀τ H,AWp P c y Q τ H→K τ H)→sT P KT sm l l τ H K):AWp P c (.seq (.region id l.toArray false) y) Q τ H:=
 zuv (fr:=[]) hc0 hn hd fun K hK=>zzz hKT (h K hK)
theorem za6{sm:List Nat}(hc0:Kp c sm)(hKT:∀k,KT k=true→Maps.Keyed P k){id:Nat}{l:List Oper}{n:Nat}(hn:c.nt=n)(hd:zdl n l=true)(h:∀K:Fr→zaa→Prop,(∀τ H,Q .normal τ H→K τ H)→sT P KT sm l l τ H K):AWp P c (.region id l.toArray false) Q τ H:=
 joq (fr:=[]) hc0 hn hd fun K hK=>zzz hKT (h K hK)
theorem zbj(hKT:∀k,KT k=true→Maps.Keyed P k){id:Nat}{l:List Oper}{y:Code}{n:Nat}(hn:c.nt=n)(hm:P.follows .mixedOrders=true)(hd:zdl n l=true){q:Nat}(hq:l.countP (lays [])=q)(hB:zut [] l l.length 0 (Array.replicate l.length false)=true)
  (h:∀K:Fr→zaa→Prop,(∀τ H,AWp P c y Q τ H→K τ H)→sE P KT l H.length 0 0 [] l τ (H++List.replicate q .free) [] fun τ' H' sh'=>K τ' (killAll sh' H')):AWp P c (.seq (.region id l.toArray true) y) Q τ H:=
 zm7 (fr:=[]) hn hm hd hq hB fun K hK=>zz0 hKT (h K hK)
theorem zjf(hKT:∀k,KT k=true→Maps.Keyed P k){id:Nat}{l:List Oper}{n:Nat}(hn:c.nt=n)(hm:P.follows .mixedOrders=true)(hd:zdl n l=true){q:Nat}(hq:l.countP (lays [])=q)(hB:zut [] l l.length 0 (Array.replicate l.length false)=true)
  (h:∀K:Fr→zaa→Prop,(∀τ H,Q .normal τ H→K τ H)→sE P KT l H.length 0 0 [] l τ (H++List.replicate q .free) [] fun τ' H' sh'=>K τ' (killAll sh' H')):AWp P c (.region id l.toArray true) Q τ H:=
 ji4 (fr:=[]) hn hm hd hq hB fun K hK=>zz0 hKT (h K hK)
end
section
variable {P:Program} {KT:TypeId→Bool} {sm:List Nat} {ops l:List Oper} {τ:Fr} {H:zaa} {sh:List (Nat × Nat)} {N i r:Nat} {m:List (Nat × Nat)} {d:Option Tmp} {op:Op} {ty:TypeId} {pos:String} {af:Array Edge} {K:Fr→zaa→Prop} {KD:Fr→zaa→List (Nat × Nat)→Prop}
theorem jcr:sT P KT sm ops [] τ H K=K τ H:=rfl
theorem jcs:sE P KT ops N i r m [] τ H sh KD=KD τ H sh:=rfl
theorem jq9{j:Nat}{want:Bool}:sT P KT sm ops (⟨d,op,ty,pos,af,some (j,want)⟩::l) τ H K=gK (zbr ops τ ⟨d,op,ty,pos,af,some (j,want)⟩) (tg (sT P KT sm ops (⟨d,op,ty,pos,af,none⟩::l) τ H K)) (tg (sT P KT sm ops l (τ.put d (.d (.val undef))) H K)):=rfl
theorem zvq{y:Operand}:sT P KT sm ops (⟨d,.move y,ty,pos,af,none⟩::l) τ H K=(sT P KT sm ops l (τ.put d (zap τ y)) H K):=by simp[sT,sE,zbr,GK,cT,cE,kOf,zci,opF,zc4,lays]
theorem zvr{y:Operand}:sE P KT ops N i r m (⟨d,.move y,ty,pos,af,none⟩::l) τ H sh KD=(sE P KT ops N (i+1) r m l (τ.put d (zap τ y)) H sh KD):=by simp[sT,sE,zbr,GK,cT,cE,kOf,zci,opF,zc4,lays]
theorem znb{y:Operand}:sT P KT sm ops (⟨d,.assign y,ty,pos,af,none⟩::l) τ H K=(sT P KT sm ops l (τ.put d (zap τ y)) H K):=by simp[sT,sE,zbr,GK,cT,cE,kOf,zci,opF,zc4,lays]
theorem znc{y:Operand}:sE P KT ops N i r m (⟨d,.assign y,ty,pos,af,none⟩::l) τ H sh KD=(sE P KT ops N (i+1) r m l (τ.put d (zap τ y)) H sh KD):=by simp[sT,sE,zbr,GK,cT,cE,kOf,zci,opF,zc4,lays]
theorem zvs{c a b:Operand}:sT P KT sm ops (⟨d,.pick c a b,ty,pos,af,none⟩::l) τ H K=(oK (match zap τ c with| .d (.val (.bool t))=>some (if t then zap τ a else zap τ b)|_=>none)<|tg fun x=>sT P KT sm ops l (τ.put d x) H K):=rfl
theorem zvt{c a b:Operand}:sE P KT ops N i r m (⟨d,.pick c a b,ty,pos,af,none⟩::l) τ H sh KD=(oK (match zap τ c with| .d (.val (.bool t))=>some (if t then zap τ a else zap τ b)|_=>none)<|tg fun x=>sE P KT ops N (i+1) r m l (τ.put d x) H sh KD):=rfl
theorem zvu{t:TypeId}{y:Operand}:sT P KT sm ops (⟨d,.load t y,ty,pos,af,none⟩::l) τ H K=(oK (loadF P H.length H t (zap τ y))<|tg fun x=>sT P KT sm ops l (τ.put d x) H K):=rfl
theorem zvv{t:TypeId}{y:Operand}:sE P KT ops N i r m (⟨d,.load t y,ty,pos,af,none⟩::l) τ H sh KD=(oK (loadF P N H t (zap τ y))<|tg fun x=>sE P KT ops N (i+1) r m l (τ.put d x) H sh KD):=rfl
theorem jjc{t:TypeId}{y:Operand}{f:Nat}:sT P KT sm ops (⟨d,.fieldAddr t y f,ty,pos,af,none⟩::l) τ H K=(oK (fieldAddrF P t f (zap τ y))<|tg fun x=>sT P KT sm ops l (τ.put d x) H K):=rfl
theorem jjd{t:TypeId}{y:Operand}{f:Nat}:sE P KT ops N i r m (⟨d,.fieldAddr t y f,ty,pos,af,none⟩::l) τ H sh KD=(oK (fieldAddrF P t f (zap τ y))<|tg fun x=>sE P KT ops N (i+1) r m l (τ.put d x) H sh KD):=rfl
theorem zq1{t:TypeId}{y:Operand}{f:Nat}:sT P KT sm ops (⟨d,.field t y f,ty,pos,af,none⟩::l) τ H K=(oK (fieldF P t f (zap τ y))<|tg fun x=>sT P KT sm ops l (τ.put d x) H K):=rfl
theorem jje{t:TypeId}{y z:Operand}:sT P KT sm ops (⟨d,.indexAddr t y z,ty,pos,af,none⟩::l) τ H K=(oK (indexAddrF P t (zap τ y) (zap τ z))<|tg fun x=>sT P KT sm ops l (τ.put d x) H K):=rfl
theorem jjf{t:TypeId}{y z:Operand}:sE P KT ops N i r m (⟨d,.indexAddr t y z,ty,pos,af,none⟩::l) τ H sh KD=(oK (indexAddrF P t (zap τ y) (zap τ z))<|tg fun x=>sE P KT ops N (i+1) r m l (τ.put d x) H sh KD):=rfl
theorem zq2{t:TypeId}{y:Operand}{lo hi:Option Operand}:sT P KT sm ops (⟨d,.slice t y lo hi none,ty,pos,af,none⟩::l) τ H K=(oK (sliceF P H.length H t (zap τ y) (lo.map (zap τ)) (hi.map (zap τ)))<|tg fun x=>sT P KT sm ops l (τ.put d x) H K):=rfl
theorem jct{op:BinOp}{t t':TypeId}{y z:Operand}:sT P KT sm ops (⟨d,.binOp op t y z t',ty,pos,af,none⟩::l) τ H K=(oK (zzv P op t (zap τ y) (zap τ z))<|tg fun x=>sT P KT sm ops l (τ.put d x) H K):=rfl
theorem jcu{op:BinOp}{t t':TypeId}{y z:Operand}:sE P KT ops N i r m (⟨d,.binOp op t y z t',ty,pos,af,none⟩::l) τ H sh KD=(oK (zzv P op t (zap τ y) (zap τ z))<|tg fun x=>sE P KT ops N (i+1) r m l (τ.put d x) H sh KD):=rfl
theorem jjg{op:UnOp}{t:TypeId}{y:Operand}:sT P KT sm ops (⟨d,.unOp op t y,ty,pos,af,none⟩::l) τ H K=(oK (unF op (zap τ y))<|tg fun x=>sT P KT sm ops l (τ.put d x) H K):=rfl
theorem jjh{op:UnOp}{t:TypeId}{y:Operand}:sE P KT ops N i r m (⟨d,.unOp op t y,ty,pos,af,none⟩::l) τ H sh KD=(oK (unF op (zap τ y))<|tg fun x=>sE P KT ops N (i+1) r m l (τ.put d x) H sh KD):=rfl
theorem zvw{s t:TypeId}{y:Operand}:sT P KT sm ops (⟨d,.convert s t y,ty,pos,af,none⟩::l) τ H K=(oK (convF P s t (zap τ y))<|tg fun x=>sT P KT sm ops l (τ.put d x) H K):=rfl
theorem zq3{t:TypeId}{ps:Array (Nat × Operand)}:sT P KT sm ops (⟨d,.build t ps,ty,pos,af,none⟩::l) τ H K=(oK (buildF P t (ps.toList.map fun p=>(p.1,zap τ p.2)))<|tg fun x=>sT P KT sm ops l (τ.put d x) H K):=rfl
theorem zq4{t:TypeId}{ps:Array (Nat × Operand)}:sE P KT ops N i r m (⟨d,.build t ps,ty,pos,af,none⟩::l) τ H sh KD=(oK (buildF P t (ps.toList.map fun p=>(p.1,zap τ p.2)))<|tg fun x=>sE P KT ops N (i+1) r m l (τ.put d x) H sh KD):=rfl
theorem zks{y:Operand}{ix:Nat}:sT P KT sm ops (⟨d,.extract y ix,ty,pos,af,none⟩::l) τ H K=(oK (match zap τ y with| .tup vs=>vs[ix]? |_=>none)<|tg fun x=>sT P KT sm ops l (τ.put d x) H K):=rfl
theorem jji{fn:Fn}{fi ca:Array Operand}:sT P KT sm ops (⟨d,.makeFunc fn fi ca,ty,pos,af,none⟩::l) τ H K=(sT P KT sm ops l (τ.put d (.clo fn (fi.toList.map (zap τ)) (ca.toList.map (zap τ)))) H K):=by simp[sT,sE,zbr,GK,cT,cE,kOf,zci,opF,zc4,lays]
theorem jcv{args:Array Operand}{ts:Array TypeId}:sT P KT sm ops (⟨d,.call ⟨.builtin .len,args,ts⟩,ty,pos,af,none⟩::l) τ H K=(oK (builtinF P .len ts.toList (args.toList.map (zap τ)))<|tg fun x=>sT P KT sm ops l (τ.put d x) H K):=rfl
theorem jcw{args:Array Operand}{ts:Array TypeId}:sE P KT ops N i r m (⟨d,.call ⟨.builtin .len,args,ts⟩,ty,pos,af,none⟩::l) τ H sh KD=(oK (builtinF P .len ts.toList (args.toList.map (zap τ)))<|tg fun x=>sE P KT ops N (i+1) r m l (τ.put d x) H sh KD):=rfl
theorem jcx{args:Array Operand}{ts:Array TypeId}:sT P KT sm ops (⟨d,.call ⟨.builtin .max,args,ts⟩,ty,pos,af,none⟩::l) τ H K=(oK (builtinF P .max ts.toList (args.toList.map (zap τ)))<|tg fun x=>sT P KT sm ops l (τ.put d x) H K):=rfl
theorem jcy{args:Array Operand}{ts:Array TypeId}:sE P KT ops N i r m (⟨d,.call ⟨.builtin .max,args,ts⟩,ty,pos,af,none⟩::l) τ H sh KD=(oK (builtinF P .max ts.toList (args.toList.map (zap τ)))<|tg fun x=>sE P KT ops N (i+1) r m l (τ.put d x) H sh KD):=rfl
theorem jcz{args:Array Operand}{ts:Array TypeId}:sT P KT sm ops (⟨d,.call ⟨.builtin .min,args,ts⟩,ty,pos,af,none⟩::l) τ H K=(oK (builtinF P .min ts.toList (args.toList.map (zap τ)))<|tg fun x=>sT P KT sm ops l (τ.put d x) H K):=rfl
theorem jc0{args:Array Operand}{ts:Array TypeId}:sE P KT ops N i r m (⟨d,.call ⟨.builtin .min,args,ts⟩,ty,pos,af,none⟩::l) τ H sh KD=(oK (builtinF P .min ts.toList (args.toList.map (zap τ)))<|tg fun x=>sE P KT ops N (i+1) r m l (τ.put d x) H sh KD):=rfl
theorem zq5{f:FuncId}{args:Array Operand}{ts:Array TypeId}:sT P KT sm ops (⟨d,.call ⟨.value (.func f),args,ts⟩,ty,pos,af,none⟩::l) τ H K=(kC P sm H.length H τ ((zap τ (.func f))) (args.toList.map (zap τ)) true<|tg fun x H'=>sT P KT sm ops l (τ.put d x) H' K):=rfl
theorem zq6{f:FuncId}{args:Array Operand}{ts:Array TypeId}:sE P KT ops N i r m (⟨d,.call ⟨.value (.func f),args,ts⟩,ty,pos,af,none⟩::l) τ H sh KD=(kC P [] N H τ ((zap τ (.func f))) (args.toList.map (zap τ)) false<|tg fun x _=>sE P KT ops N (i+1) r m l (τ.put d x) H sh KD):=rfl
theorem zq7{f:Nat}{args:Array Operand}{ts:Array TypeId}:sT P KT sm ops (⟨d,.call ⟨.value (.tmp f),args,ts⟩,ty,pos,af,none⟩::l) τ H K=(kC P sm H.length H τ ((zap τ (.tmp f))) (args.toList.map (zap τ)) true<|tg fun x H'=>sT P KT sm ops l (τ.put d x) H' K):=rfl
theorem zq8{f:Nat}{args:Array Operand}{ts:Array TypeId}:sE P KT ops N i r m (⟨d,.call ⟨.value (.tmp f),args,ts⟩,ty,pos,af,none⟩::l) τ H sh KD=(kC P [] N H τ ((zap τ (.tmp f))) (args.toList.map (zap τ)) false<|tg fun x _=>sE P KT ops N (i+1) r m l (τ.put d x) H sh KD):=rfl
theorem jc1{t:TypeId}{y:Operand}:sT P KT sm ops (⟨d,.box t y,ty,pos,af,none⟩::l) τ H K=(oK (layF P H.length (zap τ) (.box t y) H)<|tg fun p=>sT P KT sm ops l (τ.put d p.1) (deadH H p.2.2++[p.2.1]) K):=rfl
theorem zq9{t:TypeId}:sT P KT sm ops (⟨d,.alloc t,ty,pos,af,none⟩::l) τ H K=(oK (layF P H.length (zap τ) (.alloc t) H)<|tg fun p=>sT P KT sm ops l (τ.put d p.1) (deadH H p.2.2++[p.2.1]) K):=rfl
theorem zvx{t:TypeId}{y z:Operand}:sT P KT sm ops (⟨d,.makeSlice t y z,ty,pos,af,none⟩::l) τ H K=(oK (layF P H.length (zap τ) (.makeSlice t y z) H)<|tg fun p=>sT P KT sm ops l (τ.put d p.1) (deadH H p.2.2++[p.2.1]) K):=rfl
theorem jjj{t:TypeId}{n:Nat}{ps:Array (Nat × Operand)}:sT P KT sm ops (⟨d,.buildSlice t n ps,ty,pos,af,none⟩::l) τ H K=(oK (layF P H.length (zap τ) (.buildSlice t n ps) H)<|tg fun p=>sT P KT sm ops l (τ.put d p.1) (deadH H p.2.2++[p.2.1]) K):=rfl
theorem jjk{t:TypeId}{n:Nat}{ps:Array (Nat × Operand)}:sE P KT ops N i r m (⟨d,.buildSlice t n ps,ty,pos,af,none⟩::l) τ H sh KD=(oK (layEF P N r (zo5 m af.toList) (zap τ) (.buildSlice t n ps) H sh)<|tg fun p=>sE P KT ops N (i+1) (r+1) ((i,r)::m) l (τ.put d p.1) p.2.1 p.2.2 KD):=rfl
theorem jc2{args:Array Operand}{ts:Array TypeId}:sT P KT sm ops (⟨d,.call ⟨.builtin .append,args,ts⟩,ty,pos,af,none⟩::l) τ H K=(oK (layF P H.length (zap τ) (.call ⟨.builtin .append,args,ts⟩) H)<|tg fun p=>sT P KT sm ops l (τ.put d p.1) (deadH H p.2.2++[p.2.1]) K):=rfl
theorem jc3{args:Array Operand}{ts:Array TypeId}:sE P KT ops N i r m (⟨d,.call ⟨.builtin .append,args,ts⟩,ty,pos,af,none⟩::l) τ H sh KD=(oK (layEF P N r (zo5 m af.toList) (zap τ) (.call ⟨.builtin .append,args,ts⟩) H sh)<|tg fun p=>sE P KT ops N (i+1) (r+1) ((i,r)::m) l (τ.put d p.1) p.2.1 p.2.2 KD):=rfl
theorem zra{t:TypeId}{y z:Operand}:sT P KT sm ops (⟨d,.store t y z,ty,pos,af,none⟩::l) τ H K=(oK (storeF P t (zap τ y) (zap τ z) H [] 0)<|tg fun H'=>sT P KT sm ops l (τ.put d (.d (.val undef))) H' K):=rfl
theorem zrb{t:TypeId}{y z:Operand}:sE P KT ops N i r m (⟨d,.store t y z,ty,pos,af,none⟩::l) τ H sh KD=(oK (storeF P t (zap τ y) (zap τ z) H sh (if zc2 ops ⟨d,.store t y z,ty,pos,af,none⟩then N else 0))<|tg fun H'=>sE P KT ops N (i+1) r m l (τ.put d (.d (.val undef))) H' sh KD):=rfl
theorem jsi{j:Nat}{want:Bool}(hl:lays [] ⟨d,op,ty,pos,af,none⟩=false):sE P KT ops N i r m (⟨d,op,ty,pos,af,some (j,want)⟩::l) τ H sh KD=gK (zbr ops τ ⟨d,op,ty,pos,af,some (j,want)⟩) (tg (sE P KT ops N i r m (⟨d,op,ty,pos,af,none⟩::l) τ H sh KD)) (tg (sE P KT ops N (i+1) r m l (τ.put d (.d (.val undef))) H sh KD)):=by
 have h1:lays [] ⟨d,op,ty,pos,af,some (j,want)⟩=false:=hl
 have h2:zc2 ops ⟨d,op,ty,pos,af,some (j,want)⟩=zc2 ops ⟨d,op,ty,pos,af,none⟩:=rfl
 show _=GK _ _ _
 simp only[sE,h1,hl,h2,Bool.false_eq_true,if_false];rfl
theorem jo0{j:Nat}{want:Bool}(hl:lays [] ⟨d,op,ty,pos,af,none⟩=true):sE P KT ops N i r m (⟨d,op,ty,pos,af,some (j,want)⟩::l) τ H sh KD=gK (zbr ops τ ⟨d,op,ty,pos,af,some (j,want)⟩) (tg (sE P KT ops N i r m (⟨d,op,ty,pos,af,none⟩::l) τ H sh KD)) (tg (sE P KT ops N (i+1) (r+1) ((i,r)::m) l (τ.put d (.d (.val undef))) H sh KD)):=by
 have h1:lays [] ⟨d,op,ty,pos,af,some (j,want)⟩=true:=hl
 have h2:zc2 ops ⟨d,op,ty,pos,af,some (j,want)⟩=zc2 ops ⟨d,op,ty,pos,af,none⟩:=rfl
 show _=GK _ _ _
 simp only[sE,h1,hl,h2,if_true];rfl
theorem jjl{j:Nat}{want:Bool}:sE P KT ops N i r m (⟨d,op,ty,pos,af,some (j,want)⟩::l) τ H sh KD=gK (zbr ops τ ⟨d,op,ty,pos,af,some (j,want)⟩) (tg (sE P KT ops N i r m (⟨d,op,ty,pos,af,none⟩::l) τ H sh KD)) (tg (sE P KT ops N (i+1) (if lays [] ⟨d,op,ty,pos,af,none⟩then r+1 else r) (if lays [] ⟨d,op,ty,pos,af,none⟩then(i,r)::m else m) l (τ.put d (.d (.val undef))) H sh KD)):=by
 cases hl:lays [] ⟨d,op,ty,pos,af,none⟩with
 |false=>rw[jsi hl];rfl
 |true=>rw[jo0 hl];rfl
theorem zbd{f:FuncId}{args:List AV}{ds:List D}{x:AV}{inl:Bool}{KK:AV→zaa→Prop}(hp:zas P f ds x)(hd:AV.toD.toDs args=some ds)(hK:KK x H):kC P sm N H τ (.d (.val (.func (.func f) #[] #[]))) args inl (tg KK):=.inl (je0 hp hd hK)
theorem zfe{f:FuncId}{args:List AV}{ds:List D}{v:Value}{inl:Bool}{KK:AV→zaa→Prop}(hp:zas P f ds (.d (.val v)))(hd:zc1 (zdr H N) 9 args=some ds)(hK:KK (.d (.val v)) H):kC P sm N H τ (.d (.val (.func (.func f) #[] #[]))) args inl (tg KK):=.inl (zzu (KA:=fun x=>KK x H) hp hd hK)
theorem jjm{f:FuncId}{args:List AV}{ds:List D}{Q:AV→Prop}{KK:AV→zaa→Prop}(hp:zix P f ds Q)(hd:AV.toD.toDs args=some ds)(hK:∀x,Q x→KK x H):kC P sm N H τ (.d (.val (.func (.func f) #[] #[]))) args true (tg KK):=
 .inr (.inl ⟨rfl,f,[],[],rfl,.inr (.inl ⟨ds,Q,by simpa using hd,hp,hK⟩)⟩)
theorem jo1{f:FuncId}{args:List AV}{KK:AV→zaa→Prop}(h:IcS P f args H KK):kC P sm N H τ (.d (.val (.func (.func f) #[] #[]))) args true (tg KK):=
 .inr (.inl ⟨rfl,f,[],[],rfl,.inl (by simpa using h)⟩)
theorem zvy{f:FuncId}{fi ca:List D}{args:List AV}{ds:List D}{x:AV}{inl:Bool}{KK:AV→zaa→Prop}(hp:zas P f (fi++ds++ca) x)(hd:AV.toD.toDs (fi.map .d++args++ca.map .d)=some (fi++ds++ca))(hK:KK x H):kC P sm N H τ (.d (.clo (.func f) fi ca)) args inl (tg KK):=
 .inl ⟨x,⟨f,fi.map .d,ca.map .d,fi++ds++ca,rfl,.inl ⟨.inl hd,hp⟩⟩,hK⟩
theorem jjn{f:FuncId}{args:List AV}{K0 KK:AV→zaa→Prop}(h:IcS P f args H K0)(hK:∀x H',K0 x H'→KK x H'):kC P sm N H τ (.d (.val (.func (.func f) #[] #[]))) args true (tg KK):=jo1 (h.mono hK)
theorem je6{f:FuncId}{args:List AV}{S T:zaa}{K0 KK:AV→zaa→Prop}{ks:List Nat}(h:ScS P ks f args S K0)(hH:H=S++T)(hm:sm.all (okI ks S.length)=true)(hτ:∀t,(τ t).allI (okI ks S.length)=true)(ha:AV.allIs (ltI S.length) args=true)
  (hS:∀o∈S,o.allI (ltI S.length)=true) (hT:∀o∈T,o.allI (okI ks S.length)=true) (hK:∀x S',K0 x S'→S'.length=S.length∧KK x (S'++T)):kC P sm N H τ (.d (.val (.func (.func f) #[] #[]))) args true (tg KK):=
 .inr (.inl ⟨rfl,f,[],[],rfl,.inr (.inr ⟨ks,S,T,K0,hH,hm,hτ,by simpa using ha,hS,hT,by simpa using h,hK⟩)⟩)
theorem jo2{l:Nat}{args:List AV}{S T:zaa}{K0 KK:AV→zaa→Prop}{ks:List Nat}(h:YsS P ks l args S K0)(hH:H=S++T)(hm:sm.all (okI ks S.length)=true)(hτ:∀t,(τ t).allI (okI ks S.length)=true)(ha:AV.allIs (ltI S.length) args=true)
  (hS:∀o∈S,o.allI (ltI S.length)=true) (hT:∀o∈T,o.allI (okI ks S.length)=true) (hK:∀x S',K0 x S'→S'.length=S.length∧KK x (S'++T)):kC P sm N H τ (.d (.val (.func (.yield l) #[] #[]))) args true (tg KK):=
 .inr (.inr ⟨rfl,l,rfl,ks,S,T,K0,hH,hm,hτ,ha,hS,hT,h,hK⟩)
theorem jc4{f:FuncId}{fi ca args:List AV}{S T:zaa}{K0 KK:AV→zaa→Prop}{ks:List Nat}(h:ScS P ks f (fi++args++ca) S K0)(hH:H=S++T)(hm:sm.all (okI ks S.length)=true)(hτ:∀t,(τ t).allI (okI ks S.length)=true)(ha:AV.allIs (ltI S.length) (fi++args++ca)=true)
  (hS:∀o∈S,o.allI (ltI S.length)=true) (hT:∀o∈T,o.allI (okI ks S.length)=true) (hK:∀x S',K0 x S'→S'.length=S.length∧KK x (S'++T)):kC P sm N H τ (.clo (.func f) fi ca) args true (tg KK):=
 .inr (.inl ⟨rfl,f,fi,ca,rfl,.inr (.inr ⟨ks,S,T,K0,hH,hm,hτ,ha,hS,hT,h,hK⟩)⟩)
theorem zdm{p:Nat→Bool}{l:List (Nat × AV)}(h:AV.allIs p (l.map (·.2))=true)(t:Nat):(frL l t).allI p=true:=by
 induction l with
 |nil=>rfl
 |cons a l ih=>
  obtain⟨d,x⟩:=a
  rw[List.map_cons,AV.allIs,Bool.and_eq_true]at h
  rw[zhj]
  split
  ·exact h.1
  ·exact ih h.2
end
/- Of no program: what simp needs to carry out the run: values, conditions. -/
end
section
section
variable {P:Program} {t:TypeId} {a b:Int} {kk:IntKind}
theorem ifp{α:Type}{c:Prop}[Decidable c]{x y:α}(h:c):(if c then x else y)=x:=if_pos h
theorem ifn{α:Type}{c:Prop}[Decidable c]{x y:α}(h:¬c):(if c then x else y)=y:=if_neg h
theorem jc5{op:BinOp}{u v:Value}:zzv P op t (.d (.val u)) (.d (.val v))=(zgr P op t u v).map fun r=>.d (.val r):=rfl
def eqB(P:Program)(t:TypeId)(a b:Option (List Value)):Option Bool:=(jop P t).bind fun os=>a.bind fun a=>b.bind fun b=>ziz a b os
theorem jjo{l m:List AV}:zzv P .eql t (.agg l) (.agg m)=(eqB P t (ziv l) (ziv m)).map fun b=>.d (.val (.bool b)):=rfl
theorem jjp(h1: -9223372036854775808≤a+b)(h2:a+b<9223372036854775808):zgr P .add t (.int .i64 a) (.int .i64 b)=some (.int .i64 (a+b)):=by simp[zgr,zsl,jnz h1 h2]
theorem jjq(h1: -9223372036854775808≤a - b)(h2:a - b<9223372036854775808):zgr P .sub t (.int .i64 a) (.int .i64 b)=some (.int .i64 (a - b)):=by simp[zgr,zsl,jnz h1 h2]
theorem jjr(h1: -9223372036854775808≤a*b)(h2:a*b<9223372036854775808):zgr P .mul t (.int .i64 a) (.int .i64 b)=some (.int .i64 (a*b)):=by simp[zgr,zsl,jnz h1 h2]
theorem jjs(h1:0≤a)(h2:0<b):zgr P .rem t (.int kk a) (.int kk b)=some (.int kk (a % b)):=by
 obtain⟨r,hr,e⟩:=(jor (P:=P) (t:=t) (kk:=kk) (KV:=fun r=>r= .int kk (a % b)) h1 h2).mpr rfl
 rw[hr,e]
theorem jjt:zgr P .eql t (.int kk a) (.int kk b)=some (.bool (a==b)):=by simp[zgr,zsl,jep]
theorem jju:zgr P .neq t (.int kk a) (.int kk b)=some (.bool (a !=b)):=by simp[zgr,zsl,jep]
theorem jjv:zgr P .lss t (.int kk a) (.int kk b)=some (.bool (decide (a<b))):=by simp[zgr,zsl,jep]
theorem jjw:zgr P .leq t (.int kk a) (.int kk b)=some (.bool (decide (a≤b))):=by simp[zgr,zsl,jep]
theorem jjx:zgr P .gtr t (.int kk a) (.int kk b)=some (.bool (decide (b<a))):=by simp[zgr,zsl,jep]
theorem jjy:zgr P .geq t (.int kk a) (.int kk b)=some (.bool (decide (b≤a))):=by simp[zgr,zsl,jep]
theorem jc6{a b:Bool}:zgr P .neq t (.bool a) (.bool b)=if zhd P t=true then some (.bool (a !=b))else none:=rfl
theorem jjz{b:Bool}:unF .not (.d (.val (.bool b)))=some (.d (.val (.bool (!b)))):=rfl
end
end
end Go.Proofs.Ytfolbdkbpmgjgaa
