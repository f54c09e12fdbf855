/- Of no program: objects that are no more needed are dropped, the others numbered anew. -/
import Derived.Test.YtfolbdkbpmgjgaaAJ
set_option linter.unusedVariables false
set_option linter.unusedSimpArgs false
namespace Go.Proofs.Ytfolbdkbpmgjgaa
open Go Go.RowKit
section
def posN:List Nat→Nat→Option Nat
 |[],_=>none
 |a::l,x=>if x=a then some 0 else(posN l x).map (·+1)
theorem zpo:∀{l:List Nat} {x j:Nat},posN l x=some j→l[j]? =some x
 |[],_,_,h=>by cases h
 |a::l,x,j,h=>by
  unfold posN at h
  split at h
  ·rename_i e;cases h;rw[e];rfl
  ·obtain⟨i,hi,rfl⟩:=Option.map_eq_some_iff.1 h
   simpa using zpo hi
mutual
def gcV(keep:List Nat):AV→AV
 | .any=>.any
 | .d x=>.d x
 | .os k id off n=>match posN keep id with|some j=>.os k j off n|none=>.any
 | .op id off=>match posN keep id with|some j=>.op j off|none=>.any
 | .om id=>match posN keep id with|some j=>.om j|none=>.any
 | .agg cs=>.agg (gcVs keep cs)
 | .tup cs=>.tup (gcVs keep cs)
 | .clo fn fi ca=>.clo fn (gcVs keep fi) (gcVs keep ca)
def gcVs(keep:List Nat):List AV→List AV
 |[]=>[]
 |x::l=>gcV keep x::gcVs keep l
end
def gcO(keep:List Nat):AObj→AObj
 | .free=>.free
 | .dead=>.dead
 | .cells cs=>.cells (gcVs keep cs)
 | .map es clock=>.map (es.map fun e=>(e.1,e.2.1,gcV keep e.2.2)) clock
 | .loop b r fr=>.loop b r (gcVs keep fr)
def gcH(keep:List Nat)(H:zaa):zaa:=keep.map fun i=>gcO keep (H.getD i .dead)
theorem zdo(keep:List Nat):∀cs:List AV,gcVs keep cs=cs.map (gcV keep)
 |[]=>rfl
 |x::l=>by rw[gcVs,zdo keep l];rfl
theorem jk7(keep:List Nat)(x:D):gcV keep (.d x)= .d x:=by rw[gcV]
theorem jgc(keep:List Nat)(ds:List D):gcVs keep (ds.map .d)=ds.map .d:=by
 rw[zdo,List.map_map]
 exact List.map_congr_left fun x _=>jk7 keep x
theorem zxq(keep:List Nat)(o:AObj):(gcO keep o).live=o.live:=by cases o<;>rfl
section
variable {P:Program} {c:Cx} {τ:Fr} {a:Act} {w:World} {pl:List (Option (Nat × Nat))} {H:zaa} {Q:Exit→Fr→zaa→Prop}
def gcP(keep:List Nat)(pl:List (Option (Nat × Nat))):List (Option (Nat × Nat)):=keep.map fun i=>pl.getD i none
theorem zf4{keep:List Nat}{j i:Nat}(h:keep[j]? =some i){p:Option (Nat × Nat)}(hp:pl[i]? =some p):(gcP keep pl)[j]? =some p:=by
 unfold gcP
 rw[List.getElem?_map,h,Option.map_some,List.getD_eq_getElem?_getD,hp];rfl
theorem zxr{keep:List Nat}{j:Nat}{p:Nat × Nat}(h:(gcP keep pl)[j]? =some (some p)):∃i,keep[j]? =some i∧pl[i]? =some (some p):=by
 unfold gcP at h
 rw[List.getElem?_map,Option.map_eq_some_iff]at h
 obtain⟨i,hi,he⟩:=h
 refine⟨i,hi,?_⟩
 rw[List.getD_eq_getElem?_getD]at he
 cases hq:pl[i]? with
 |none=>rw[hq]at he;cases he
 |some q=>rw[hq]at he;exact congrArg some he
theorem zxs{keep:List Nat}{own own':Nat→Prop}(hw:∀b,own' b→own b){x:AV}{v:Value}(h:Rd w pl own x v):Rd w (gcP keep pl) own' (gcV keep x) v:=by
 have place:∀{id j b base:Nat},posN keep id=some j→pl[id]? =some (some (b,base))→(gcP keep pl)[j]? =some (some (b,base)):=fun hj hp=>zf4 (zpo hj) hp
 have gets:∀{cs:List AV} {j:Nat} {y:AV},(gcVs keep cs)[j]? =some y→∃x,cs[j]? =some x∧y=gcV keep x:=fun{cs j y} h=>by
  rw[zdo,List.getElem?_map,Option.map_eq_some_iff]at h
  obtain⟨x,hx,rfl⟩:=h
  exact⟨x,hx,rfl⟩
 induction h with
 |any v=>rw[gcV];exact .any v
 |d x v h=>rw[gcV];exact .d _ _ (h.mono (Nat.le_refl _) (fun _ _ _=>rfl) (fun b _ hb=>hw b hb))
 |os k id off n cap b base sz t h1 h2 h3 h4 h5=>
  rw[gcV]
  split
  ·rename_i j hj;exact .os k j off n cap b base sz t (place hj h1) h2 h3 h4 h5
  ·exact .any _
 |os0 k id off ad=>
  rw[gcV]
  split
  ·exact .os0 _ _ _ _
  ·exact .any _
 |op id off b base h1=>
  rw[gcV]
  split
  ·rename_i j hj;exact .op j off b base (place hj h1)
  ·exact .any _
 |om id b base h1=>
  rw[gcV]
  split
  ·rename_i j hj;exact .om j b base (place hj h1)
  ·exact .any _
 |agg cs vs hl _ ih=>
  rw[gcV]
  refine .agg _ _ (by rw[zdo];simpa using hl) fun j y hj=>?_
  obtain⟨x,hx,rfl⟩:=gets hj
  exact ih j x hx
 |tup cs vs hl _ ih=>
  rw[gcV]
  refine .tup _ _ (by rw[zdo];simpa using hl) fun j y hj=>?_
  obtain⟨x,hx,rfl⟩:=gets hj
  exact ih j x hx
 |clo fn fi ca vs us hl _ hl' _ ih ih'=>
  rw[gcV]
  refine .clo _ _ _ _ _ (by rw[zdo];simpa using hl) (fun j y hj=>?_) (by rw[zdo];simpa using hl') (fun j y hj=>?_)
  ·obtain⟨x,hx,rfl⟩:=gets hj
   exact ih j x hx
  ·obtain⟨x,hx,rfl⟩:=gets hj
   exact ih' j x hx
theorem R.gc{m:List Nat}(hp:Kp c m){keep:List Nat}(hk:∀i∈m,keep[i]? =some i)(hn:keep.Nodup)(hb:∀i∈keep,i<H.length)(hR:R c τ H [] a w):R c (fun t=>gcV keep (τ t)) (gcH keep H) [] a w:=by
 obtain⟨pl,h⟩:=hR
 have back:∀{j:Nat} {o':AObj},(gcH keep H)[j]? =some o'→∃i o,keep[j]? =some i∧H[i]? =some o∧o'=gcO keep o:=fun{j o'} hj=>by
  unfold gcH at hj
  rw[List.getElem?_map,Option.map_eq_some_iff]at hj
  obtain⟨i,hi,rfl⟩:=hj
  have hlt:=hb i (List.mem_of_getElem? hi)
  exact⟨i,H[i],hi,List.getElem?_eq_getElem hlt,by rw[List.getD_eq_getElem?_getD,List.getElem?_eq_getElem hlt];rfl⟩
 have placed:∀{j:Nat} {o':AObj} {p:Nat × Nat},(gcH keep H)[j]? =some o'→o'.live=true→(gcP keep pl)[j]? =some (some p)→∃i o,keep[j]? =some i∧H[i]? =some o∧o.live=true∧pl[i]? =some (some p):=fun{j o' p} hj hl hpj=>by
  obtain⟨i,o,h1,h2,rfl⟩:=back hj
  obtain⟨i',h3,h4⟩:=zxr hpj
  rw[h1]at h3;cases h3
  exact⟨i,o,h1,h2,by rw[zxq]at hl;exact hl,h4⟩
 have hown:∀b,zax c.E (gcH keep H) (gcP keep pl) b→zax c.E H pl b:=fun b hbo=>by
  rcases hbo with hbo|⟨j,o',e,h1,h2,h3⟩
  ·exact .inl hbo
  ·obtain⟨i,o,_,k2,k3,k4⟩:=placed h1 h2 h3
   exact .inr ⟨i,o,e,k2,k3,k4⟩
 refine⟨gcP keep pl,⟨by simp[gcP,gcH],fun j o' hj=>?_,fun i j oi oj p q h1 h2 l1 l2 hne _ _ p1 p2=>?_,fun i o p h1 l1 p1=>?_,fun p hp=>(by cases hp),fun i j ci cj p q hm=>(by cases hm)⟩,h.stp,fun i o p h1 l1 p1=>?_,h.ext,fun t=>zxs hown (h.fr t),h.size,h.defs.sub (fun b ⟨j,o',e,h1,h2,h3⟩=>let⟨i,o,_,k2,k3,k4⟩:=placed h1 h2 h3;⟨i,o,e,k2,k3,k4⟩),fun i p hi=>by
  exact zf4 (hk i (hp i p hi)) (h.keep i p hi)⟩
 ·obtain⟨i,o,h1,h2,rfl⟩:=back hj
  have ho:=h.h.obj i o h2
  cases o with
  |free=>exact zf4 h1 ho
  |dead=>trivial
  |cells cs=>
   rcases ho with⟨k1,k2⟩|⟨b,base,arr,t,k1,k2,k3,k4⟩
   ·exact .inl ⟨by subst k1;rfl,zf4 h1 k2⟩
   ·refine .inr ⟨b,base,arr,t,zf4 h1 k1,k2,by rw[zdo];simpa using k3,fun j y hj=>?_⟩
    rw[zdo,List.getElem?_map,Option.map_eq_some_iff]at hj
    obtain⟨x,hx,rfl⟩:=hj
    exact⟨zxs hown (k4 j x hx).1,(k4 j x hx).2⟩
  |map es clock=>
   obtain⟨b,base,ms,k1,k2,k3,k4,k5⟩:=ho
   refine⟨b,base,ms,zf4 h1 k1,k2,by simpa using k3,by rw[List.map_map];exact k4,fun j e k n x hj hx=>?_⟩
   rw[List.getElem?_map,Option.map_eq_some_iff]at hx
   obtain⟨⟨k',n',x'⟩,hx',he⟩:=hx
   cases he
   obtain⟨m1,m2,m3⟩:=k5 j e k' n' x' hj hx'
   exact⟨m1,m2,zxs hown m3⟩
  |loop b r fr=>
   obtain⟨base,k1,k2,k3⟩:=ho
   refine⟨base,zf4 h1 k1,k2,fun j y hj=>?_⟩
   rw[zdo,List.getElem?_map,Option.map_eq_some_iff]at hj
   obtain⟨x,hx,rfl⟩:=hj
   exact zxs hown (k3 j x hx)
 ·obtain⟨i',o1,a1,a2,a3,a4⟩:=placed h1 l1 p1
  obtain⟨j',o2,b1,b2,b3,b4⟩:=placed h2 l2 p2
  refine h.h.dis i' j' o1 o2 p q a2 b2 a3 b3 (fun e=>?_) (by simp) (by simp) a4 b4
  subst e
  have hnd:=List.pairwise_iff_getElem.1 hn
  obtain⟨m1,g1⟩:=List.getElem?_eq_some_iff.1 a1
  obtain⟨m2,g2⟩:=List.getElem?_eq_some_iff.1 b1
  rcases Nat.lt_trichotomy i j with hl|hl|hl
  ·exact hnd i j m1 m2 hl (g1.trans g2.symm)
  ·exact hne hl
  ·exact hnd j i m2 m1 hl (g2.trans g1.symm)
 ·obtain⟨i',o1,a1,a2,a3,a4⟩:=placed h1 l1 p1
  exact h.h.ext i' o1 p a2 a3 a4
 ·obtain⟨i',o1,a1,a2,a3,a4⟩:=placed h1 l1 p1
  exact h.own0 i' o1 p a2 a3 a4
theorem zgj{f:FuncId}{fn:Func}{code:Code}{ds:List D}{Q:AV→zaa→Prop}{E:Nat→Prop}{vals:Array Value}(hf:P.funcs[f]? =some fn)(hb:fn.body=some code)(hn:ds.length≤fn.ntmps)(h:∀c:Cx,c.nt=fn.ntmps→Kp c []→Top c→AWp P c code (zef P fn Q) (zfq ds) [])
  (hl:vals.size=ds.length) (hx:∀j x,ds[j]? =some x→RdD w E x (vals.getD j undef)) (hE:∀b,E b→b<w.heap.size):
  Calls P f vals w fun e w'=>∃v x H' a' pl τ',e= .returned v∧Q x H'∧Rd w' pl (zax E H' pl) x v∧RelS ⟨E,w,fun _=>False,fn.ntmps,[],none,w.heap.size⟩ τ' H' [] pl a' w':=by
 have hR:R ⟨E,w,fun _=>False,fn.ntmps,[],none,w.heap.size⟩ (zfq ds) [] [] {tmps:=vals++Array.replicate (fn.ntmps - vals.size) undef,defers:=[]} w:=by
  refine⟨[],⟨rfl,fun id o ho=>by simp at ho,fun i j oi oj p q h1=>by simp at h1,fun i o p h1=>by simp at h1,fun p hp=>(by cases hp),fun i j ci cj p q hm=>(by cases hm)⟩,Stp.refl _ _,fun id o p h1=>by simp at h1,hE,fun t=>?_,by simp;omega,Dfk.nil,fun i p hi=>by simp at hi⟩
  simp only[zid]
  unfold zfq
  rw[List.getD_eq_getElem?_getD,List.getElem?_map]
  cases hd:ds[t]? with
  |none=>
   have:vals.size≤t:=by rw[hl];exact List.getElem?_eq_none_iff.1 hd
   simp only[Array.getD,dif_neg (Nat.not_lt.2 this)]
   exact .d _ _ (.val _)
  |some x=>exact .d _ _ ((hx t x hd).mono (Nat.le_refl _) (fun _ _ _=>rfl) (fun b _ hb=>by
   rcases hb with hb|⟨i,o,e,h1,_⟩
   ·exact hb
   ·simp at h1))
 exact zex (c:=⟨E,w,fun _=>False,fn.ntmps,[],none,w.heap.size⟩) rfl (Nat.le_refl _) hf hb (h _ rfl (Kp.none rfl) ⟨rfl,Nat.le_refl _⟩ _ w hR) fun τ' H' pl' a' w' x v h1 k1 k2=>⟨v,x,H',a',pl',τ',rfl,k1,k2,h1⟩
theorem zfg{f:FuncId}{fn:Func}{code:Code}{ds:List D}{r:AV}(he:zkb P f=true)(hf:P.funcs[f]? =some fn)(hb:fn.body=some code)(hn:ds.length≤fn.ntmps)
  (h:∀c:Cx,c.nt=fn.ntmps→Kp c []→Top c→AWp P c code (zef P fn fun x H=>closeA H x=some r) (zfq ds) []):zar P f ds r:=
 ⟨he,fun _ _ _ hl hx hE=>(zgj hf hb hn h hl hx hE).mono fun _ _ ⟨v,_,_,_,_,_,h1,h2,h3,h4⟩=>⟨v,h1,zie h4.h h2 h3,h4.stp.to_below⟩⟩
theorem zrf{f:FuncId}{fn:Func}{code:Code}{ds:List D}{Q:AV→Prop}(he:zkb P f=true)(hf:P.funcs[f]? =some fn)(hb:fn.body=some code)(hn:ds.length≤fn.ntmps)
  (h:∀c:Cx,c.nt=fn.ntmps→Kp c []→Top c→AWp P c code (zef P fn fun x H=>∃r,closeA H x=some r∧Q r) (zfq ds) []):zh6 P f ds Q:=
 ⟨he,fun _ _ _ hl hx hE=>(zgj hf hb hn h hl hx hE).mono fun _ _ ⟨v,_,_,_,_,_,h1,⟨r,h2,h5⟩,h3,h4⟩=>⟨v,r,h1,h5,zie h4.h h2 h3,h4.stp.to_below⟩⟩
theorem zay{f:FuncId}{fn:Func}{code:Code}{ds:List D}{r:AV}(he:zkb P f=true)(hf:P.funcs[f]? =some fn)(hb:fn.body=some code)(hn:ds.length≤fn.ntmps)
  (h:∀c:Cx,c.nt=fn.ntmps→Kp c []→AWp P c code (zef P fn fun x H=>closeA H x=some r) (zfq ds) []):zar P f ds r:=zfg he hf hb hn fun c h1 h2 _=>h c h1 h2
theorem zrg{f:FuncId}{fn:Func}{code:Code}{ds:List D}{Q:AV→Prop}(he:zkb P f=true)(hf:P.funcs[f]? =some fn)(hb:fn.body=some code)(hn:ds.length≤fn.ntmps)
  (h:∀c:Cx,c.nt=fn.ntmps→Kp c []→AWp P c code (zef P fn fun x H=>∃r,closeA H x=some r∧Q r) (zfq ds) []):zh6 P f ds Q:=zrf he hf hb hn fun c h1 h2 _=>h c h1 h2
end
section
variable {P:Program} {fr:List FuncId} {ops l:List Oper} {τ:Fr} {H:zaa} {d:Option Tmp} {ty:TypeId} {pos:String} {af:Array Edge} {K:Fr→zaa→Prop} {t:TypeId}
variable {KV:Value→Prop} {a b:Bool}
theorem zpp{n:Nat}{zs:List D}:zfo n zs=match zs with|[z]=>List.replicate n (.d z)|zs=>(List.replicate n (zs.map AV.d)).flatten:=rfl
theorem zpq{pf:Nat→Option (Nat × Nat)}{cs:List AV}:zhn pf cs []=some cs:=rfl
theorem zmc{pf:Nat→Option (Nat × Nat)}{cs:List AV}{i:Nat}{x:AV}{ps:List (Nat × AV)}:zhn pf cs ((i,x)::ps)=match pf i with
  |none=>none
  |some (off,size)=>match zbw x with
   |none=>none
   |some l=>if l.length≠size∨off+l.length>cs.length then none else zhn pf (zb5 cs off l) ps:=rfl
theorem zz4{k:IntKind}{n:Int}:zbw (.d (.val (.int k n)))=some [.d (.val (.int k n))]:=rfl
theorem ztv{b:Bool}:zbw (.d (.val (.bool b)))=some [.d (.val (.bool b))]:=rfl
theorem jgd{cs:List D}{n:Nat}:zbw (.d (.fs cs n))=some [.d (.fs cs n)]:=rfl
theorem jge{k id off n:Nat}:zbw (.os k id off n)=some [.os k id off n]:=rfl
theorem zz5{cs:List AV}:zbw (.agg cs)=if cs.all AV.one then some cs else none:=rfl
theorem ztw{cs:List D}:zbw (.d (.agg cs))=if cs.all D.one then some (cs.map .d)else none:=rfl
theorem zpr{cs:List AV}{i:Nat}:zb5 cs i []=cs:=rfl
theorem zmd{cs l:List AV}{i:Nat}{x:AV}:zb5 cs i (x::l)=zb5 (cs.set i x) (i+1) l:=rfl
end
/- Of no program: a run that simp carries out, each step in its turn. -/
end
section
def zn7{α:Type}(o:Option α)(K:α→Prop):Prop:=∃x,o=some x∧K x
theorem zcr{α:Type}{x:α}{K:α→Prop}:zn7 (some x) K=K x:=by simp[zn7]
def GK(g:Option Bool)(A B:Prop):Prop:=match g with|some true=>A|some false=>B|none=>False
inductive Tg.{u} {α:Sort u} (a:α):Type where
 |mk
def tg.{u}{α:Sort u}(a:α):Tg a:=.mk
def oK{α:Type}{K:α→Prop}(o:Option α)(_:Tg K):Prop:=zn7 o K
theorem ztx{α:Type}{x:α}{K:α→Prop}:oK (some x) (tg K)=K x:=zcr
def gK{A B:Prop}(g:Option Bool)(_:Tg A)(_:Tg B):Prop:=GK g A B
theorem jnb{A B:Prop}:gK (some true) (tg A) (tg B)=A:=rfl
theorem jnc{A B:Prop}:gK (some false) (tg A) (tg B)=B:=rfl
def zty(P:Program)(sm:List Nat)(N:Nat)(H:zaa)(τ:Fr)(f:AV)(xs:List AV)(inl:Bool)(KK:AV→zaa→Prop):Prop:=
 (∃x,zq8 P N H f xs x∧KK x H)∨(inl=true∧∃n fi ca,zcz f=some (n,fi,ca)∧(IcS P n (fi++xs++ca) H KK∨(∃ds Q,AV.toD.toDs (fi++xs++ca)=some ds∧zh6 P n ds Q∧∀x,Q x→KK x H)∨ScK P sm n (fi++xs++ca) τ H KK))∨
  inl=true∧∃l,f= .d (.val (.func (.yield l) #[] #[]))∧YcK P sm l xs τ H KK
def kC{KK:AV→zaa→Prop}(P:Program)(sm:List Nat)(N:Nat)(H:zaa)(τ:Fr)(f:AV)(xs:List AV)(inl:Bool)(_:Tg KK):Prop:=zty P sm N H τ f xs inl KK
def cT(P:Program)(KT:TypeId→Bool)(sm:List Nat)(op:Op)(ρ:Operand→AV)(H:zaa)(KK:AV→zaa→Prop):Prop:=
 match kOf [] op with
 |0=>if zb6 op then(match op with
   | .call {callee:=.value f,args:=args,..}=>zty P sm H.length H (fun t=>ρ (.tmp t)) (ρ f) (args.toList.map ρ) true KK
   |_=>False)else zn7 (opF P H.length H KT ρ op) fun x=>KK x H
 |2=>(match op with
  | .store t p y=>zn7 (storeF P t (ρ p) (ρ y) H [] 0) fun H'=>KK (.d (.val undef)) H'
  |_=>False)
 |4=>zn7 (zz1 P KT ρ op H []) fun p=>KK p.1 p.2
 |_=>zn7 (layF P H.length ρ op H) fun p=>KK p.1 (deadH H p.2.2++[p.2.1])
def sT(P:Program)(KT:TypeId→Bool)(sm:List Nat)(ops:List Oper):List Oper→Fr→zaa→(Fr→zaa→Prop)→Prop
 |[],τ,H,K=>K τ H
 |o::l,τ,H,K=>GK (zbl ops τ o) (cT P KT sm o.op (zak τ) H fun x H'=>sT P KT sm ops l (τ.put o.dst x) H' K) (sT P KT sm ops l (τ.put o.dst (.d (.val undef))) H K)
def cE(P:Program)(KT:TypeId→Bool)(N r:Nat)(fresh:Bool)(m:List (Nat × Nat))(o:Oper)(ρ:Operand→AV)(H:zaa)(sh:List (Nat × Nat))(KK:AV→zaa→List (Nat × Nat)→Prop):Prop:=
 match kOf [] o.op with
 |0=>if zb6 o.op then(match o.op with
   | .call {callee:=.value f,args:=args,..}=>zty P [] N H (fun t=>ρ (.tmp t)) (ρ f) (args.toList.map ρ) false fun x _=>KK x H sh
   |_=>False)else zn7 (opF P N H KT ρ o.op) fun x=>KK x H sh
 |2=>(match o.op with
  | .store t p y=>zn7 (storeF P t (ρ p) (ρ y) H sh (if fresh then N else 0)) fun H'=>KK (.d (.val undef)) H' sh
  |_=>False)
 |4=>zn7 (zz1 P KT ρ o.op H sh) fun p=>KK p.1 p.2 sh
 |_=>zn7 (layEF P N r (zn3 m o.after.toList) ρ o.op H sh) fun p=>KK p.1 p.2.1 p.2.2
def sE(P:Program)(KT:TypeId→Bool)(ops:List Oper)(N:Nat):Nat→Nat→List (Nat × Nat)→List Oper→Fr→zaa→List (Nat × Nat)→(Fr→zaa→List (Nat × Nat)→Prop)→Prop
 |_,_,_,[],τ,H,sh,K=>K τ H sh
 |i,r,m,o::l,τ,H,sh,K=>GK (zbl ops τ o)
   (cE P KT N r (zcp ops o) m o (zak τ) H sh fun x H' sh'=>sE P KT ops N (i+1) (if lays [] o then r+1 else r) (if lays [] o then(i,r)::m else m) l (τ.put o.dst x) H' sh' K)
   (sE P KT ops N (i+1) (if lays [] o then r+1 else r) (if lays [] o then(i,r)::m else m) l (τ.put o.dst (.d (.val undef))) H sh K)
section
variable {P:Program} {KT:TypeId→Bool} {τ:Fr} {H:zaa}
theorem zgk{α:Type}{o:Option α}{K K':α→Prop}(hK:∀x,K x→K' x)(h:zn7 o K):zn7 o K':=by
 obtain⟨x,h1,h2⟩:=h;exact⟨x,h1,hK x h2⟩
theorem zrh{sm:List Nat}{N:Nat}{τ:Fr}{f:AV}{xs:List AV}{inl:Bool}{K K':AV→zaa→Prop}(hK:∀x H',K x H'→K' x H')(h:zty P sm N H τ f xs inl K):zty P sm N H τ f xs inl K':=by
 rcases h with⟨x,h1,h2⟩|⟨h0,n,fi,ca,h1,h2⟩|⟨h0,l,h1,m,S,T,K0,a1,a2,a3,a4,a5,a6,a7,a8⟩
 case inr.inr=>exact .inr (.inr ⟨h0,l,h1,m,S,T,K0,a1,a2,a3,a4,a5,a6,a7,fun x S' hx=>⟨(a8 x S' hx).1,hK _ _ (a8 x S' hx).2⟩⟩)
 ·exact .inl ⟨x,h1,hK _ _ h2⟩
 ·refine .inr (.inl ⟨h0,n,fi,ca,h1,?_⟩)
  rcases h2 with h2|⟨ds,Q,h2,h3,h4⟩|⟨m,S,T,K0,a1,a2,a3,a4,a5,a6,a7,a8⟩
  ·exact .inl (h2.mono hK)
  ·exact .inr (.inl ⟨ds,Q,h2,h3,fun x hx=>hK _ _ (h4 x hx)⟩)
  ·exact .inr (.inr ⟨m,S,T,K0,a1,a2,a3,a4,a5,a6,a7,fun x S' hx=>⟨(a8 x S' hx).1,hK _ _ (a8 x S' hx).2⟩⟩)
theorem jch{sm:List Nat}{op:Op}{ρ:Operand→AV}{K K':AV→zaa→Prop}(hK:∀x H',K x H'→K' x H')(h:cT P KT sm op ρ H K):cT P KT sm op ρ H K':=by
 unfold cT at h ⊢
 split at h
 ·split at h
  ·rename_i hc
   rw[if_pos hc]
   split at h
   ·exact zrh hK h
   ·exact h.elim
  ·rename_i hc
   rw[if_neg hc]
   exact zgk (fun x=>hK x H) h
 ·split at h
  ·exact zgk (fun x=>hK _ x) h
  ·exact h.elim
 ·exact zgk (fun p=>hK p.1 p.2) h
 ·exact zgk (fun p=>hK p.1 _) h
theorem zjw{N r:Nat}{fresh:Bool}{m:List (Nat × Nat)}{o:Oper}{sh:List (Nat × Nat)}{K K':AV→zaa→List (Nat × Nat)→Prop}(hK:∀x H' sh',K x H' sh'→K' x H' sh')(h:zf3 P [] N r fresh m o τ H sh K):zf3 P [] N r fresh m o τ H sh K':=by
 unfold zf3 at h ⊢
 split at h
 ·obtain⟨x,h1,h2⟩:=h;exact⟨x,h1,hK _ _ _ h2⟩
 ·obtain⟨x,h1,h2⟩:=h;exact⟨x,h1,hK _ _ _ h2⟩
 ·obtain⟨x,y,h1,h2⟩:=h;exact⟨x,y,h1,hK _ _ _ h2⟩
 ·obtain⟨a1,a2,a3,x,H',sh',h1,h2⟩:=h;exact⟨a1,a2,a3,x,H',sh',h1,hK _ _ _ h2⟩
end
section
variable {P:Program} {KT:TypeId→Bool} {c:Cx} {τ:Fr} {H:zaa} {Q:Exit→Fr→zaa→Prop} {ops:List Oper}
theorem zfh{g:Option Bool}{A B:Prop}(h:GK g A B):∃b,g=some b∧(b=true→A)∧(b=false→B):=by
 unfold GK at h
 split at h
 ·exact⟨true,rfl,fun _=>h,fun e=>by cases e⟩
 ·exact⟨false,rfl,(fun e=>by cases e),fun _=>h⟩
 ·exact h.elim
theorem jk8{sm:List Nat}(hKT:∀k,KT k=true→Maps.Keyed P k){o:Oper}{K:Fr→zaa→Prop}(h:cT P KT sm o.op (zak τ) H fun x H'=>K (τ.put o.dst x) H'):zrb P [] sm o τ H K:=by
 unfold cT at h
 unfold zrb
 split at h
 ·rename_i hk
  simp only[hk]
  split at h
  ·split at h
   ·rename_i f args ts e
    rw[e]
    rcases h with⟨x,hq,hx⟩|⟨_,n,fi,ca,hc,hq⟩|⟨_,l,hl,hq⟩
    ·exact .inl ⟨x,hq,hx⟩
    ·exact .inr (.inl ⟨n,fi,ca,hc,hq⟩)
    ·exact .inr (.inr ⟨l,hl,hq⟩)
   ·exact h.elim
  ·obtain⟨x,hx,hK⟩:=h
   exact .inl ⟨x,zpk hKT hx,hK⟩
 ·rename_i hk
  simp only[hk]
  split at h
  ·rename_i t p y e
   obtain⟨H1,hH,hK⟩:=h
   rw[e]
   exact⟨_,zez hH,hK⟩
  ·exact h.elim
 ·rename_i hk
  simp only[hk]
  obtain⟨p,hp,hK⟩:=h
  exact⟨p.1,p.2,zil hKT hp,hK⟩
 ·rename_i hk0 hk2 hk4
  obtain⟨⟨x,ob,dd⟩,hl,hK⟩:=h
  have hlay:=zkm hl (K:=fun x H'=>K (τ.put o.dst x) H') hK
  rcases zkl hk0 hk2 hk4 with hk|hk
  ·simp only[hk];exact hlay
  ·simp only[hk];exact hlay
theorem zxt{sm:List Nat}(hKT:∀k,KT k=true→Maps.Keyed P k){K:Fr→zaa→Prop}:∀{os:List Oper} {τ:Fr} {H:zaa},sT P KT sm ops os τ H K→zzw P [] sm ops os τ H K
 |[],_,_,h=>h
 |o::os,τ,H,h=>by
  obtain⟨b,hg,ht,hf⟩:=zfh h
  refine⟨b,hg,fun e=>jk8 hKT ?_,fun e=>zxt hKT (hf e)⟩
  have:=ht e
  exact jch (fun x H' hh=>zxt hKT hh) this
theorem jci(hKT:∀k,KT k=true→Maps.Keyed P k){N r:Nat}{fresh:Bool}{m:List (Nat × Nat)}{o:Oper}{sh:List (Nat × Nat)}{K:AV→zaa→List (Nat × Nat)→Prop}(h:cE P KT N r fresh m o (zak τ) H sh K):zf3 P [] N r fresh m o τ H sh K:=by
 unfold cE at h
 unfold zf3
 split at h
 ·rename_i hk
  simp only[hk]
  split at h
  ·split at h
   ·rename_i f args ts e
    rw[e]
    rcases h with⟨x,hq,hx⟩|⟨e,_⟩|⟨e,_⟩
    ·exact⟨x,hq,hx⟩
    ·cases e
    ·cases e
   ·exact h.elim
  ·obtain⟨x,hx,hK⟩:=h
   exact⟨x,zpk hKT hx,hK⟩
 ·rename_i hk
  simp only[hk]
  split at h
  ·rename_i t p y e
   obtain⟨H1,hH,hK⟩:=h
   rw[e]
   exact⟨_,zez hH,hK⟩
  ·exact h.elim
 ·rename_i hk
  simp only[hk]
  obtain⟨p,hp,hK⟩:=h
  exact⟨p.1,p.2,zil hKT hp,hK⟩
 ·rename_i hk0 hk2 hk4
  obtain⟨⟨x,H',sh'⟩,hl,hK⟩:=h
  have:=zn6 hl hK
  rcases zkl hk0 hk2 hk4 with hk|hk
  ·simp only[hk];exact this
  ·simp only[hk];exact this
theorem zxu(hKT:∀k,KT k=true→Maps.Keyed P k){N:Nat}{K:Fr→zaa→List (Nat × Nat)→Prop}:∀{os:List Oper} {i r:Nat} {m:List (Nat × Nat)} {τ:Fr} {H:zaa} {sh:List (Nat × Nat)},sE P KT ops N i r m os τ H sh K→zzx P [] ops N i r m os τ H sh K
 |[],_,_,_,_,_,_,h=>h
 |o::os,i,r,m,τ,H,sh,h=>by
  obtain⟨b,hg,ht,hf⟩:=zfh h
  exact⟨b,hg,fun e=>zjw (fun x H' sh' hh=>zxu hKT hh) (jci hKT (ht e)),fun e=>zxu hKT (hf e)⟩
theorem zag{sm:List Nat}(hc0:Kp c sm)(hKT:∀k,KT k=true→Maps.Keyed P k){id:Nat}{l:List Oper}{y:Code}{n:Nat}(hn:c.nt=n)(hd:zc8 n l=true)(h:∀K:Fr→zaa→Prop,(∀τ H,AWp P c y Q τ H→K τ H)→sT P KT sm l l τ H K):AWp P c (.seq (.region id l.toArray false) y) Q τ H:=
 zs5 (fr:=[]) hc0 hn hd fun K hK=>zxt hKT (h K hK)
theorem zbc{sm:List Nat}(hc0:Kp c sm)(hKT:∀k,KT k=true→Maps.Keyed P k){id:Nat}{l:List Oper}{n:Nat}(hn:c.nt=n)(hd:zc8 n l=true)(h:∀K:Fr→zaa→Prop,(∀τ H,Q .normal τ H→K τ H)→sT P KT sm l l τ H K):AWp P c (.region id l.toArray false) Q τ H:=
 jkz (fr:=[]) hc0 hn hd fun K hK=>zxt hKT (h K hK)
theorem zba(hKT:∀k,KT k=true→Maps.Keyed P k){id:Nat}{l:List Oper}{y:Code}{n:Nat}(hn:c.nt=n)(hm:P.follows .mixedOrders=true)(hd:zc8 n l=true){q:Nat}(hq:l.countP (lays [])=q)(hB:zs3 [] l l.length 0 (Array.replicate l.length false)=true)
  (h:∀K:Fr→zaa→Prop,(∀τ H,AWp P c y Q τ H→K τ H)→sE P KT l H.length 0 0 [] l τ (H++List.replicate q .free) [] fun τ' H' sh'=>K τ' (killAll sh' H')):AWp P c (.seq (.region id l.toArray true) y) Q τ H:=
 zma (fr:=[]) hn hm hd hq hB fun K hK=>zxu hKT (h K hK)
theorem zjx(hKT:∀k,KT k=true→Maps.Keyed P k){id:Nat}{l:List Oper}{n:Nat}(hn:c.nt=n)(hm:P.follows .mixedOrders=true)(hd:zc8 n l=true){q:Nat}(hq:l.countP (lays [])=q)(hB:zs3 [] l l.length 0 (Array.replicate l.length false)=true)
  (h:∀K:Fr→zaa→Prop,(∀τ H,Q .normal τ H→K τ H)→sE P KT l H.length 0 0 [] l τ (H++List.replicate q .free) [] fun τ' H' sh'=>K τ' (killAll sh' H')):AWp P c (.region id l.toArray true) Q τ H:=
 jf5 (fr:=[]) hn hm hd hq hB fun K hK=>zxu hKT (h K hK)
end
section
variable {P:Program} {KT:TypeId→Bool} {sm:List Nat} {ops l:List Oper} {τ:Fr} {H:zaa} {sh:List (Nat × Nat)} {N i r:Nat} {m:List (Nat × Nat)} {d:Option Tmp} {op:Op} {ty:TypeId} {pos:String} {af:Array Edge} {K:Fr→zaa→Prop} {KD:Fr→zaa→List (Nat × Nat)→Prop}
theorem zz6:sT P KT sm ops [] τ H K=K τ H:=rfl
theorem zz7:sE P KT ops N i r m [] τ H sh KD=KD τ H sh:=rfl
theorem jnd{j:Nat}{want:Bool}:sT P KT sm ops (⟨d,op,ty,pos,af,some (j,want)⟩::l) τ H K=gK (zbl ops τ ⟨d,op,ty,pos,af,some (j,want)⟩) (tg (sT P KT sm ops (⟨d,op,ty,pos,af,none⟩::l) τ H K)) (tg (sT P KT sm ops l (τ.put d (.d (.val undef))) H K)):=rfl
theorem ztz{y:Operand}:sT P KT sm ops (⟨d,.move y,ty,pos,af,none⟩::l) τ H K=(sT P KT sm ops l (τ.put d (zak τ y)) H K):=by simp[sT,sE,zbl,GK,cT,cE,kOf,zb6,opF,zcr,lays]
theorem zt0{y:Operand}:sE P KT ops N i r m (⟨d,.move y,ty,pos,af,none⟩::l) τ H sh KD=(sE P KT ops N (i+1) r m l (τ.put d (zak τ y)) H sh KD):=by simp[sT,sE,zbl,GK,cT,cE,kOf,zb6,opF,zcr,lays]
theorem zme{y:Operand}:sT P KT sm ops (⟨d,.assign y,ty,pos,af,none⟩::l) τ H K=(sT P KT sm ops l (τ.put d (zak τ y)) H K):=by simp[sT,sE,zbl,GK,cT,cE,kOf,zb6,opF,zcr,lays]
theorem zmf{y:Operand}:sE P KT ops N i r m (⟨d,.assign y,ty,pos,af,none⟩::l) τ H sh KD=(sE P KT ops N (i+1) r m l (τ.put d (zak τ y)) H sh KD):=by simp[sT,sE,zbl,GK,cT,cE,kOf,zb6,opF,zcr,lays]
theorem zt1{c a b:Operand}:sT P KT sm ops (⟨d,.pick c a b,ty,pos,af,none⟩::l) τ H K=(oK (match zak τ c with| .d (.val (.bool t))=>some (if t then zak τ a else zak τ b)|_=>none)<|tg fun x=>sT P KT sm ops l (τ.put d x) H K):=rfl
theorem zt2{c a b:Operand}:sE P KT ops N i r m (⟨d,.pick c a b,ty,pos,af,none⟩::l) τ H sh KD=(oK (match zak τ c with| .d (.val (.bool t))=>some (if t then zak τ a else zak τ b)|_=>none)<|tg fun x=>sE P KT ops N (i+1) r m l (τ.put d x) H sh KD):=rfl
theorem zt3{t:TypeId}{y:Operand}:sT P KT sm ops (⟨d,.load t y,ty,pos,af,none⟩::l) τ H K=(oK (loadF P H.length H t (zak τ y))<|tg fun x=>sT P KT sm ops l (τ.put d x) H K):=rfl
theorem zt4{t:TypeId}{y:Operand}:sE P KT ops N i r m (⟨d,.load t y,ty,pos,af,none⟩::l) τ H sh KD=(oK (loadF P N H t (zak τ y))<|tg fun x=>sE P KT ops N (i+1) r m l (τ.put d x) H sh KD):=rfl
theorem jgf{t:TypeId}{y:Operand}{f:Nat}:sT P KT sm ops (⟨d,.fieldAddr t y f,ty,pos,af,none⟩::l) τ H K=(oK (fieldAddrF P t f (zak τ y))<|tg fun x=>sT P KT sm ops l (τ.put d x) H K):=rfl
theorem jgg{t:TypeId}{y:Operand}{f:Nat}:sE P KT ops N i r m (⟨d,.fieldAddr t y f,ty,pos,af,none⟩::l) τ H sh KD=(oK (fieldAddrF P t f (zak τ y))<|tg fun x=>sE P KT ops N (i+1) r m l (τ.put d x) H sh KD):=rfl
theorem zps{t:TypeId}{y:Operand}{f:Nat}:sT P KT sm ops (⟨d,.field t y f,ty,pos,af,none⟩::l) τ H K=(oK (fieldF P t f (zak τ y))<|tg fun x=>sT P KT sm ops l (τ.put d x) H K):=rfl
theorem zpt{t:TypeId}{y:Operand}{f:Nat}:sE P KT ops N i r m (⟨d,.field t y f,ty,pos,af,none⟩::l) τ H sh KD=(oK (fieldF P t f (zak τ y))<|tg fun x=>sE P KT ops N (i+1) r m l (τ.put d x) H sh KD):=rfl
theorem jgh{t:TypeId}{y z:Operand}:sT P KT sm ops (⟨d,.indexAddr t y z,ty,pos,af,none⟩::l) τ H K=(oK (indexAddrF P t (zak τ y) (zak τ z))<|tg fun x=>sT P KT sm ops l (τ.put d x) H K):=rfl
theorem jgi{t:TypeId}{y z:Operand}:sE P KT ops N i r m (⟨d,.indexAddr t y z,ty,pos,af,none⟩::l) τ H sh KD=(oK (indexAddrF P t (zak τ y) (zak τ z))<|tg fun x=>sE P KT ops N (i+1) r m l (τ.put d x) H sh KD):=rfl
theorem zpu{t:TypeId}{y:Operand}{lo hi:Option Operand}:sT P KT sm ops (⟨d,.slice t y lo hi none,ty,pos,af,none⟩::l) τ H K=(oK (sliceF P H.length H t (zak τ y) (lo.map (zak τ)) (hi.map (zak τ)))<|tg fun x=>sT P KT sm ops l (τ.put d x) H K):=rfl
theorem zz8{op:BinOp}{t t':TypeId}{y z:Operand}:sT P KT sm ops (⟨d,.binOp op t y z t',ty,pos,af,none⟩::l) τ H K=(oK (zxp P op t (zak τ y) (zak τ z))<|tg fun x=>sT P KT sm ops l (τ.put d x) H K):=rfl
theorem zz9{op:BinOp}{t t':TypeId}{y z:Operand}:sE P KT ops N i r m (⟨d,.binOp op t y z t',ty,pos,af,none⟩::l) τ H sh KD=(oK (zxp P op t (zak τ y) (zak τ z))<|tg fun x=>sE P KT ops N (i+1) r m l (τ.put d x) H sh KD):=rfl
theorem jgj{op:UnOp}{t:TypeId}{y:Operand}:sT P KT sm ops (⟨d,.unOp op t y,ty,pos,af,none⟩::l) τ H K=(oK (unF op (zak τ y))<|tg fun x=>sT P KT sm ops l (τ.put d x) H K):=rfl
theorem jgk{op:UnOp}{t:TypeId}{y:Operand}:sE P KT ops N i r m (⟨d,.unOp op t y,ty,pos,af,none⟩::l) τ H sh KD=(oK (unF op (zak τ y))<|tg fun x=>sE P KT ops N (i+1) r m l (τ.put d x) H sh KD):=rfl
theorem zt5{s t:TypeId}{y:Operand}:sT P KT sm ops (⟨d,.convert s t y,ty,pos,af,none⟩::l) τ H K=(oK (convF P s t (zak τ y))<|tg fun x=>sT P KT sm ops l (τ.put d x) H K):=rfl
theorem zpv{t:TypeId}{ps:Array (Nat × Operand)}:sT P KT sm ops (⟨d,.build t ps,ty,pos,af,none⟩::l) τ H K=(oK (buildF P t (ps.toList.map fun p=>(p.1,zak τ p.2)))<|tg fun x=>sT P KT sm ops l (τ.put d x) H K):=rfl
theorem zpw{t:TypeId}{ps:Array (Nat × Operand)}:sE P KT ops N i r m (⟨d,.build t ps,ty,pos,af,none⟩::l) τ H sh KD=(oK (buildF P t (ps.toList.map fun p=>(p.1,zak τ p.2)))<|tg fun x=>sE P KT ops N (i+1) r m l (τ.put d x) H sh KD):=rfl
theorem zjy{y:Operand}{ix:Nat}:sT P KT sm ops (⟨d,.extract y ix,ty,pos,af,none⟩::l) τ H K=(oK (match zak τ y with| .tup vs=>vs[ix]? |_=>none)<|tg fun x=>sT P KT sm ops l (τ.put d x) H K):=rfl
theorem jgl{fn:Fn}{fi ca:Array Operand}:sT P KT sm ops (⟨d,.makeFunc fn fi ca,ty,pos,af,none⟩::l) τ H K=(sT P KT sm ops l (τ.put d (.clo fn (fi.toList.map (zak τ)) (ca.toList.map (zak τ)))) H K):=by simp[sT,sE,zbl,GK,cT,cE,kOf,zb6,opF,zcr,lays]
theorem jaa{args:Array Operand}{ts:Array TypeId}:sT P KT sm ops (⟨d,.call ⟨.builtin .len,args,ts⟩,ty,pos,af,none⟩::l) τ H K=(oK (builtinF P .len ts.toList (args.toList.map (zak τ)))<|tg fun x=>sT P KT sm ops l (τ.put d x) H K):=rfl
theorem jab{args:Array Operand}{ts:Array TypeId}:sE P KT ops N i r m (⟨d,.call ⟨.builtin .len,args,ts⟩,ty,pos,af,none⟩::l) τ H sh KD=(oK (builtinF P .len ts.toList (args.toList.map (zak τ)))<|tg fun x=>sE P KT ops N (i+1) r m l (τ.put d x) H sh KD):=rfl
theorem jac{args:Array Operand}{ts:Array TypeId}:sT P KT sm ops (⟨d,.call ⟨.builtin .max,args,ts⟩,ty,pos,af,none⟩::l) τ H K=(oK (builtinF P .max ts.toList (args.toList.map (zak τ)))<|tg fun x=>sT P KT sm ops l (τ.put d x) H K):=rfl
theorem jad{args:Array Operand}{ts:Array TypeId}:sE P KT ops N i r m (⟨d,.call ⟨.builtin .max,args,ts⟩,ty,pos,af,none⟩::l) τ H sh KD=(oK (builtinF P .max ts.toList (args.toList.map (zak τ)))<|tg fun x=>sE P KT ops N (i+1) r m l (τ.put d x) H sh KD):=rfl
theorem jae{args:Array Operand}{ts:Array TypeId}:sT P KT sm ops (⟨d,.call ⟨.builtin .min,args,ts⟩,ty,pos,af,none⟩::l) τ H K=(oK (builtinF P .min ts.toList (args.toList.map (zak τ)))<|tg fun x=>sT P KT sm ops l (τ.put d x) H K):=rfl
theorem jaf{args:Array Operand}{ts:Array TypeId}:sE P KT ops N i r m (⟨d,.call ⟨.builtin .min,args,ts⟩,ty,pos,af,none⟩::l) τ H sh KD=(oK (builtinF P .min ts.toList (args.toList.map (zak τ)))<|tg fun x=>sE P KT ops N (i+1) r m l (τ.put d x) H sh KD):=rfl
theorem zpx{f:FuncId}{args:Array Operand}{ts:Array TypeId}:sT P KT sm ops (⟨d,.call ⟨.value (.func f),args,ts⟩,ty,pos,af,none⟩::l) τ H K=(kC P sm H.length H τ ((zak τ (.func f))) (args.toList.map (zak τ)) true<|tg fun x H'=>sT P KT sm ops l (τ.put d x) H' K):=rfl
theorem zpy{f:FuncId}{args:Array Operand}{ts:Array TypeId}:sE P KT ops N i r m (⟨d,.call ⟨.value (.func f),args,ts⟩,ty,pos,af,none⟩::l) τ H sh KD=(kC P [] N H τ ((zak τ (.func f))) (args.toList.map (zak τ)) false<|tg fun x _=>sE P KT ops N (i+1) r m l (τ.put d x) H sh KD):=rfl
theorem zpz{f:Nat}{args:Array Operand}{ts:Array TypeId}:sT P KT sm ops (⟨d,.call ⟨.value (.tmp f),args,ts⟩,ty,pos,af,none⟩::l) τ H K=(kC P sm H.length H τ ((zak τ (.tmp f))) (args.toList.map (zak τ)) true<|tg fun x H'=>sT P KT sm ops l (τ.put d x) H' K):=rfl
theorem zp0{f:Nat}{args:Array Operand}{ts:Array TypeId}:sE P KT ops N i r m (⟨d,.call ⟨.value (.tmp f),args,ts⟩,ty,pos,af,none⟩::l) τ H sh KD=(kC P [] N H τ ((zak τ (.tmp f))) (args.toList.map (zak τ)) false<|tg fun x _=>sE P KT ops N (i+1) r m l (τ.put d x) H sh KD):=rfl
theorem jag{t:TypeId}{y:Operand}:sT P KT sm ops (⟨d,.box t y,ty,pos,af,none⟩::l) τ H K=(oK (layF P H.length (zak τ) (.box t y) H)<|tg fun p=>sT P KT sm ops l (τ.put d p.1) (deadH H p.2.2++[p.2.1]) K):=rfl
theorem zp1{t:TypeId}:sT P KT sm ops (⟨d,.alloc t,ty,pos,af,none⟩::l) τ H K=(oK (layF P H.length (zak τ) (.alloc t) H)<|tg fun p=>sT P KT sm ops l (τ.put d p.1) (deadH H p.2.2++[p.2.1]) K):=rfl
theorem zt6{t:TypeId}{y z:Operand}:sT P KT sm ops (⟨d,.makeSlice t y z,ty,pos,af,none⟩::l) τ H K=(oK (layF P H.length (zak τ) (.makeSlice t y z) H)<|tg fun p=>sT P KT sm ops l (τ.put d p.1) (deadH H p.2.2++[p.2.1]) K):=rfl
theorem jgm{t:TypeId}{n:Nat}{ps:Array (Nat × Operand)}:sT P KT sm ops (⟨d,.buildSlice t n ps,ty,pos,af,none⟩::l) τ H K=(oK (layF P H.length (zak τ) (.buildSlice t n ps) H)<|tg fun p=>sT P KT sm ops l (τ.put d p.1) (deadH H p.2.2++[p.2.1]) K):=rfl
theorem jgn{t:TypeId}{n:Nat}{ps:Array (Nat × Operand)}:sE P KT ops N i r m (⟨d,.buildSlice t n ps,ty,pos,af,none⟩::l) τ H sh KD=(oK (layEF P N r (zn3 m af.toList) (zak τ) (.buildSlice t n ps) H sh)<|tg fun p=>sE P KT ops N (i+1) (r+1) ((i,r)::m) l (τ.put d p.1) p.2.1 p.2.2 KD):=rfl
theorem jah{args:Array Operand}{ts:Array TypeId}:sT P KT sm ops (⟨d,.call ⟨.builtin .append,args,ts⟩,ty,pos,af,none⟩::l) τ H K=(oK (layF P H.length (zak τ) (.call ⟨.builtin .append,args,ts⟩) H)<|tg fun p=>sT P KT sm ops l (τ.put d p.1) (deadH H p.2.2++[p.2.1]) K):=rfl
theorem jai{args:Array Operand}{ts:Array TypeId}:sE P KT ops N i r m (⟨d,.call ⟨.builtin .append,args,ts⟩,ty,pos,af,none⟩::l) τ H sh KD=(oK (layEF P N r (zn3 m af.toList) (zak τ) (.call ⟨.builtin .append,args,ts⟩) H sh)<|tg fun p=>sE P KT ops N (i+1) (r+1) ((i,r)::m) l (τ.put d p.1) p.2.1 p.2.2 KD):=rfl
theorem zp2{t:TypeId}{y z:Operand}:sT P KT sm ops (⟨d,.store t y z,ty,pos,af,none⟩::l) τ H K=(oK (storeF P t (zak τ y) (zak τ z) H [] 0)<|tg fun H'=>sT P KT sm ops l (τ.put d (.d (.val undef))) H' K):=rfl
theorem zp3{t:TypeId}{y z:Operand}:sE P KT ops N i r m (⟨d,.store t y z,ty,pos,af,none⟩::l) τ H sh KD=(oK (storeF P t (zak τ y) (zak τ z) H sh (if zcp ops ⟨d,.store t y z,ty,pos,af,none⟩then N else 0))<|tg fun H'=>sE P KT ops N (i+1) r m l (τ.put d (.d (.val undef))) H' sh KD):=rfl
theorem jol{j:Nat}{want:Bool}(hl:lays [] ⟨d,op,ty,pos,af,none⟩=false):sE P KT ops N i r m (⟨d,op,ty,pos,af,some (j,want)⟩::l) τ H sh KD=gK (zbl ops τ ⟨d,op,ty,pos,af,some (j,want)⟩) (tg (sE P KT ops N i r m (⟨d,op,ty,pos,af,none⟩::l) τ H sh KD)) (tg (sE P KT ops N (i+1) r m l (τ.put d (.d (.val undef))) H sh KD)):=by
 have h1:lays [] ⟨d,op,ty,pos,af,some (j,want)⟩=false:=hl
 have h2:zcp ops ⟨d,op,ty,pos,af,some (j,want)⟩=zcp ops ⟨d,op,ty,pos,af,none⟩:=rfl
 show _=GK _ _ _
 simp only[sE,h1,hl,h2,Bool.false_eq_true,if_false];rfl
theorem jk9{j:Nat}{want:Bool}(hl:lays [] ⟨d,op,ty,pos,af,none⟩=true):sE P KT ops N i r m (⟨d,op,ty,pos,af,some (j,want)⟩::l) τ H sh KD=gK (zbl ops τ ⟨d,op,ty,pos,af,some (j,want)⟩) (tg (sE P KT ops N i r m (⟨d,op,ty,pos,af,none⟩::l) τ H sh KD)) (tg (sE P KT ops N (i+1) (r+1) ((i,r)::m) l (τ.put d (.d (.val undef))) H sh KD)):=by
 have h1:lays [] ⟨d,op,ty,pos,af,some (j,want)⟩=true:=hl
 have h2:zcp ops ⟨d,op,ty,pos,af,some (j,want)⟩=zcp ops ⟨d,op,ty,pos,af,none⟩:=rfl
 show _=GK _ _ _
 simp only[sE,h1,hl,h2,if_true];rfl
theorem jgo{j:Nat}{want:Bool}:sE P KT ops N i r m (⟨d,op,ty,pos,af,some (j,want)⟩::l) τ H sh KD=gK (zbl ops τ ⟨d,op,ty,pos,af,some (j,want)⟩) (tg (sE P KT ops N i r m (⟨d,op,ty,pos,af,none⟩::l) τ H sh KD)) (tg (sE P KT ops N (i+1) (if lays [] ⟨d,op,ty,pos,af,none⟩then r+1 else r) (if lays [] ⟨d,op,ty,pos,af,none⟩then(i,r)::m else m) l (τ.put d (.d (.val undef))) H sh KD)):=by
 cases hl:lays [] ⟨d,op,ty,pos,af,none⟩with
 |false=>rw[jol hl];rfl
 |true=>rw[jk9 hl];rfl
theorem zbj{f:FuncId}{args:List AV}{ds:List D}{x:AV}{inl:Bool}{KK:AV→zaa→Prop}(hp:zar P f ds x)(hd:AV.toD.toDs args=some ds)(hK:KK x H):kC P sm N H τ (.d (.val (.func (.func f) #[] #[]))) args inl (tg KK):=.inl (jcd hp hd hK)
theorem zfs{f:FuncId}{args:List AV}{ds:List D}{v:Value}{inl:Bool}{KK:AV→zaa→Prop}(hp:zar P f ds (.d (.val v)))(hd:zco (zde H N) 9 args=some ds)(hK:KK (.d (.val v)) H):kC P sm N H τ (.d (.val (.func (.func f) #[] #[]))) args inl (tg KK):=.inl (zxo (KA:=fun x=>KK x H) hp hd hK)
theorem jgp{f:FuncId}{args:List AV}{ds:List D}{Q:AV→Prop}{KK:AV→zaa→Prop}(hp:zh6 P f ds Q)(hd:AV.toD.toDs args=some ds)(hK:∀x,Q x→KK x H):kC P sm N H τ (.d (.val (.func (.func f) #[] #[]))) args true (tg KK):=
 .inr (.inl ⟨rfl,f,[],[],rfl,.inr (.inl ⟨ds,Q,by simpa using hd,hp,hK⟩)⟩)
theorem jla{f:FuncId}{args:List AV}{KK:AV→zaa→Prop}(h:IcS P f args H KK):kC P sm N H τ (.d (.val (.func (.func f) #[] #[]))) args true (tg KK):=
 .inr (.inl ⟨rfl,f,[],[],rfl,.inl (by simpa using h)⟩)
theorem zt7{f:FuncId}{fi ca:List D}{args:List AV}{ds:List D}{x:AV}{inl:Bool}{KK:AV→zaa→Prop}(hp:zar P f (fi++ds++ca) x)(hd:AV.toD.toDs (fi.map .d++args++ca.map .d)=some (fi++ds++ca))(hK:KK x H):kC P sm N H τ (.d (.clo (.func f) fi ca)) args inl (tg KK):=
 .inl ⟨x,⟨f,fi.map .d,ca.map .d,fi++ds++ca,rfl,.inl ⟨.inl hd,hp⟩⟩,hK⟩
theorem jgq{f:FuncId}{args:List AV}{K0 KK:AV→zaa→Prop}(h:IcS P f args H K0)(hK:∀x H',K0 x H'→KK x H'):kC P sm N H τ (.d (.val (.func (.func f) #[] #[]))) args true (tg KK):=jla (h.mono hK)
theorem jcj{f:FuncId}{args:List AV}{S T:zaa}{K0 KK:AV→zaa→Prop}{ks:List Nat}(h:ScS P ks f args S K0)(hH:H=S++T)(hm:sm.all (okI ks S.length)=true)(hτ:∀t,(τ t).allI (okI ks S.length)=true)(ha:AV.allIs (ltI S.length) args=true)
  (hS:∀o∈S,o.allI (ltI S.length)=true) (hT:∀o∈T,o.allI (okI ks S.length)=true) (hK:∀x S',K0 x S'→S'.length=S.length∧KK x (S'++T)):kC P sm N H τ (.d (.val (.func (.func f) #[] #[]))) args true (tg KK):=
 .inr (.inl ⟨rfl,f,[],[],rfl,.inr (.inr ⟨ks,S,T,K0,hH,hm,hτ,by simpa using ha,hS,hT,by simpa using h,hK⟩)⟩)
theorem jlb{l:Nat}{args:List AV}{S T:zaa}{K0 KK:AV→zaa→Prop}{ks:List Nat}(h:YsS P ks l args S K0)(hH:H=S++T)(hm:sm.all (okI ks S.length)=true)(hτ:∀t,(τ t).allI (okI ks S.length)=true)(ha:AV.allIs (ltI S.length) args=true)
  (hS:∀o∈S,o.allI (ltI S.length)=true) (hT:∀o∈T,o.allI (okI ks S.length)=true) (hK:∀x S',K0 x S'→S'.length=S.length∧KK x (S'++T)):kC P sm N H τ (.d (.val (.func (.yield l) #[] #[]))) args true (tg KK):=
 .inr (.inr ⟨rfl,l,rfl,ks,S,T,K0,hH,hm,hτ,ha,hS,hT,h,hK⟩)
theorem jaj{f:FuncId}{fi ca args:List AV}{S T:zaa}{K0 KK:AV→zaa→Prop}{ks:List Nat}(h:ScS P ks f (fi++args++ca) S K0)(hH:H=S++T)(hm:sm.all (okI ks S.length)=true)(hτ:∀t,(τ t).allI (okI ks S.length)=true)(ha:AV.allIs (ltI S.length) (fi++args++ca)=true)
  (hS:∀o∈S,o.allI (ltI S.length)=true) (hT:∀o∈T,o.allI (okI ks S.length)=true) (hK:∀x S',K0 x S'→S'.length=S.length∧KK x (S'++T)):kC P sm N H τ (.clo (.func f) fi ca) args true (tg KK):=
 .inr (.inl ⟨rfl,f,fi,ca,rfl,.inr (.inr ⟨ks,S,T,K0,hH,hm,hτ,ha,hS,hT,h,hK⟩)⟩)
theorem zc9{p:Nat→Bool}{l:List (Nat × AV)}(h:AV.allIs p (l.map (·.2))=true)(t:Nat):(frL l t).allI p=true:=by
 induction l with
 |nil=>rfl
 |cons a l ih=>
  obtain⟨d,x⟩:=a
  rw[List.map_cons,AV.allIs,Bool.and_eq_true]at h
  rw[zgx]
  split
  ·exact h.1
  ·exact ih h.2
end
/- Of no program: what simp needs to carry out the run: values, conditions. -/
end
section
section
variable {P:Program} {t:TypeId} {a b:Int} {kk:IntKind}
theorem ifp{α:Type}{c:Prop}[Decidable c]{x y:α}(h:c):(if c then x else y)=x:=if_pos h
theorem ifn{α:Type}{c:Prop}[Decidable c]{x y:α}(h:¬c):(if c then x else y)=y:=if_neg h
theorem jak{op:BinOp}{u v:Value}:zxp P op t (.d (.val u)) (.d (.val v))=(zf8 P op t u v).map fun r=>.d (.val r):=rfl
def eqB(P:Program)(t:TypeId)(a b:Option (List Value)):Option Bool:=(jky P t).bind fun os=>a.bind fun a=>b.bind fun b=>zh8 a b os
theorem jgr{l m:List AV}:zxp P .eql t (.agg l) (.agg m)=(eqB P t (zh4 l) (zh4 m)).map fun b=>.d (.val (.bool b)):=rfl
theorem jgs(h1: -9223372036854775808≤a+b)(h2:a+b<9223372036854775808):zf8 P .add t (.int .i64 a) (.int .i64 b)=some (.int .i64 (a+b)):=by simp[zf8,zq6,jkb h1 h2]
theorem jgt(h1: -9223372036854775808≤a - b)(h2:a - b<9223372036854775808):zf8 P .sub t (.int .i64 a) (.int .i64 b)=some (.int .i64 (a - b)):=by simp[zf8,zq6,jkb h1 h2]
theorem jgu(h1: -9223372036854775808≤a*b)(h2:a*b<9223372036854775808):zf8 P .mul t (.int .i64 a) (.int .i64 b)=some (.int .i64 (a*b)):=by simp[zf8,zq6,jkb h1 h2]
theorem jgv(h1:0≤a)(h2:0<b):zf8 P .rem t (.int kk a) (.int kk b)=some (.int kk (a % b)):=by
 obtain⟨r,hr,e⟩:=(jk0 (P:=P) (t:=t) (kk:=kk) (KV:=fun r=>r= .int kk (a % b)) h1 h2).mpr rfl
 rw[hr,e]
theorem jgw:zf8 P .eql t (.int kk a) (.int kk b)=some (.bool (a==b)):=by simp[zf8,zq6,jb2]
theorem jgx:zf8 P .neq t (.int kk a) (.int kk b)=some (.bool (a !=b)):=by simp[zf8,zq6,jb2]
theorem jgy:zf8 P .lss t (.int kk a) (.int kk b)=some (.bool (decide (a<b))):=by simp[zf8,zq6,jb2]
theorem jgz:zf8 P .leq t (.int kk a) (.int kk b)=some (.bool (decide (a≤b))):=by simp[zf8,zq6,jb2]
theorem jg0:zf8 P .gtr t (.int kk a) (.int kk b)=some (.bool (decide (b<a))):=by simp[zf8,zq6,jb2]
theorem jg1:zf8 P .geq t (.int kk a) (.int kk b)=some (.bool (decide (b≤a))):=by simp[zf8,zq6,jb2]
theorem jal{a b:Bool}:zf8 P .eql t (.bool a) (.bool b)=if zfv P t=true then some (.bool (a==b))else none:=rfl
theorem jam{a b:Bool}:zf8 P .neq t (.bool a) (.bool b)=if zfv P t=true then some (.bool (a !=b))else none:=rfl
theorem jg2{b:Bool}:unF .not (.d (.val (.bool b)))=some (.d (.val (.bool (!b)))):=rfl
end
end
end Go.Proofs.Ytfolbdkbpmgjgaa
