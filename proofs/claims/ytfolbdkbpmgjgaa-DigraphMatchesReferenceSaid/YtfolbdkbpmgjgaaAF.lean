/- Of no program: loops over functions ('for x := range seq'): a round is a call of yield; the loop's record stands first among the objects. -/
import Derived.Test.YtfolbdkbpmgjgaaA20
set_option linter.unusedVariables false
set_option linter.unusedSimpArgs false
namespace Go.Proofs.Ytfolbdkbpmgjgaa
open Go Go.RowKit
def rst(r:Loop)(st:LoopState)(pe:Option Code):Loop:={r with state:=st,pending:=pe}
def znv(τ:Fr):List (Nat × AV)→Fr
 |[]=>τ
 |p::l=>znv (τ.put (some p.1) p.2) l
def zws(fr:List AV)(ps:Array Tmp)(xs:List AV):Fr:=znv (fun t=>fr.getD t .any) (ps.toList.zip xs)
def jkn(K:AV→zaa→Prop)(l:Nat):Exit→Fr→zaa→Prop
 | .normal,_,H=>∃r st pe fr,H[0]? =some (.loop l (rst r st pe) fr)∧K (.d (.val (.bool true))) (H.set 0 (.loop l (rst r .ready none) fr))
 | .ret,_,H=>∃r st pe fr,H[0]? =some (.loop l (rst r st pe) fr)∧K (.d (.val (.bool false))) (H.set 0 (.loop l (rst r .done (some .ret)) fr))
 | .exit id,_,H=>∃r st pe fr,H[0]? =some (.loop l (rst r st pe) fr)∧K (.d (.val (.bool false))) (H.set 0 (.loop l (rst r .done (some (.exit id))) fr))
 | .goto t,_,H=>∃r st pe fr,H[0]? =some (.loop l (rst r st pe) fr)∧K (.d (.val (.bool false))) (H.set 0 (.loop l (rst r .done (some (.goto t))) fr))
 |_,_,_=>False
def jko(Q:Exit→Fr→zaa→Prop):Option Code→Fr→zaa→Prop
 |none=>Q .normal
 |some .ret=>Q .ret
 |some (.exit id)=>Q (.exit id)
 |some (.goto t)=>Q (.goto t)
 |_=>fun _ _=>False
section
variable {P:Program} {c:Cx} {τ:Fr} {a:Act} {w w':World} {pl pl':List (Option (Nat × Nat))} {H S T:zaa} {m sm:List Nat} {own:Nat→Prop}
theorem RelS.reloop(h:RelS c τ H [] pl a w){i l:Nat}{r:Loop}{fr:List AV}(hi:H[i]? =some (.loop l r fr))(r':Loop)(hr:r'.tmps=r.tmps):RelS c τ (H.set i (.loop l r' fr)) [] pl a (w.putObj l (.loop r')):=by
 obtain⟨base,hp,hg,hx⟩:=h.h.obj i _ hi
 have hlt:l<w.heap.size:=(Array.getElem?_eq_some_iff.1 hg).1
 have hoth:∀k,k≠l→(w.putObj l (.loop r')).heap[k]? =w.heap[k]? :=fun k hk=>World.putObj_heap_other hk
 have hsh:∀b s,w.shape? b=some s→(w.putObj l (.loop r')).shape? b=some s:=fun b s hs=>by
  have hb:b≠l:=fun e=>by subst e;simp[World.shape?,hg]at hs
  exact(zbw (hoth b hb)).trans hs
 have hstp:Stp (zco H pl) w (w.putObj l (.loop r')):=⟨rfl,rfl,rfl,by simp,fun k hk hn=>hoth k (fun e=>hn (e▸⟨i,_,base,hi,rfl,hp⟩)),hsh⟩
 have conv:∀(j:Nat) (o:AObj),(H.set i (.loop l r' fr))[j]? =some o→o.live=true→∃o':AObj,H[j]? =some o'∧o'.live=true:=fun j o h1 l1=>by
  rcases za2 h1 with⟨rfl,rfl,_⟩|⟨_,h1⟩
  ·exact⟨_,hi,rfl⟩
  ·exact⟨o,h1,l1⟩
 have hown:∀k,za4 c.E (H.set i (.loop l r' fr)) pl k→za4 c.E H pl k:=fun k hk=>by
  rcases hk with hk|⟨j,o,e,h1,h2,h3⟩
  ·exact .inl hk
  ·obtain⟨o',k1,k2⟩:=conv j o h1 h2
   exact .inr ⟨j,o',e,k1,k2,h3⟩
 have hmono:∀x v,Rd w pl (za4 c.E H pl) x v→Rd (w.putObj l (.loop r')) pl (za4 c.E (H.set i (.loop l r' fr)) pl) x v:=fun x v hx=>
  hx.mono (by simp) (fun k hk hn=>hstp.block k hk (fun hl=>hn (.inr hl))) (fun k _ hk=>hown k hk) hsh (fun _ _ h=>h)
 refine h.step hstp (fun _ _ h=>h) (fun k ⟨j,o,e,h1,h2,h3⟩=>let⟨o',k1,k2⟩:=conv j o h1 h2; .inl ⟨j,o',e,k1,k2,h3⟩) ⟨by simp[h.h.len],fun j o hj=>?_,fun j k oj ok p q h1 h2 l1 l2 hne s1 s2 p1 p2=>?_,fun j o p h1 l1 p1=>?_,fun p hp=>(by cases hp),fun j k cj ck p q hm=>(by cases hm)⟩
 ·rcases za2 hj with⟨rfl,rfl,_⟩|⟨hne,hj⟩
  ·exact⟨base,hp,World.putObj_heap_same hlt,fun k x hk=>hr▸hmono _ _ (hx k x hk)⟩
  ·refine(h.h.obj j o hj).mono (by simp) (fun k hk hn=>hstp.block k hk (fun hl=>hn (.inr hl))) (fun k _ hk=>hown k hk) hsh (fun _ _ h=>h) (fun h=>h) (fun hl b' e hb'=>hoth b' ?_)
   exact h.h.dis j i o _ _ _ hj hi hl rfl hne (by simp) (by simp) hb' hp
 ·obtain⟨o1,a1,a2⟩:=conv j oj h1 l1
  obtain⟨o2,b1,b2⟩:=conv k ok h2 l2
  exact h.h.dis j k o1 o2 p q a1 b1 a2 b2 hne s1 s2 p1 p2
 ·obtain⟨o1,a1,a2⟩:=conv j o h1 l1
  exact h.h.ext j o1 p a1 a2 p1
theorem znw:∀(ps:List Nat) (xs:List AV) (vs:List Value) (τ:Fr) (ts:Array Value),ps.length=xs.length→ps.length=vs.length→(∀p∈ps,p<ts.size)→(∀t,Rd w pl own (τ t) (ts.getD t undef))→(∀j x,xs[j]? =some x→Rd w pl own x (vs.getD j undef))→
  (∀t,Rd w pl own (znv τ (ps.zip xs) t) (((ps.zip vs).foldl (fun ts p=>ts.setIfInBounds p.1 p.2) ts).getD t undef))∧((ps.zip vs).foldl (fun ts p=>ts.setIfInBounds p.1 p.2) ts).size=ts.size
 |[],xs,vs,τ,ts,_,_,_,h,_=>⟨by simpa[znv]using h,by simp⟩
 |p::ps,[],vs,τ,ts,h1,_,_,_,_=>by simp at h1
 |p::ps,x::xs,[],τ,ts,_,h2,_,_,_=>by simp at h2
 |p::ps,x::xs,v::vs,τ,ts,h1,h2,h3,h4,h5=>by
  have hp:=h3 p List.mem_cons_self
  have:=znw ps xs vs (τ.put (some p) x) (ts.setIfInBounds p v) (by simpa using h1) (by simpa using h2) (fun q hq=>by simpa using h3 q (List.mem_cons_of_mem _ hq)) (fun t=>by
   simp only[Fr.put]
   by_cases ht:t=p
   ·subst ht
    rw[if_pos rfl]
    have:(ts.setIfInBounds t v).getD t undef=v:=by simp[Array.getD,hp]
    rw[this];exact h5 0 x rfl
   ·rw[if_neg ht]
    have:(ts.setIfInBounds p v).getD t undef=ts.getD t undef:=by simp[Array.getD_eq_getD_getElem?,Array.getElem?_setIfInBounds_ne (Ne.symm ht)]
    rw[this];exact h4 t) (fun j y hj=>h5 (j+1) y hj)
  simpa[znv]using this
theorem jo5{l n:Nat}{r:Loop}{fr xs:List AV}{ps:Array Tmp}{K:AV→zaa→Prop}(hn:r.tmps.size=n)(hps:r.params=ps)(hx:ps.size=xs.length)(hpl:∀p∈ps.toList,p<n)
  (h:∀c:Cx,c.nt=n→Kp c m→AWp P c r.assign (zcq (fun τ H=>∃fr',H[0]? =some (.loop l (rst r .ready none) fr')∧AWp P c r.body (jkn K l) τ (H.set 0 (.loop l (rst r .busy none) fr'))) fun _ _ _=>False) (zws fr ps xs) (.loop l (rst r .ready none) fr::S)):
  YsS P m l xs (.loop l (rst r .ready none) fr::S) K:=by
 intro E w pl vals hl hv hh hE
 obtain⟨base,hp,hg,hfr⟩:=hh.obj 0 _ rfl
 refine⟨_,_,_,_,run_yield hg (by rw[show(rst r .ready none).params=ps from hps];omega),?_⟩
 obtain⟨c,hc⟩:∃c:Cx,c=⟨E,w,zco (.loop l (rst r .ready none) fr::S) pl,n,zm1 m pl,some l,w.heap.size⟩:=⟨_,rfl⟩
 have hF:c.F=Fence.wide.inRound l:=by rw[hc];rfl
 have hst:=znw (w:=w) (pl:=pl) (own:=za4 E (.loop l (rst r .ready none) fr::S) pl) ps.toList xs vals.toList (fun t=>fr.getD t .any) r.tmps (by simpa using hx) (by simpa using by omega) (by rw[hn];exact hpl) (fun t=>by
  show Rd w pl _ (fr.getD t .any) _
  rw[List.getD_eq_getElem?_getD]
  cases ht:fr[t]? with
  |none=>exact .any _
  |some x=>exact hfr t x ht) (fun j x hj=>by
  have:=hv j x hj
  rwa[Array.getD_eq_getD_getElem?,←Array.getElem?_toList,←List.getD_eq_getElem?_getD]at this)
 have etm:((rst r .ready none).params.zip vals).foldl (fun tmps (x:Tmp × Value)=>tmps.setIfInBounds x.1 x.2) (rst r .ready none).tmps=(ps.toList.zip vals.toList).foldl (fun ts p=>ts.setIfInBounds p.1 p.2) r.tmps:=by
  rw[show(rst r .ready none).params=ps from hps,←Array.foldl_toList,Array.toList_zip];rfl
 have hR:R c (zws fr ps xs) (.loop l (rst r .ready none) fr::S) [] {tmps:=(ps.toList.zip vals.toList).foldl (fun ts p=>ts.setIfInBounds p.1 p.2) r.tmps,defers:=[]} w:=by
  subst hc
  exact⟨pl,hh,Stp.refl _ _,fun id o p h1 h2 h3=>.inl ⟨id,o,p.2,h1,h2,h3⟩,hE,hst.1,hst.2.trans hn,Dfk.nil,fun i p hi=>(zgx hi).2⟩
 have hw:=h c (by rw[hc]) (by rw[hc];exact fun i p hi=>(zgx hi).1) _ w hR
 rw[hF]at hw
 refine roundIn_of_wpIn trivial ?_
 rw[show(((rst r .ready none).params.zip vals).foldl (fun tmps (x:Tmp × Value)=>match x with|(t,a)=>tmps.setIfInBounds t a) (rst r .ready none).tmps)=_ from etm]
 refine wpIn_mono hw fun e a1 w1 ⟨τ1,H1,⟨pl1,hR1⟩,hq⟩=>?_
 cases e with
 |normal=>
  obtain⟨fr',h0,hb⟩:=hq
  obtain⟨base1,hp1,hg1,_⟩:=hR1.h.obj 0 _ h0
  refine⟨_,run_beginRound hg1 rfl,?_⟩
  have hb':=hb a1 _ ⟨pl1,hR1.reloop h0 (rst r .busy none) rfl⟩
  rw[hF]at hb'
  refine wpIn_mono hb' fun e2 a2 w2 ⟨τ2,H2,⟨pl2,hR2⟩,hq2⟩=>?_
  have fin:∀{r2:Loop} {st:LoopState} {pe:Option Code} {fr2:List AV} (jump:Option Code),H2[0]? =some (.loop l (rst r2 st pe) fr2)→K (.d (.val (.bool jump.isNone))) (H2.set 0 (.loop l (rst r2 (if jump.isNone then .ready else .done) jump) fr2))→
    ∃v w',(Instr.endRound l jump).run P w2= .ok v w'∧∃v' x S' pl',Ending.returned v= .returned v'∧K x S'∧Rd w' pl' (za4 E S' pl') x v'∧RelH E w' pl' S' []∧Stp (zco (.loop l (rst r .ready none) fr::S) pl) w w'∧(∀b,zco S' pl' b→zco (.loop l (rst r .ready none) fr::S) pl b∨w.heap.size≤b)∧(∀(i:Nat) (p:Nat × Nat),i∈m→pl[i]? =some (some p)→pl'[i]? =some (some p)):=fun{r2 st pe fr2} jump k0 k1=>by
   obtain⟨base2,hp2,hg2,_⟩:=hR2.h.obj 0 _ k0
   have hR3:=hR2.reloop k0 (rst r2 (if jump.isNone then .ready else .done) jump) rfl
   subst hc
   exact⟨_,_,run_endRound jump hg2,_,_,_,pl2,rfl,k1,.d _ _ (.val _),hR3.h,hR3.stp,fun b ⟨i,o,q,b1,b2,b3⟩=>hR3.own0 i o (b,q) b1 b2 b3,fun i p hi hp=>hR3.keep i p (zqh hi hp)⟩
  cases e2 with
  |normal=>obtain⟨r2,st,pe,fr2,k0,k1⟩:=hq2;exact fin none k0 k1
  |ret=>obtain⟨r2,st,pe,fr2,k0,k1⟩:=hq2;exact fin (some .ret) k0 k1
  |exit id=>obtain⟨r2,st,pe,fr2,k0,k1⟩:=hq2;exact fin (some (.exit id)) k0 k1
  |goto t=>obtain⟨r2,st,pe,fr2,k0,k1⟩:=hq2;exact fin (some (.goto t)) k0 k1
  |panic ch=>exact hq2.elim
  |outgrown=>exact hq2.elim
 |_=>exact hq.elim
theorem zs7{g:Operand}{ps:Array Tmp}{assign body:Code}{Q:Exit→Fr→zaa→Prop}{n gf:Nat}{ca fr:List AV}(ht:Top c)(hc0:Kp c sm)(hnt:c.nt=n)(hH:H=(.free::S)++T)
  (hm:sm.all (okI m (S.length+1))=true) (hτ:∀t,(τ t).allI (okI m (S.length+1))=true) (hS:∀o∈S,o.allI (ltI (S.length+1))=true) (hT:∀o∈T,o.allI (okI m (S.length+1))=true)
  (hg:zde (zap τ g)=some (gf,[],ca)) (hca:AV.allIs (ltI (S.length+1)) ca=true) (hfr:∀j x,fr[j]? =some x→τ j=x) (hfi:AV.allIs (ltI (S.length+1)) fr=true)
  (hcall:∀(l:Nat) (r:Loop),r.params=ps→r.assign=assign→r.body=body→r.tmps.size=n→ScS P m gf (.d (.val (.func (.yield l) #[] #[]))::ca) (.loop l (rst r .ready none) fr::S)
   fun _ S'=>S'.length=S.length+1∧∃st pe fr',S'[0]? =some (.loop l (rst r st pe) fr')∧st≠ .busy∧jko Q pe τ (S'.set 0 .dead++T)):
  AWp P c (.rangeFunc g ps assign body) Q τ H:=by
 rintro a w ⟨pl,hR⟩
 subst hH
 have hwide:c.F=Fence.wide:=by
  obtain⟨h1,_⟩:=ht
  cases c;cases h1;rfl
 rw[hwide]
 obtain⟨vs,us,hv,h1,h2⟩:=zeo hg (hR.eval g)
 have hvs:vs=#[]:=Array.eq_empty_of_size_eq_zero (by simpa using h1.1)
 subst hvs
 have hlen:pl.length=S.length+1+T.length:=by have:=hR.h.len;simp at this;omega
 refine wpIn_rangeFunc ?_
 intro fn _
 obtain⟨rr,hrr⟩:∃rr:Loop,rr={state:=.ready,pending:=none,fn,tmps:=a.tmps,params:=ps,assign,body,defers:=w.heap.size}:=⟨_,rfl⟩
 obtain⟨w0,hw0⟩:∃w0,w.alloc (.deferred (some []))=w0:=⟨_,rfl⟩
 have hs0:w0.heap.size=w.heap.size+1:=by rw[←hw0];simp
 have hb0:Below w.heap.size w w0:=by rw[←hw0];exact(Below.refl _ w).alloc (Nat.le_refl _) _
 have hR0:=hR.below hb0
 have hD0:Dfk c.m0 ((.free::S)++T) pl w0 (mkD w.heap.size::a.defers):=by
  obtain⟨rs,d1,d2,d3⟩:=hR.defs
  have hlt:∀r∈rs,r<w.heap.size:=fun r hr=>(Array.getElem?_eq_some_iff.1 (d3 r hr).2.1).1
  refine⟨w.heap.size::rs,by rw[d1];rfl,List.nodup_cons.2 ⟨fun h=>Nat.lt_irrefl _ (hlt _ h),d2⟩,fun r hr=>?_⟩
  rcases List.mem_cons.1 hr with rfl|hr
  ·exact⟨Nat.le_trans ht.2 hR.stp.size,by rw[←hw0];exact World.alloc_heap_new w _,fun⟨i,o,e,k1,k2,k3⟩=>Nat.lt_irrefl _ (hR.h.block_lt k1 k2 k3)⟩
  ·exact⟨(d3 r hr).1,(hb0.block r (hlt r hr)).trans (d3 r hr).2.1,(d3 r hr).2.2⟩
 have hR1:RelS c τ ((.free::S)++T) [] pl {a with defers:=mkD w.heap.size::a.defers} w0:=⟨hR0.h,hR0.stp,hR0.own0,hR0.ext,hR0.fr,hR0.size,hD0,hR0.keep⟩
 have hp0:pl[0]? =some none:=hR1.h.free_place (n:=0) rfl
 have hR2:=hR1.fresh (n:=0) rfl (fun p hp=>by cases hp) (.loop rr) (.loop (w.heap.size+1) (rst rr .ready none) fr) (by
  refine⟨0,?_,?_,fun j x hj=>?_⟩
  ·rw[zp5 hp0,hs0]
  ·rw[←hs0]
   have e:rst rr .ready none=rr:=by rw[hrr];rfl
   rw[e];exact World.alloc_heap_new w0 _
  ·have:=(hR1.fr j).fresh hR1 (n:=0) rfl (.loop rr) (.loop (w.heap.size+1) (rst rr .ready none) fr)
   rw[hfr j x hj]at this
   rw[show(rst rr .ready none).tmps=a.tmps from by rw[hrr];rfl]
   exact this)
 have hW:w0.alloc (.loop rr)=(w.alloc (.deferred (some []))).alloc (.loop {state:=.ready,pending:=none,fn,tmps:=a.tmps,params:=ps,assign,body,defers:=w.heap.size}):=by rw[hw0,hrr]
 generalize hW1:w0.alloc (.loop rr)=W1 at hR2 hW
 obtain⟨pS,pT,hpl,hpS⟩:∃pS pT,pl.set 0 (some (w0.heap.size,0))=pS++pT∧pS.length=S.length+1:=⟨(pl.set 0 _).take (S.length+1),(pl.set 0 _).drop (S.length+1),(List.take_append_drop _ _).symm,by rw[List.length_take,List.length_set];omega⟩
 rw[hpl]at hR2
 have hset:((AObj.free::S)++T).set 0 (.loop (w.heap.size+1) (rst rr .ready none) fr)=(.loop (w.heap.size+1) (rst rr .ready none) fr::S)++T:=rfl
 rw[hset]at hR2
 have hcl:=hcall (w.heap.size+1) rr (by rw[hrr]) (by rw[hrr]) (by rw[hrr]) (by rw[hrr];exact hR.size.trans hnt)
 have hpS':pS.length=(AObj.loop (w.heap.size+1) (rst rr .ready none) fr::S).length:=hpS
 have hS1:∀o∈(AObj.loop (w.heap.size+1) (rst rr .ready none) fr::S),o.allI (ltI (AObj.loop (w.heap.size+1) (rst rr .ready none) fr::S).length)=true:=fun o ho=>by
  rcases List.mem_cons.1 ho with rfl|ho
  ·exact hfi
  ·exact hS o ho
 have h2':ARd W1 (pS++pT) (za4 c.E ((.loop (w.heap.size+1) (rst rr .ready none) fr::S)++T) (pS++pT)) ca us:=by
  refine⟨h2.1,fun j x hj=>?_⟩
  have k:=((h2.2 j x hj).mono hb0.size (fun b hb _=>hb0.block b hb) (fun _ _ h=>h) (fun b s hs=>(zbw (hb0.block b (zfr hs))).trans hs) (fun _ _ h=>h)).fresh hR1 (n:=0) rfl (.loop rr) (.loop (w.heap.size+1) (rst rr .ready none) fr)
  rw[hW1,hpl]at k
  exact k
 have hsz1:(#[Value.func (.yield (w.heap.size+1)) #[] #[]]++us).size=(AV.d (.val (.func (.yield (w.heap.size+1)) #[] #[]))::ca).length:=by simp[h2.1];omega
 have hread:∀j x,(AV.d (.val (.func (.yield (w.heap.size+1)) #[] #[]))::ca)[j]? =some x→Rd W1 pS (za4 (zzo c.E T pT) (.loop (w.heap.size+1) (rst rr .ready none) fr::S) pS) x ((#[Value.func (.yield (w.heap.size+1)) #[] #[]]++us).getD j undef):=fun j x hj=>by
  cases j with
  |zero=>
   cases hj
   have e0:(#[Value.func (.yield (w.heap.size+1)) #[] #[]]++us).getD 0 undef= .func (.yield (w.heap.size+1)) #[] #[]:=by
    rw[Array.getD_eq_getD_getElem?,Array.getElem?_append_left (by simp)];rfl
   rw[e0]
   exact .d _ _ (.val _)
  |succ j=>
   have hj':ca[j]? =some x:=hj
   have e:(#[Value.func (.yield (w.heap.size+1)) #[] #[]]++us).getD (j+1) undef=us.getD j undef:=by
    rw[Array.getD_eq_getD_getElem?,Array.getD_eq_getD_getElem?,Array.getElem?_append_right (by simp)]
    simp
   rw[e]
   refine(h2'.2 j x hj').place (p:=ltI (S.length+1)) (AV.allIs_get hca hj') (Nat.le_refl _) (fun _ _ _=>rfl) (fun b _ hb=>(zge hpS').1 hb) (fun _ _ h=>h) (fun i q hi hq=>?_)
   have hi:i<S.length+1:=by simpa[ltI]using hi
   rwa[List.getElem?_append_left (by omega)]at hq
 have hE1:∀b,zzo c.E T pT b→b<W1.heap.size:=fun b hb=>hR2.own_lt b (by
  rcases hb with hb|hb
  ·exact .inl hb
  ·exact .inr ((zcc hpS').2 (.inr hb)))
 have hent:=hcl.1
 refine⟨w.heap.size+1,[mkD w.heap.size],W1,{target:=.fn (.func gf) us,args:=#[.func (.yield (w.heap.size+1)) #[] #[]]},W1,gf,#[.func (.yield (w.heap.size+1)) #[] #[]]++us,W1,?_,?_,fun _ _=>trivial,?_,fun hh=>(by cases hh),?_⟩
 ·rw[hW];exact run_enterLoop_outer _ _ _ _ _
 ·simp only[resolve,hv]
  simp[go_sem]
 ·unfold zk7 at hent
  split at hent
  ·rename_i fnn hfn
   simp only[Bool.and_eq_true,bne_iff_ne,ne_eq]at hent
   obtain⟨k1,k2⟩:=hent
   have k3:fnn.body≠none:=fun e=>by rw[e]at k2;cases k2
   simp[invoke,callFunc,hfn,k1,k3]
  ·cases hent
 ·refine(callsIn_wide (n:=0 - 1)).2 ((hcl.2 (zzo c.E T pT) W1 pS _ hsz1 hread (zow hR2.h hpS' hS1) hE1).mono fun e w' ⟨v,x,S',pl',k1,k2,k3,k4,k5,k6,k7⟩=>?_)
  subst k1
  obtain⟨l1,st,pe,fr',l2,l3,l4⟩:=k2
  have hR3:=zox hR2 hpS' hc0 hm hτ hT l1 k4 k5 k6 k7
  have l2':(S'++T)[0]? =some (.loop (w.heap.size+1) (rst rr st pe) fr'):=zep l2
  obtain⟨base,_,hgl,_⟩:=hR3.h.obj 0 _ l2'
  have hR4:=(hR3.reloop l2' (rst rr .exhausted pe) rfl).kill 0 (sh':=[]) (fun i j hij=>(by cases hij)) (fun p hp=>by cases hp)
  have hset2:(((S'++T).set 0 (.loop (w.heap.size+1) (rst rr .exhausted pe) fr')).set 0 .dead)=S'.set 0 .dead++T:=by
   rw[List.set_set,List.set_append_left _ _ (by omega)]
  rw[hset2]at hR4
  refine⟨pe,_,run_endLoop hgl l3,?_⟩
  unfold jko at l4
  split at l4
  ·exact⟨_,_,⟨_,hR4⟩,l4⟩
  ·exact wpIn_ret ⟨_,_,⟨_,hR4⟩,l4⟩
  ·exact wpIn_exit ⟨_,_,⟨_,hR4⟩,l4⟩
  ·exact wpIn_goto ⟨_,_,⟨_,hR4⟩,l4⟩
  ·exact l4.elim
end
end Go.Proofs.Ytfolbdkbpmgjgaa
