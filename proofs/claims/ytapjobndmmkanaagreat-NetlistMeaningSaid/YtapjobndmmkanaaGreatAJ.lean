/- Of no program: an interpreter of the abstract machine, and that what it finds is so. -/
import Derived.Test.YtapjobndmmkanaaGreatAO
set_option linter.unusedVariables false
set_option linter.unusedSimpArgs false
namespace Go.Proofs.YtapjobndmmkanaaGreat
open Go Go.RowKit
section
def fL(l:List AV):Fr:=fun t=>l.getD t (.d (.val undef))
def yM(l:List AV)(d:Option Tmp)(x:AV):List AV:=match d with|some d=>l.set d x|none=>l
theorem Az(l:List AV)(d:Option Tmp)(x:AV):(yM l d x).length=l.length:=by unfold yM;split<;>simp
theorem LQ(l:List AV)(d:Option Tmp)(x:AV)(h:∀t,d=some t→t<l.length):(fL l).put d x=fL (yM l d x):=by
 unfold yM
 cases d with
 |none=>rfl
 |some d=>
  have hd:=h d rfl
  funext t
  simp only[Fr.put,fL,gp,List.getElem?_set]
  by_cases ht:t=d
  ·subst ht;simp[hd]
  ·rw[if_neg ht,if_neg (Ne.symm ht)]
abbrev CB:=FuncId→List AV→ak→Option (AV × ak)
def jq5(cb:CB)(ρ:Operand→AV)(op:Op)(H:ak):Option (AV × ak):=
 match op with
 | .call {callee:=.value f,args:=args,..}=>(match zj (ρ f)with
  |some (n,fi,ca)=>cb n (fi++args.toList.map ρ++ca) H
  |none=>none)
 |_=>none
def P5(P:Program)(KT:TypeId→Bool)(cb:CB)(op:Op)(ρ:Operand→AV)(H:ak):Option (AV × ak):=
 match fW [] op with
 |0=>if qg op then jq5 cb ρ op H else(sU P H.length H KT ρ op).map fun x=>(x,H)
 |2=>(match op with| .store t p y=>(fN P t (ρ p) (ρ y) H [] 0).map fun H'=>(.d (.val undef),H')|_=>none)
 |4=>wF P KT ρ op H []
 |_=>(match fx P H.length ρ op H with
  |some (x,o,some i)=>some (x,H.set i .dead++[o])
  |some (x,o,none)=>some (x,H++[o])
  |none=>none)
def Hn(P:Program)(KT:TypeId→Bool)(cb:CB)(ops:List Oper):List Oper→List AV→ak→Option (List AV × ak)
 |[],l,H=>some (l,H)
 |o::os,l,H=>match kl ops (fL l) o with
  |some true=>(match P5 P KT cb o.op (aU (fL l)) H with
   |some (x,H')=>Hn P KT cb ops os (yM l o.dst x) H'
   |none=>none)
  |some false=>Hn P KT cb ops os (yM l o.dst (.d (.val undef))) H
  |none=>none
section
variable {P:Program} {KT:TypeId→Bool} {cb:CB} {H:ak} {ρ:Operand→AV} {op:Op}
def gx(H:ak):Option Nat→ak
 |some i=>H.set i .dead
 |none=>H
def A8(P:Program)(cb:CB):Prop:=∀f xs H x H',cb f xs H=some (x,H')→yV P f xs H fun x1 H1=>x1=x∧H1=H'
theorem Jb(dP:fW [] op≠0)(mZ:fW [] op≠2)(wK:fW [] op≠4):fW [] op=1∨fW [] op=3:=by
 rcases Dx [] op with h|h|h|h|h<;>first|exact absurd h (by assumption)|exact .inl h|exact .inr h
theorem Ja{x:AV}{o:bq}{dd:Option Nat}(h:fx P H.length ρ op H=some (x,o,dd)){K:AV→ak→Prop}(hK:K x (gx H dd++[o])):
  ∃x H',ka P false H.length ρ op (H++[.free]) [] x H' []∧K x H':=by
 cases op with
 |box t y=>
  obtain⟨cs,hc,he⟩:=cA.1 h
  cases he
  rw[yjm];exact⟨cs,hc,hK⟩
 |alloc t=>
  obtain⟨zs,hz,he⟩:=cA.1 h
  cases he
  rw[juv];exact⟨zs,hz,hK⟩
 |makeSlice t l cp=>
  simp only[fx]at h
  split at h
  ·rename_i s zs b n m hq hn hm
   obtain⟨k1,hn⟩:=vT hn
   obtain⟨k2,hm⟩:=vT hm
   split at h
   ·rename_i hb
    cases h
    exact jzs ⟨(s,zs,b),k1,k2,n,m,hq,hn,hm,hb.1,hb.2.1,hb.2.2.1,hb.2.2.2,hK⟩
   ·cases h
  ·cases h
 |makeMap t hint=>
  cases hint with
  |none=>
   cases h
   exact⟨_,_,⟨.inl rfl,rfl,rfl,rfl⟩,by rw[yx];exact hK⟩
  |some y=>
   unfold fx at h
   simp only at h
   split at h
   ·rename_i hc
    simp only[gG]at hc
    obtain⟨i,hi⟩:=Option.isSome_iff_exists.1 hc.1
    obtain⟨k,hk⟩:=vT hi
    cases h
    exact⟨_,_,⟨.inr ⟨y,k,i,rfl,hk,hc.2⟩,rfl,rfl,rfl⟩,by rw[yx];exact hK⟩
   ·cases h
 |buildSlice t len parts=>
  simp only[fx]at h
  split at h
  ·rename_i s zs b hq
   split at h
   ·rename_i hb
    obtain⟨cs,hc,he⟩:=cA.1 h
    cases he
    exact yo8 ⟨(s,zs,b),hq,hb,cs,hc,hK⟩
   ·cases h
  ·cases h
 |call cl=>
  obtain⟨callee,⟨args⟩,⟨ts⟩⟩:=cl
  unfold fx at h
  simp only at h
  split at h
  ·rename_i s y t t'
   ·split at h
    ·rename_i z zs b hq
     split at h
     ·rename_i m l iQ
      have iQ:=jbp (AB hq).choose_spec.2.2.2.2.2 iQ
      refine yjq ?_
      split at h
      ·rename_i k id off n hs
       split at h
       ·rename_i cs nb
        split at h
        ·rename_i hb
         cases h
         rw[hs]
         obtain⟨rfl,b1,b2,b3⟩:=hb
         exact⟨(k,zs,b),hq,rfl,cs,nb,b1,m,l,iQ,b2,b3,hK⟩
        ·cases h
       ·cases h
      ·rename_i hs
       split at h
       ·rename_i hb
        cases h
        rw[hs]
        exact⟨(z,zs,b),hq,m,l,iQ,hb.1,hb.2,hK⟩
       ·cases h
      ·cases h
     ·cases h
    ·cases h
  ·cases h
 |_=>cases h
theorem jin{sm:List Nat}(dB:∀k,KT k=true→Maps.Keyed P k)(eU:A8 P cb){o:Oper}{l:List AV}{x:AV}{H':ak}(hd:∀t,o.dst=some t→t<l.length)(h:P5 P KT cb o.op (aU (fL l)) H=some (x,H')){K:Fr→ak→Prop}(hK:K (fL (yM l o.dst x)) H'):EY P [] sm o (fL l) H K:=by
 have lW:∀y,(fL l).put o.dst y=fL (yM l o.dst y):=fun y=>LQ l o.dst y hd
 unfold P5 at h
 unfold EY
 split at h
 ·rename_i hk
  simp only[hk]
  split at h
  ·right
   unfold jq5 at h
   unfold GX
   split at h
   ·rename_i f args ts e
    rw[e]
    simp only
    split at h
    ·rename_i n fi ca hc
     refine .inl ⟨n,fi,ca,hc,.inl ?_⟩
     obtain⟨h1,fn,code,h2,h3,h4,h5⟩:=eU _ _ _ _ _ h
     exact yV.ZQ ⟨h1,fn,code,h2,h3,h4,fun c Iq=>wb (h5 c Iq) fun e τ H1 hp=>by
      unfold mQ at hp ⊢
      split at hp
      ·exact DQ _ _ _ (fun xs ⟨e1,e2⟩=>by rw[e1,e2];show K ((fL l).put o.dst x) H';rw[lW];exact hK) hp
      ·exact DQ _ _ _ (fun xs ⟨e1,e2⟩=>by rw[e1,e2];show K ((fL l).put o.dst x) H';rw[lW];exact hK) hp
      ·exact hp.elim⟩
    ·cases h
   ·cases h
  ·obtain⟨y,hy,he⟩:=cA.1 h
   cases he
   exact .inl ⟨x,LR dB hy,by rw[lW];exact hK⟩
 ·rename_i hk
  simp only[hk]
  split at h
  ·rename_i t p y e
   obtain⟨H1,hH,he⟩:=cA.1 h
   cases he
   rw[e]
   exact⟨_,FX hH,by rw[lW];exact hK⟩
  ·cases h
 ·rename_i hk
  simp only[hk]
  exact⟨x,H',FE dB h,by rw[lW];exact hK⟩
 ·rename_i dP mZ wK
  have xQ:∃x H',ka P false H.length (aU (fL l)) o.op (H++[.free]) [] x H' []∧K ((fL l).put o.dst x) H':=by
   split at h
   ·rename_i x' o' i hl
    cases h
    exact Ja hl (K:=fun x H'=>K ((fL l).put o.dst x) H') (by rw[lW];exact hK)
   ·rename_i x' o' hl
    cases h
    exact Ja hl (K:=fun x H'=>K ((fL l).put o.dst x) H') (by rw[lW];exact hK)
   ·cases h
  rcases Jb dP mZ wK with hk|hk
  ·simp only[hk];exact xQ
  ·simp only[hk];exact xQ
theorem Jl{sm:List Nat}(dB:∀k,KT k=true→Maps.Keyed P k)(eU:A8 P cb){ops:List Oper}:∀{os:List Oper} {l l':List AV} {H H':ak},mh l.length os=true→Hn P KT cb ops os l H=some (l',H')→l'.length=l.length∧∀K:Fr→ak→Prop,K (fL l') H'→Ba P [] sm ops os (fL l) H K
 |[],l,l',H,H',_,h=>by
  cases h
  exact⟨rfl,fun K hK=>hK⟩
 |o::os,l,l',H,H',hd,h=>by
  simp only[mh,List.all_cons,gG]at hd
  have lr:∀d,o.dst=some d→d<l.length:=fun d e=>by have:=hd.1.1;rw[e]at this;simpa using this
  unfold Hn at h
  split at h
  ·rename_i hg
   split at h
   ·rename_i x H1 hc
    obtain⟨h1,h2⟩:=Jl dB eU (os:=os) (by rw[Az];exact hd.2) h
    rw[Az]at h1
    exact⟨h1,fun K hK=>⟨true,hg,fun _=>jin dB eU lr hc (h2 K hK),fun e=>by cases e⟩⟩
   ·cases h
  ·rename_i hg
   obtain⟨h1,h2⟩:=Jl dB eU (os:=os) (by rw[Az];exact hd.2) h
   rw[Az]at h1
   exact⟨h1,fun K hK=>⟨false,hg,(fun e=>by cases e),fun _=>by rw[LQ _ _ _ lr];exact h2 K hK⟩⟩
  ·cases h
end
end
section
def Hm(cb:CB)(n:FuncId)(ds:List D):Option AV:=match cb n (ds.map .d) []with|some (x,H')=>aC H' x|none=>none
def N6(cb:CB)(n:FuncId)(ds:List D):Option AV:=match cb n (ds.map .d) []with|some (x,H')=>gy H' x|none=>none
def P4(cb:CB)(N:Nat)(H:ak)(ρ:Operand→AV)(op:Op):Option AV:=
 match op with
 | .call {callee:=.value f,args:=args,..}=>(match zj (ρ f)with
  |some (n,fi,ca)=>(match AV.lT.iO (fi++args.toList.map ρ++ca)with
   |some ds=>Hm cb n ds
   |none=>(match mo (lE H N) 9 (fi++args.toList.map ρ++ca)with
    |some ds=>(match Hm cb n ds with|some (.d (.val v))=>some (.d (.val v))|_=>N6 cb n ds)
    |none=>none))
  |none=>none)
 |_=>none
def z8(N:Nat)(al:List Nat)(ρ:Operand→AV)(op:Op):Bool:=
 match op with
 | .call {callee:=.builtin .append,args:=args,..}=>args.toList.all fun y=>tU N al (ρ y)
 |_=>true
def AN(n:Nat):List (Nat × Nat)→Bool
 |[]=>true
 |p::l=>p.1 !=n&&p.2 !=n&&AN n l
def tN:List AV→Option (List D)
 |[]=>some []
 | .d y::l=>(tN l).map (y::·)
 |_=>none
theorem MT:∀{l:List AV} {ds:List D},tN l=some ds→l=ds.map .d
 |[],ds,h=>by cases h;rfl
 | .d y::l,ds,h=>by
  simp only[tN,cA]at h
  obtain⟨m,hm,rfl⟩:=h
  rw[MT hm];rfl
 | .any::_,_,h=>by cases h
 | .os .. ::_,_,h=>by cases h
 | .op .. ::_,_,h=>by cases h
 | .om .. ::_,_,h=>by cases h
 | .agg .. ::_,_,h=>by cases h
 | .dc .. ::_,_,h=>by cases h
 | .dk .. ::_,_,h=>by cases h
theorem Sp:tN []=some []:=rfl
theorem jiq{y:D}{l:List AV}:tN (.d y::l)=(tN l).map (y::·):=rfl
theorem SQ:∀l:List D,tN (l.map .d)=some l
 |[]=>rfl
 |y::l=>by
  show(tN (l.map .d)).map (y::·)=_
  rw[SQ l];rfl
def x6(op:Op)(x:AV)(o:bq):Option (List D × Nat):=
 match op,x,o with
 | .buildSlice ..,.os k _ _ n,.cells cs=>if 0<n∧cs.length=n*k then(tN cs).map fun ds=>(ds,n)else none
 | .makeSlice _ (.tmp _) _,.os k _ _ n,.cells cs=>if cs.length=n*k then(tN cs).map fun ds=>(ds,n)else none
 | .makeSlice _ (.const _) _,.os k _ _ n,.cells cs=>if 0<n∧cs.length=n*k then(tN cs).map fun ds=>(ds,n)else none
 |_,_,_=>none
def gr(P:Program)(N r:Nat)(al:List Nat)(ρ:Operand→AV)(op:Op)(H:ak)(sh:List (Nat × Nat)):Option (AV × ak × List (Nat × Nat)):=
 match H[N+r]?,fx P (N+r) ρ op H with
 |some .free,some (x,o,dd)=>if AN (N+r) sh&&z8 N al ρ op then(match dd with
  |none=>(match x6 op x o with
   |some (ds,n)=>some (.d (.fs ds n),H.set (N+r) .dead,sh)
   |none=>some (x,H.set (N+r) o,sh))
  |some id=>if sh.all fun p=>p.2 !=id then some (x,H.set (N+r) o,fX sh id (N+r))else none)else none
 |_,_=>none
def P3(P:Program)(KT:TypeId→Bool)(cb:CB)(N r:Nat)(fresh:Bool)(m:List (Nat × Nat))(o:Oper)(ρ:Operand→AV)(H:ak)(sh:List (Nat × Nat)):Option (AV × ak × List (Nat × Nat)):=
 match fW [] o.op with
 |0=>(if qg o.op then P4 cb N H ρ o.op else sU P N H KT ρ o.op).map fun x=>(x,H,sh)
 |2=>(match o.op with| .store t p y=>(fN P t (ρ p) (ρ y) H sh (if fresh then N else 0)).map fun H'=>(.d (.val undef),H',sh)|_=>none)
 |4=>(wF P KT ρ o.op H sh).map fun p=>(p.1,p.2,sh)
 |_=>gr P N r (sn m o.after.toList) ρ o.op H sh
def Hl(P:Program)(KT:TypeId→Bool)(cb:CB)(ops:List Oper)(N:Nat):Nat→Nat→List (Nat × Nat)→List Oper→List AV→ak→List (Nat × Nat)→Option (List AV × ak × List (Nat × Nat))
 |_,_,_,[],l,H,sh=>some (l,H,sh)
 |i,r,m,o::os,l,H,sh=>match kl ops (fL l) o with
  |some true=>(match P3 P KT cb N r (tY ops o) m o (aU (fL l)) H sh with
   |some (x,H',sh')=>Hl P KT cb ops N (i+1) (if bp [] o then r+1 else r) (if bp [] o then(i,r)::m else m) os (yM l o.dst x) H' sh'
   |none=>none)
  |some false=>Hl P KT cb ops N (i+1) (if bp [] o then r+1 else r) (if bp [] o then(i,r)::m else m) os (yM l o.dst (.d (.val undef))) H sh
  |none=>none
section
variable {P:Program} {KT:TypeId→Bool} {cb:CB} {H:ak} {ρ:Operand→AV} {op:Op}
theorem zuy{f:FuncId}{ds:List D}{r:AV}(h:yV P f (ds.map .d) [] fun x H=>aC H x=some r):cC P f ds r:=by
 obtain⟨he,fn,code,hf,hb,hn,hw⟩:=h
 exact jh4 he hf hb (by simpa using hn) hw
theorem yV.mono{f:FuncId}{xs:List AV}{K K':AV→ak→Prop}(h:yV P f xs H K)(hK:∀x H',K x H'→K' x H'):yV P f xs H K':=by
 obtain⟨he,fn,code,hf,hb,hn,hw⟩:=h
 exact⟨he,fn,code,hf,hb,hn,fun c hc=>wb (hw c hc) fun e τ H1 hp=>by
  unfold mQ at hp ⊢
  split at hp
  ·exact DQ _ _ _ (fun xs h=>hK _ _ h) hp
  ·exact DQ _ _ _ (fun xs h=>hK _ _ h) hp
  ·exact hp.elim⟩
theorem MS(eU:A8 P cb){n:FuncId}{ds:List D}{x:AV}(h:Hm cb n ds=some x):cC P n ds x:=by
 unfold Hm at h
 split at h
 ·rename_i y H' hy
  exact zuy ((eU _ _ _ _ _ hy).mono fun x1 H1 ⟨e1,e2⟩=>by rw[e1,e2];exact h)
 ·cases h
theorem zu0{f:FuncId}{ds:List D}{r:AV}(h:yV P f (ds.map .d) [] fun x H=>gy H x=some r):w9 P f ds r:=by
 obtain⟨he,fn,code,hf,hb,hn,hw⟩:=h
 exact jh5 he hf hb (by simpa using hn) hw
theorem ju0(eU:A8 P cb){n:FuncId}{ds:List D}{x:AV}(h:N6 cb n ds=some x):w9 P n ds x:=by
 unfold N6 at h
 split at h
 ·rename_i y H' hy
  exact zu0 ((eU _ _ _ _ _ hy).mono fun x1 H1 ⟨e1,e2⟩=>by rw[e1,e2];exact h)
 ·cases h
theorem jit(eU:A8 P cb){N:Nat}{x:AV}(h:P4 cb N H ρ op=some x):gR P N H ρ op x:=by
 unfold P4 at h
 split at h
 ·rename_i f args ts
  split at h
  ·rename_i n fi ca hc
   split at h
   ·rename_i ds qq
    exact⟨n,fi,ca,ds,hc,.inl ⟨.inl qq,MS eU h⟩⟩
   ·split at h
    ·rename_i ds qq
     split at h
     ·rename_i v hy
      cases h
      exact⟨n,fi,ca,ds,hc,.inl ⟨.inr ⟨rfl,qq⟩,MS eU hy⟩⟩
     ·exact⟨n,fi,ca,ds,hc,.inr ⟨qq,ju0 eU h⟩⟩
    ·cases h
  ·cases h
 ·cases h
theorem P2{n:Nat}:∀{sh:List (Nat × Nat)},AN n sh=true→wG n sh
 |[],_=>trivial
 |p::l,h=>by
  simp only[AN,gG,bne_iff_ne,ne_eq]at h
  exact⟨h.1.1,h.1.2,P2 h.2⟩
theorem Mq{N r:Nat}{al:List Nat}{sh sh':List (Nat × Nat)}{x:AV}{H':ak}(h:gr P N r al ρ op H sh=some (x,H',sh')){KX:AV→ak→List (Nat × Nat)→Prop}(hK:KX x H' sh'):yN P N r al ρ op H sh KX:=by
 unfold gr at h
 split at h
 ·rename_i x' o dd dy hl
  split at h
  ·rename_i hc
   simp only[gG]at hc
   obtain⟨hs,ha⟩:=hc
   have hs:=P2 hs
   have cI:(dd=none∧x'=x∧H'=H.set (N+r) o∧sh'=sh∨dd=none∧∃ds n,x6 op x' o=some (ds,n)∧x= .d (.fs ds n)∧H'=H.set (N+r) .dead∧sh'=sh)∨∃id,dd=some id∧(∀p∈sh,p.2≠id)∧x'=x∧H'=H.set (N+r) o∧sh'=fX sh id (N+r):=by
    split at h
    ·split at h
     ·rename_i ds n hz
      cases h;exact .inl (.inr ⟨rfl,ds,n,hz,rfl,rfl,rfl⟩)
     ·cases h;exact .inl (.inl ⟨rfl,rfl,rfl,rfl⟩)
    ·rename_i id
     split at h
     ·rename_i cP
      cases h
      exact .inr ⟨id,rfl,fun p hp=>by have:=kF.1 cP p hp;simpa using this,rfl,rfl,rfl⟩
     ·cases h
   clear h
   cases op with
   |box t y=>
    obtain⟨cs,nb,he⟩:=cA.1 hl
    cases he
    rcases cI.imp_left (fun h=>h.resolve_right fun⟨_,_,_,hz,_⟩=>by cases hz)with⟨_,rfl,rfl,rfl⟩|⟨id,h1,_⟩
    ·rw[yjn];exact⟨dy,hs,cs,nb,hK⟩
    ·cases h1
   |alloc t=>
    obtain⟨zs,hz,he⟩:=cA.1 hl
    cases he
    rcases cI.imp_left (fun h=>h.resolve_right fun⟨_,_,_,hz,_⟩=>by cases hz)with⟨_,rfl,rfl,rfl⟩|⟨id,h1,_⟩
    ·rw[juw];exact⟨dy,hs,zs,hz,hK⟩
    ·cases h1
   |makeSlice t l cp=>
    simp only[fx]at hl
    split at hl
    ·rename_i s zs b n m hq hn hm
     obtain⟨k1,hn⟩:=vT hn
     obtain⟨k2,hm⟩:=vT hm
     split at hl
     ·rename_i hb
      cases hl
      rcases cI with(⟨_,rfl,rfl,rfl⟩|⟨_,ds,n',hz,rfl,rfl,rfl⟩)|⟨id,h1,_⟩
      ·exact jq4 ⟨dy,hs,(s,zs,b),k1,k2,n,m,hq,hn,hm,hb.1,hb.2.1,hb.2.2.1,hb.2.2.2,hK⟩
      ·have kW:(if(kx n.toNat zs).length=n.toNat*s then(tN (kx n.toNat zs)).map fun ds=>(ds,n.toNat)else none)=some (ds,n'):=by
        cases l with
        |tmp _=>exact hz
        |const _=>
         have Hu:(if 0<n.toNat∧(kx n.toNat zs).length=n.toNat*s then(tN (kx n.toNat zs)).map fun ds=>(ds,n.toNat)else none)=some (ds,n'):=hz
         split at Hu
         ·rename_i jr;rw[if_pos jr.2];exact Hu
         ·cases Hu
        |global _=>cases hz
        |func _=>cases hz
       split at kW
       ·rename_i jr
        obtain⟨ds',hd,he⟩:=cA.1 kW
        cases he
        have lr:=MT hd
        exact jux ⟨dy,hs,(s,zs,b),k1,k2,n,m,hq,hn,hm,hb.1,hb.2.1,hb.2.2.1,hb.2.2.2,ds,lr,by have:=jr;rw[lr,List.length_map]at this;exact this,hK⟩
       ·cases kW
      ·cases h1
     ·cases hl
    ·cases hl
   |makeMap t hint=>
    have key:∀(hh:hint=none∨∃y k m,hint=some y∧ρ y= .d (.val (.int k m))∧(j4 P t).isSome=true),fx P (N+r) ρ (.makeMap t hint) H=some (.om (N+r),.map [] 0,none)→yN P N r al ρ (.makeMap t hint) H sh KX:=fun hh he=>by
     rw[he]at hl
     cases hl
     rcases cI.imp_left (fun h=>h.resolve_right fun⟨_,_,_,hz,_⟩=>by cases hz)with⟨_,rfl,rfl,rfl⟩|⟨id,h1,_⟩
     ·exact⟨dy,(xl _ _).1 hs,trivial,_,_,_,⟨hh,rfl,rfl,rfl⟩,hK⟩
     ·cases h1
    cases hint with
    |none=>exact key (.inl rfl) rfl
    |some y=>
     have gh:=hl
     unfold fx at gh
     simp only at gh
     split at gh
     ·rename_i hc
      have Iq:=hc
      simp only[gG]at hc
      obtain⟨i,hi⟩:=Option.isSome_iff_exists.1 hc.1
      obtain⟨k,hk⟩:=vT hi
      exact key (.inr ⟨y,k,i,rfl,hk,hc.2⟩) (by unfold fx;simp only;rw[if_pos Iq])
     ·cases gh
   |buildSlice t len parts=>
    simp only[fx]at hl
    split at hl
    ·rename_i s zs b hq
     split at hl
     ·rename_i hb
      obtain⟨cs,nb,he⟩:=cA.1 hl
      cases he
      rcases cI with(⟨_,rfl,rfl,rfl⟩|⟨_,ds,n,hz,rfl,rfl,rfl⟩)|⟨id,h1,_⟩
      ·exact yo9 ⟨dy,hs,(s,zs,b),hq,hb,cs,nb,hK⟩
      ·simp only[x6]at hz
       split at hz
       ·rename_i jr
        obtain⟨ds',hd,he⟩:=cA.1 hz
        cases he
        have:=MT hd
        subst this
        exact yjo ⟨dy,hs,(s,zs,b),hq,hb,_,nb,_,rfl,by simpa using jr.2,hK⟩
       ·cases hz
      ·cases h1
     ·cases hl
    ·cases hl
   |call cl=>
    obtain⟨callee,⟨args⟩,⟨ts⟩⟩:=cl
    unfold fx at hl
    simp only at hl
    split at hl
    ·rename_i s y t t'
     have Fb:tU N al (ρ s)=true∧tU N al (ρ y)=true:=by
      simp only[z8,List.all_cons,List.all_nil,gG,Bool.and_true]at ha
      exact ha
     ·split at hl
      ·rename_i z zs b hq
       split at hl
       ·rename_i m l iQ
        have iQ:=jbp (AB hq).choose_spec.2.2.2.2.2 iQ
        refine yjp ⟨dy,hs,Fb.1,Fb.2,?_⟩
        split at hl
        ·rename_i k id off n hs
         split at hl
         ·rename_i cs nb
          split at hl
          ·rename_i hb
           cases hl
           rw[hs]
           obtain⟨rfl,b1,b2,b3⟩:=hb
           rcases cI.imp_left (fun h=>h.resolve_right fun⟨_,_,_,hz,_⟩=>by cases hz)with⟨h1,_⟩|⟨cq,h1,h2,rfl,rfl,rfl⟩
           ·cases h1
           ·cases h1
            exact⟨(k,zs,b),hq,rfl,cs,nb,b1,h2,m,l,iQ,b2,b3,hK⟩
          ·cases hl
         ·cases hl
        ·rename_i hs
         split at hl
         ·rename_i hb
          cases hl
          rw[hs]
          rcases cI.imp_left (fun h=>h.resolve_right fun⟨_,_,_,hz,_⟩=>by cases hz)with⟨_,rfl,rfl,rfl⟩|⟨cq,h1,_⟩
          ·exact⟨(z,zs,b),hq,m,l,iQ,hb.1,hb.2,hK⟩
          ·cases h1
         ·cases hl
        ·cases hl
       ·cases hl
      ·cases hl
    ·cases hl
   |_=>cases hl
  ·cases h
 ·cases h
theorem jiv(dB:∀k,KT k=true→Maps.Keyed P k)(eU:A8 P cb){N r:Nat}{fresh:Bool}{m:List (Nat × Nat)}{o:Oper}{τ:Fr}{sh sh':List (Nat × Nat)}{x:AV}{H':ak}(h:P3 P KT cb N r fresh m o (aU τ) H sh=some (x,H',sh')){K:AV→ak→List (Nat × Nat)→Prop}(hK:K x H' sh'):
  tO P [] N r fresh m o τ H sh K:=by
 unfold P3 at h
 unfold tO
 split at h
 ·rename_i hk
  simp only[hk]
  obtain⟨y,hy,he⟩:=cA.1 h
  cases he
  refine⟨x,?_,hK⟩
  split at hy
  ·exact jit eU hy
  ·exact LR dB hy
 ·rename_i hk
  simp only[hk]
  split at h
  ·rename_i t p y e
   obtain⟨H1,hH,he⟩:=cA.1 h
   cases he
   rw[e]
   exact⟨_,FX hH,hK⟩
  ·cases h
 ·rename_i hk
  simp only[hk]
  obtain⟨p,hp,he⟩:=cA.1 h
  cases he
  exact⟨p.1,p.2,FE dB hp,hK⟩
 ·rename_i dP mZ wK
  have:=Mq h hK
  rcases Jb dP mZ wK with hk|hk
  ·simp only[hk];exact this
  ·simp only[hk];exact this
theorem MZ(dB:∀k,KT k=true→Maps.Keyed P k)(eU:A8 P cb){ops:List Oper}{N:Nat}:∀{os:List Oper} {i r:Nat} {m:List (Nat × Nat)} {l l':List AV} {H H':ak} {sh sh':List (Nat × Nat)},mh l.length os=true→Hl P KT cb ops N i r m os l H sh=some (l',H',sh')→
  l'.length=l.length∧∀K:Fr→ak→List (Nat × Nat)→Prop,K (fL l') H' sh'→A9 P [] ops N i r m os (fL l) H sh K
 |[],_,_,_,l,l',H,H',sh,sh',_,h=>by
  cases h
  exact⟨rfl,fun K hK=>hK⟩
 |o::os,i,r,m,l,l',H,H',sh,sh',hd,h=>by
  simp only[mh,List.all_cons,gG]at hd
  have lr:∀d,o.dst=some d→d<l.length:=fun d e=>by have:=hd.1.1;rw[e]at this;simpa using this
  unfold Hl at h
  split at h
  ·rename_i hg
   split at h
   ·rename_i x H1 KI hc
    obtain⟨h1,h2⟩:=MZ dB eU (os:=os) (by rw[Az];exact hd.2) h
    rw[Az]at h1
    refine⟨h1,fun K hK=>⟨true,hg,fun _=>jiv dB eU hc ?_,fun e=>by cases e⟩⟩
    rw[LQ _ _ _ lr]
    exact h2 K hK
   ·cases h
  ·rename_i hg
   obtain⟨h1,h2⟩:=MZ dB eU (os:=os) (by rw[Az];exact hd.2) h
   rw[Az]at h1
   exact⟨h1,fun K hK=>⟨false,hg,(fun e=>by cases e),fun _=>by rw[LQ _ _ _ lr];exact h2 K hK⟩⟩
  ·cases h
end
def Eh(P:Program)(l:List AV)(H:ak):List ResultVar→Option (List AV)
 |[]=>some []
 | .tmp t::rs=>(Eh P l H rs).map fun xs=>fL l t::xs
 | .cell t ty::rs=>(match ff P H.length H ty (fL l t)with|some x=>(Eh P l H rs).map fun xs=>x::xs|none=>none)
abbrev EX:=Code→List AV→ak→Option (Exit × List AV × ak)
def Hk(P:Program)(ex:EX):CB:=fun f xs H=>
 if nU P f then(match P.funcs[f]? with
  |some fn=>(match fn.body with
   |some code=>if xs.length≤fn.ntmps then(match ex code (xs++List.replicate (fn.ntmps - xs.length) (.d (.val undef))) H with
    |some (.normal,l,H')=>(Eh P l H' fn.results.toList).map fun ys=>(qZ ys,H')
    |some (.ret,l,H')=>(Eh P l H' fn.results.toList).map fun ys=>(qZ ys,H')
    |_=>none)else none
   |none=>none)
  |none=>none)else none
def jzt(P:Program)(KT:TypeId→Bool)(cb:CB)(ops:List Oper)(l:List AV)(H:ak):Option (List AV × ak):=
 if xD [] ops ops.length 0 (Array.replicate ops.length false)then(match Hl P KT cb ops H.length 0 0 [] ops l (H++List.replicate (ops.countP (bp [])) .free) []with
  |some (l',H',sh')=>some (l',c6 sh' H')
  |none=>none)else none
def EU(b:List AV→ak→Option (Exit × List AV × ak)):Nat→List AV→ak→Option (Exit × List AV × ak)
 |0,_,_=>none
 |k+1,l,H=>match b l H with
  |some (.normal,l',H')=>EU b k l' H'
  |r=>r
def vk(P:Program)(KT:TypeId→Bool):Nat→EX
 |0,_,_,_=>none
 |n+1,code,l,H=>match code with
  | .skip=>some (.normal,l,H)
  | .region _ ops draw=>if mh l.length ops.toList then(match(if draw then jzt P KT (Hk P (vk P KT n)) ops.toList l H else Hn P KT (Hk P (vk P KT n)) ops.toList ops.toList l H)with
   |some (l',H')=>some (.normal,l',H')
   |none=>none)else none
  | .seq a b=>(match vk P KT n a l H with
   |some (.normal,l',H')=>vk P KT n b l' H'
   |r=>r)
  | .cond o a b=>(match aU (fL l) o with
   | .d (.val (.bool t))=>if t then vk P KT n a l H else vk P KT n b l H
   |_=>none)
  | .block id a=>(match vk P KT n a l H with
   |some (.exit i,l',H')=>if i=id then some (.normal,l',H')else some (.exit i,l',H')
   |r=>r)
  | .loop a=>EU (vk P KT n a) n l H
  | .exit id=>some (.exit id,l,H)
  | .ret=>some (.ret,l,H)
  |_=>none
section
variable {P:Program} {KT:TypeId→Bool}
theorem Ji{l:List AV}{H:ak}:∀{rs:List ResultVar} {xs:List AV} {K:List AV→Prop},Eh P l H rs=some xs→K xs→oG P (fL l) H rs K
 |[],xs,K,h,hK=>by cases h;exact hK
 | .tmp t::rs,xs,K,h,hK=>by
  obtain⟨ys,hy,rfl⟩:=cA.1 h
  exact Ji (K:=fun xs=>K (fL l t::xs)) hy hK
 | .cell t ty::rs,xs,K,h,hK=>by
  simp only[Eh]at h
  split at h
  ·rename_i x hx
   obtain⟨ys,hy,rfl⟩:=cA.1 h
   exact⟨x,AA hx,Ji (K:=fun xs=>K (x::xs)) hy hK⟩
  ·cases h
def Xn(P:Program)(ex:EX):Prop:=∀code l H e l' H',ex code l H=some (e,l',H')→l'.length=l.length∧∀c:Cx,c.nt=l.length→dj P c code (fun e1 τ1 H1=>e1=e∧τ1=fL l'∧H1=H') (fL l) H
theorem jix(xs:List AV)(n:Nat):qM xs=fL (xs++List.replicate n (.d (.val undef))):=by
 funext t
 unfold qM fL
 rw[gp,gp,List.getElem?_append]
 split
 ·rfl
 ·rename_i h
  rw[List.getElem?_eq_none (by omega),List.getElem?_replicate]
  split<;>rfl
theorem jbr{ex:EX}(h:Xn P ex):A8 P (Hk P ex):=by
 intro f xs H x H' hc
 unfold Hk at hc
 split at hc
 ·rename_i he
  split at hc
  ·rename_i fn hf
   split at hc
   ·rename_i code hb
    split at hc
    ·rename_i hn
     refine⟨he,fn,code,hf,hb,hn,fun c hnt=>?_⟩
     rw[jix xs (fn.ntmps - xs.length)]
     split at hc
     ·rename_i l H1 hex
      obtain⟨ys,hy,he⟩:=cA.1 hc
      cases he
      obtain⟨_,h2⟩:=h _ _ _ _ _ _ hex
      exact wb (h2 c (by simp;omega)) fun e τ H2 ⟨e1,e2,e3⟩=>by
       subst e1 e2 e3
       exact Ji hy ⟨rfl,rfl⟩
     ·rename_i l H1 hex
      obtain⟨ys,hy,he⟩:=cA.1 hc
      cases he
      obtain⟨_,h2⟩:=h _ _ _ _ _ _ hex
      exact wb (h2 c (by simp;omega)) fun e τ H2 ⟨e1,e2,e3⟩=>by
       subst e1 e2 e3
       exact Ji hy ⟨rfl,rfl⟩
     ·cases hc
    ·cases hc
   ·cases hc
  ·cases hc
 ·cases hc
theorem jiy(hm:P.follows .mixedOrders=true)(dB:∀k,KT k=true→Maps.Keyed P k):∀n,Xn P (vk P KT n)
 |0=>fun code l H e l' H' h=>by cases h
 |n+1=>fun code l H e l' H' h=>by
  have ih:=jiy hm dB n
  have eU:=jbr ih
  unfold vk at h
  split at h
  ·cases h
   exact⟨rfl,fun c hc=>bB ⟨rfl,rfl,rfl⟩⟩
  ·rename_i id ops draw
   obtain⟨ops⟩:=ops
   simp only at h
   split at h
   ·rename_i hd
    split at h
    ·rename_i l1 H1 hr
     cases h
     cases draw with
     |false=>
      simp only[Bool.false_eq_true,if_false]at hr
      exact⟨(Jl (sm:=[]) dB eU hd hr).1,fun c hc=>Nc (fr:=[]) (Kp.all c) (l:=ops) (hc▸hd) ((Jl dB eU hd hr).2 _ ⟨rfl,rfl,rfl⟩)⟩
     |true=>
      simp only[if_true]at hr
      unfold jzt at hr
      split at hr
      ·rename_i Q2
       split at hr
       ·rename_i l2 H2 r9 cR
        cases hr
        obtain⟨h1,h2⟩:=MZ dB eU hd cR
        exact⟨h1,fun c hc=>jzp (fr:=[]) hc hm hd rfl Q2 fun K hK=>h2 _ (hK _ _ ⟨rfl,rfl,rfl⟩)⟩
       ·cases hr
      ·cases hr
    ·cases h
   ·cases h
  ·rename_i a b
   split at h
   ·rename_i l1 H1 ha
    obtain⟨h1,h2⟩:=ih _ _ _ _ _ _ ha
    obtain⟨h3,h4⟩:=ih _ _ _ _ _ _ h
    refine⟨h3.trans h1,fun c hc=>DG (wb (h2 c hc) fun e1 τ1 H2 ⟨e1,e2,e3⟩=>?_)⟩
    subst e1 e2 e3
    exact h4 c (hc.trans h1.symm)
   ·rename_i cw
    obtain⟨h1,h2⟩:=ih _ _ _ _ _ _ h
    refine⟨h1,fun c hc=>DG (wb (h2 c hc) fun e1 τ1 H2 ⟨e1,e2,e3⟩=>?_)⟩
    subst e1 e2 e3
    cases e1 with
    |normal=>exact absurd h (cw _ _)
    |_=>exact⟨rfl,rfl,rfl⟩
  ·rename_i o a b
   split at h
   ·rename_i t ht
    cases t with
    |true=>
     simp only[if_true]at h
     obtain⟨h1,h2⟩:=ih _ _ _ _ _ _ h
     exact⟨h1,fun c hc=>aX ht (fun _=>h2 c hc) (fun e=>by cases e)⟩
    |false=>
     simp only[Bool.false_eq_true,if_false]at h
     obtain⟨h1,h2⟩:=ih _ _ _ _ _ _ h
     exact⟨h1,fun c hc=>aX ht (fun e=>by cases e) (fun _=>h2 c hc)⟩
   ·cases h
  ·rename_i id a
   split at h
   ·rename_i i l1 H1 ha
    obtain⟨h1,h2⟩:=ih _ _ _ _ _ _ ha
    split at h
    ·rename_i hi
     cases h
     refine⟨h1,fun c hc=>aW (wb (h2 c hc) fun e1 τ1 H2 ⟨e1,e2,e3⟩=>?_)⟩
     subst e1 e2 e3
     simp only[fc,hi,if_true]
     exact⟨trivial,trivial,trivial⟩
    ·rename_i hi
     cases h
     refine⟨h1,fun c hc=>aW (wb (h2 c hc) fun e1 τ1 H2 ⟨e1,e2,e3⟩=>?_)⟩
     subst e1 e2 e3
     simp only[fc,hi,if_false]
     exact⟨trivial,trivial,trivial⟩
   ·rename_i cw
    obtain⟨h1,h2⟩:=ih _ _ _ _ _ _ h
    refine⟨h1,fun c hc=>aW (wb (h2 c hc) fun e1 τ1 H2 ⟨e1,e2,e3⟩=>?_)⟩
    subst e1 e2 e3
    cases e1 with
    |exit i=>exact absurd h (cw _ _ _)
    |_=>exact⟨rfl,rfl,rfl⟩
  ·rename_i a
   have hlen:∀(k:Nat) (l1:List AV) (H1:ak),EU (vk P KT n a) k l1 H1=some (e,l',H')→l'.length=l1.length:=by
    intro k
    induction k with
    |zero=>intro l1 H1 hk;cases hk
    |succ k ihk=>
     intro l1 H1 hk
     unfold EU at hk
     split at hk
     ·rename_i l2 H2 ha
      exact(ihk _ _ hk).trans (ih _ _ _ _ _ _ ha).1
     ·exact(ih _ _ _ _ _ _ hk).1
   refine⟨hlen _ _ _ h,fun c hc=>jbc (fun τ H k=>∃l1,τ=fL l1∧l1.length=l.length∧EU (vk P KT n a) k l1 H=some (e,l',H')) (n0:=n) ⟨l,rfl,rfl,h⟩ ?_⟩
   rintro τ H1 k ⟨l1,rfl,Bv,hk⟩
   cases k with
   |zero=>cases hk
   |succ k=>
    unfold EU at hk
    split at hk
    ·rename_i l2 H2 ha
     obtain⟨h1,h2⟩:=ih _ _ _ _ _ _ ha
     refine wb (h2 c (hc.trans Bv.symm)) fun e1 τ1 H3 ⟨e1,e2,e3⟩=>?_
     subst e1 e2 e3
     exact⟨k,Nat.lt_succ_self k,l2,rfl,h1.trans Bv,hk⟩
    ·rename_i cw
     obtain⟨h1,h2⟩:=ih _ _ _ _ _ _ hk
     refine wb (h2 c (hc.trans Bv.symm)) fun e1 τ1 H3 ⟨e1,e2,e3⟩=>?_
     subst e1 e2 e3
     cases e1 with
     |normal=>exact absurd hk (cw _ _)
     |_=>exact⟨rfl,rfl,rfl⟩
  ·cases h
   exact⟨rfl,fun c hc=>cL ⟨rfl,rfl,rfl⟩⟩
  ·cases h
   exact⟨rfl,fun c hc=>bh ⟨rfl,rfl,rfl⟩⟩
  ·cases h
theorem ub{n:Nat}{f:FuncId}{ds:List D}{r:AV}(hm:P.follows .mixedOrders=true)(dB:∀k,KT k=true→Maps.Keyed P k)(h:Hm (Hk P (vk P KT n)) f ds=some r):cC P f ds r:=
 MS (jbr (jiy hm dB n)) h
end
end
end Go.Proofs.YtapjobndmmkanaaGreat
