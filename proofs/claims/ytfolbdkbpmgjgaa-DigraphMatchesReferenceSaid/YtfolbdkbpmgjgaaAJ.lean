/- Of no program: an interpreter of the abstract machine, and that what it finds is so. -/
import Derived.Test.YtfolbdkbpmgjgaaAO
set_option linter.unusedVariables false
set_option linter.unusedSimpArgs false
namespace Go.Proofs.Ytfolbdkbpmgjgaa
open Go Go.RowKit
section
def fL(l:List AV):Fr:=fun t=>l.getD t (.d (.val undef))
def zze(l:List AV)(d:Option Tmp)(x:AV):List AV:=match d with|some d=>l.set d x|none=>l
theorem zd8(l:List AV)(d:Option Tmp)(x:AV):(zze l d x).length=l.length:=by unfold zze;split<;>simp
theorem zqv(l:List AV)(d:Option Tmp)(x:AV)(h:∀t,d=some t→t<l.length):(fL l).put d x=fL (zze l d x):=by
 unfold zze
 cases d with
 |none=>rfl
 |some d=>
  have hd:=h d rfl
  funext t
  simp only[Fr.put,fL,List.getD_eq_getElem?_getD,List.getElem?_set]
  by_cases ht:t=d
  ·subst ht;simp[hd]
  ·rw[if_neg ht,if_neg (Ne.symm ht)]
abbrev CB:=FuncId→List AV→zaa→Option (AV × zaa)
def jcn(cb:CB)(ρ:Operand→AV)(op:Op)(H:zaa):Option (AV × zaa):=
 match op with
 | .call {callee:=.value f,args:=args,..}=>(match zde (ρ f)with
  |some (n,fi,ca)=>cb n (fi++args.toList.map ρ++ca) H
  |none=>none)
 |_=>none
def zu8(P:Program)(KT:TypeId→Bool)(cb:CB)(op:Op)(ρ:Operand→AV)(H:zaa):Option (AV × zaa):=
 match kOf [] op with
 |0=>if zci op then jcn cb ρ op H else(opF P H.length H KT ρ op).map fun x=>(x,H)
 |2=>(match op with| .store t p y=>(storeF P t (ρ p) (ρ y) H [] 0).map fun H'=>(.d (.val undef),H')|_=>none)
 |4=>jcm P KT ρ op H []
 |_=>(match layF P H.length ρ op H with
  |some (x,o,some i)=>some (x,H.set i .dead++[o])
  |some (x,o,none)=>some (x,H++[o])
  |none=>none)
def zu9(P:Program)(KT:TypeId→Bool)(cb:CB)(ops:List Oper):List Oper→List AV→zaa→Option (List AV × zaa)
 |[],l,H=>some (l,H)
 |o::os,l,H=>match zbr ops (fL l) o with
  |some true=>(match zu8 P KT cb o.op (zap (fL l)) H with
   |some (x,H')=>zu9 P KT cb ops os (zze l o.dst x) H'
   |none=>none)
  |some false=>zu9 P KT cb ops os (zze l o.dst (.d (.val undef))) H
  |none=>none
section
variable {P:Program} {KT:TypeId→Bool} {cb:CB} {H:zaa} {ρ:Operand→AV} {op:Op}
def deadH(H:zaa):Option Nat→zaa
 |some i=>H.set i .dead
 |none=>H
def jco(P:Program)(cb:CB):Prop:=∀f xs H x H',cb f xs H=some (x,H')→IcK P f xs H fun x1 H1=>x1=x∧H1=H'
theorem zlh(hk0:kOf [] op≠0)(hk2:kOf [] op≠2)(hk4:kOf [] op≠4):kOf [] op=1∨kOf [] op=3:=by
 rcases zi8 [] op with h|h|h|h|h<;>first|exact absurd h (by assumption)|exact .inl h|exact .inr h
theorem zli{x:AV}{o:AObj}{dd:Option Nat}(h:layF P H.length ρ op H=some (x,o,dd)){K:AV→zaa→Prop}(hK:K x (deadH H dd++[o])):
  ∃x H',OpA P false H.length ρ op (H++[.free]) [] x H' []∧K x H':=by
 cases op with
 |box t y=>
  obtain⟨cs,hc,he⟩:=Option.map_eq_some_iff.1 h
  cases he
  rw[jos];exact⟨cs,hc,hK⟩
 |alloc t=>
  obtain⟨zs,hz,he⟩:=Option.map_eq_some_iff.1 h
  cases he
  rw[jex];exact⟨zs,hz,hK⟩
 |makeSlice t l cp=>
  simp only[layF]at h
  split at h
  ·rename_i s zs b n m hq hn hm
   obtain⟨k1,hn⟩:=ze0 hn
   obtain⟨k2,hm⟩:=ze0 hm
   split at h
   ·rename_i hb
    cases h
    exact ji6 ⟨(s,zs,b),k1,k2,n,m,hq,hn,hm,hb.1,hb.2.1,hb.2.2.1,hb.2.2.2,hK⟩
   ·cases h
  ·cases h
 |makeMap t hint=>
  cases hint with
  |none=>
   cases h
   exact⟨_,_,⟨.inl rfl,rfl,rfl,rfl⟩,by rw[zdf];exact hK⟩
  |some y=>
   unfold layF at h
   simp only at h
   split at h
   ·rename_i hc
    simp only[Bool.and_eq_true]at hc
    obtain⟨i,hi⟩:=Option.isSome_iff_exists.1 hc.1
    obtain⟨k,hk⟩:=ze0 hi
    cases h
    exact⟨_,_,⟨.inr ⟨y,k,i,rfl,hk,hc.2⟩,rfl,rfl,rfl⟩,by rw[zdf];exact hK⟩
   ·cases h
 |buildSlice t len parts=>
  simp only[layF]at h
  split at h
  ·rename_i s zs b hq
   split at h
   ·rename_i hb
    obtain⟨cs,hc,he⟩:=Option.map_eq_some_iff.1 h
    cases he
    exact jsf ⟨(s,zs,b),hq,hb,cs,hc,hK⟩
   ·cases h
  ·cases h
 |call cl=>
  obtain⟨callee,⟨args⟩,⟨ts⟩⟩:=cl
  unfold layF at h
  simp only at h
  split at h
  ·rename_i s y t t'
   ·split at h
    ·rename_i z zs b hq
     split at h
     ·rename_i m l hsrc
      have hsrc:=zqu (zd7 hq).choose_spec.2.2.2.2.2 hsrc
      refine jow ?_
      split at h
      ·rename_i k id off n hs
       split at h
       ·rename_i cs hcs
        split at h
        ·rename_i hb
         cases h
         rw[hs]
         obtain⟨rfl,b1,b2,b3⟩:=hb
         exact⟨(k,zs,b),hq,rfl,cs,hcs,b1,m,l,hsrc,b2,b3,hK⟩
        ·cases h
       ·cases h
      ·rename_i hs
       split at h
       ·rename_i hb
        cases h
        rw[hs]
        exact⟨(z,zs,b),hq,m,l,hsrc,hb.1,hb.2,hK⟩
       ·cases h
      ·cases h
     ·cases h
    ·cases h
  ·cases h
 |_=>cases h
theorem zva{sm:List Nat}(hKT:∀k,KT k=true→Maps.Keyed P k)(hcb:jco P cb){o:Oper}{l:List AV}{x:AV}{H':zaa}(hd:∀t,o.dst=some t→t<l.length)(h:zu8 P KT cb o.op (zap (fL l)) H=some (x,H')){K:Fr→zaa→Prop}(hK:K (fL (zze l o.dst x)) H'):zsr P [] sm o (fL l) H K:=by
 have hput:∀y,(fL l).put o.dst y=fL (zze l o.dst y):=fun y=>zqv l o.dst y hd
 unfold zu8 at h
 unfold zsr
 split at h
 ·rename_i hk
  simp only[hk]
  split at h
  ·right
   unfold jcn at h
   unfold ji3
   split at h
   ·rename_i f args ts e
    rw[e]
    simp only
    split at h
    ·rename_i n fi ca hc
     refine .inl ⟨n,fi,ca,hc,.inl ?_⟩
     obtain⟨h1,fn,code,h2,h3,h4,h5⟩:=hcb _ _ _ _ _ h
     exact IcK.sem ⟨h1,fn,code,h2,h3,h4,fun c hc'=>zcd (h5 c hc') fun e τ H1 hp=>by
      unfold zer at hp ⊢
      split at hp
      ·exact zef _ _ _ (fun xs ⟨e1,e2⟩=>by rw[e1,e2];show K ((fL l).put o.dst x) H';rw[hput];exact hK) hp
      ·exact zef _ _ _ (fun xs ⟨e1,e2⟩=>by rw[e1,e2];show K ((fL l).put o.dst x) H';rw[hput];exact hK) hp
      ·exact hp.elim⟩
    ·cases h
   ·cases h
  ·obtain⟨y,hy,he⟩:=Option.map_eq_some_iff.1 h
   cases he
   exact .inl ⟨x,zqt hKT hy,by rw[hput];exact hK⟩
 ·rename_i hk
  simp only[hk]
  split at h
  ·rename_i t p y e
   obtain⟨H1,hH,he⟩:=Option.map_eq_some_iff.1 h
   cases he
   rw[e]
   exact⟨_,zfd hH,by rw[hput];exact hK⟩
  ·cases h
 ·rename_i hk
  simp only[hk]
  exact⟨x,H',zjd hKT h,by rw[hput];exact hK⟩
 ·rename_i hk0 hk2 hk4
  have hlay:∃x H',OpA P false H.length (zap (fL l)) o.op (H++[.free]) [] x H' []∧K ((fL l).put o.dst x) H':=by
   split at h
   ·rename_i x' o' i hl
    cases h
    exact zli hl (K:=fun x H'=>K ((fL l).put o.dst x) H') (by rw[hput];exact hK)
   ·rename_i x' o' hl
    cases h
    exact zli hl (K:=fun x H'=>K ((fL l).put o.dst x) H') (by rw[hput];exact hK)
   ·cases h
  rcases zlh hk0 hk2 hk4 with hk|hk
  ·simp only[hk];exact hlay
  ·simp only[hk];exact hlay
theorem zim{sm:List Nat}(hKT:∀k,KT k=true→Maps.Keyed P k)(hcb:jco P cb){ops:List Oper}:∀{os:List Oper} {l l':List AV} {H H':zaa},zdl l.length os=true→zu9 P KT cb ops os l H=some (l',H')→l'.length=l.length∧∀K:Fr→zaa→Prop,K (fL l') H'→jch P [] sm ops os (fL l) H K
 |[],l,l',H,H',_,h=>by
  cases h
  exact⟨rfl,fun K hK=>hK⟩
 |o::os,l,l',H,H',hd,h=>by
  simp only[zdl,List.all_cons,Bool.and_eq_true]at hd
  have hdo:∀d,o.dst=some d→d<l.length:=fun d e=>by have:=hd.1.1;rw[e]at this;simpa using this
  unfold zu9 at h
  split at h
  ·rename_i hg
   split at h
   ·rename_i x H1 hc
    obtain⟨h1,h2⟩:=zim hKT hcb (os:=os) (by rw[zd8];exact hd.2) h
    rw[zd8]at h1
    exact⟨h1,fun K hK=>⟨true,hg,fun _=>zva hKT hcb hdo hc (h2 K hK),fun e=>by cases e⟩⟩
   ·cases h
  ·rename_i hg
   obtain⟨h1,h2⟩:=zim hKT hcb (os:=os) (by rw[zd8];exact hd.2) h
   rw[zd8]at h1
   exact⟨h1,fun K hK=>⟨false,hg,(fun e=>by cases e),fun _=>by rw[zqv _ _ _ hdo];exact h2 K hK⟩⟩
  ·cases h
end
/- Of no program: the interpreter: regions that draw, code, functions. -/
end
section
def zvb(cb:CB)(n:FuncId)(ds:List D):Option AV:=match cb n (ds.map .d) []with|some (x,H')=>closeA H' x|none=>none
def jox(cb:CB)(n:FuncId)(ds:List D):Option AV:=match cb n (ds.map .d) []with|some (x,H')=>closeN H' x|none=>none
def zvc(cb:CB)(N:Nat)(H:zaa)(ρ:Operand→AV)(op:Op):Option AV:=
 match op with
 | .call {callee:=.value f,args:=args,..}=>(match zde (ρ f)with
  |some (n,fi,ca)=>(match AV.toD.toDs (fi++args.toList.map ρ++ca)with
   |some ds=>zvb cb n ds
   |none=>(match zc1 (zdr H N) 9 (fi++args.toList.map ρ++ca)with
    |some ds=>(match zvb cb n ds with|some (.d (.val v))=>some (.d (.val v))|_=>jox cb n ds)
    |none=>none))
  |none=>none)
 |_=>none
def appB(N:Nat)(al:List Nat)(ρ:Operand→AV)(op:Op):Bool:=
 match op with
 | .call {callee:=.builtin .append,args:=args,..}=>args.toList.all fun y=>zdq N al (ρ y)
 |_=>true
def shB(n:Nat):List (Nat × Nat)→Bool
 |[]=>true
 |p::l=>p.1 !=n&&p.2 !=n&&shB n l
def zje:List AV→Option (List D)
 |[]=>some []
 | .d y::l=>(zje l).map (y::·)
 |_=>none
theorem zlj:∀{l:List AV} {ds:List D},zje l=some ds→l=ds.map .d
 |[],ds,h=>by cases h;rfl
 | .d y::l,ds,h=>by
  simp only[zje,Option.map_eq_some_iff]at h
  obtain⟨m,hm,rfl⟩:=h
  rw[zlj hm];rfl
 | .any::_,_,h=>by cases h
 | .os .. ::_,_,h=>by cases h
 | .op .. ::_,_,h=>by cases h
 | .om .. ::_,_,h=>by cases h
 | .agg .. ::_,_,h=>by cases h
 | .tup .. ::_,_,h=>by cases h
 | .clo .. ::_,_,h=>by cases h
theorem zm8:zje []=some []:=rfl
theorem zvd{y:D}{l:List AV}:zje (.d y::l)=(zje l).map (y::·):=rfl
def frzF(op:Op)(x:AV)(o:AObj):Option (List D × Nat):=
 match op,x,o with
 | .buildSlice ..,.os k _ _ n,.cells cs=>if 0<n∧cs.length=n*k then(zje cs).map fun ds=>(ds,n)else none
 | .makeSlice _ (.tmp _) _,.os k _ _ n,.cells cs=>if cs.length=n*k then(zje cs).map fun ds=>(ds,n)else none
 | .makeSlice _ (.const _) _,.os k _ _ n,.cells cs=>if 0<n∧cs.length=n*k then(zje cs).map fun ds=>(ds,n)else none
 |_,_,_=>none
def layEF(P:Program)(N r:Nat)(al:List Nat)(ρ:Operand→AV)(op:Op)(H:zaa)(sh:List (Nat × Nat)):Option (AV × zaa × List (Nat × Nat)):=
 match H[N+r]?,layF P (N+r) ρ op H with
 |some .free,some (x,o,dd)=>if shB (N+r) sh&&appB N al ρ op then(match dd with
  |none=>(match frzF op x o with
   |some (ds,n)=>some (.d (.fs ds n),H.set (N+r) .dead,sh)
   |none=>some (x,H.set (N+r) o,sh))
  |some id=>if sh.all fun p=>p.2 !=id then some (x,H.set (N+r) o,appSh sh id (N+r))else none)else none
 |_,_=>none
def zve(P:Program)(KT:TypeId→Bool)(cb:CB)(N r:Nat)(fresh:Bool)(m:List (Nat × Nat))(o:Oper)(ρ:Operand→AV)(H:zaa)(sh:List (Nat × Nat)):Option (AV × zaa × List (Nat × Nat)):=
 match kOf [] o.op with
 |0=>(if zci o.op then zvc cb N H ρ o.op else opF P N H KT ρ o.op).map fun x=>(x,H,sh)
 |2=>(match o.op with| .store t p y=>(storeF P t (ρ p) (ρ y) H sh (if fresh then N else 0)).map fun H'=>(.d (.val undef),H',sh)|_=>none)
 |4=>(jcm P KT ρ o.op H sh).map fun p=>(p.1,p.2,sh)
 |_=>layEF P N r (zo5 m o.after.toList) ρ o.op H sh
def zvf(P:Program)(KT:TypeId→Bool)(cb:CB)(ops:List Oper)(N:Nat):Nat→Nat→List (Nat × Nat)→List Oper→List AV→zaa→List (Nat × Nat)→Option (List AV × zaa × List (Nat × Nat))
 |_,_,_,[],l,H,sh=>some (l,H,sh)
 |i,r,m,o::os,l,H,sh=>match zbr ops (fL l) o with
  |some true=>(match zve P KT cb N r (zc2 ops o) m o (zap (fL l)) H sh with
   |some (x,H',sh')=>zvf P KT cb ops N (i+1) (if lays [] o then r+1 else r) (if lays [] o then(i,r)::m else m) os (zze l o.dst x) H' sh'
   |none=>none)
  |some false=>zvf P KT cb ops N (i+1) (if lays [] o then r+1 else r) (if lays [] o then(i,r)::m else m) os (zze l o.dst (.d (.val undef))) H sh
  |none=>none
section
variable {P:Program} {KT:TypeId→Bool} {cb:CB} {H:zaa} {ρ:Operand→AV} {op:Op}
theorem zlk{f:FuncId}{ds:List D}{r:AV}(h:IcK P f (ds.map .d) [] fun x H=>closeA H x=some r):zas P f ds r:=by
 obtain⟨he,fn,code,hf,hb,hn,hw⟩:=h
 exact zup he hf hb (by simpa using hn) hw
theorem IcK.mono{f:FuncId}{xs:List AV}{K K':AV→zaa→Prop}(h:IcK P f xs H K)(hK:∀x H',K x H'→K' x H'):IcK P f xs H K':=by
 obtain⟨he,fn,code,hf,hb,hn,hw⟩:=h
 exact⟨he,fn,code,hf,hb,hn,fun c hc=>zcd (hw c hc) fun e τ H1 hp=>by
  unfold zer at hp ⊢
  split at hp
  ·exact zef _ _ _ (fun xs h=>hK _ _ h) hp
  ·exact zef _ _ _ (fun xs h=>hK _ _ h) hp
  ·exact hp.elim⟩
theorem zll(hcb:jco P cb){n:FuncId}{ds:List D}{x:AV}(h:zvb cb n ds=some x):zas P n ds x:=by
 unfold zvb at h
 split at h
 ·rename_i y H' hy
  exact zlk ((hcb _ _ _ _ _ hy).mono fun x1 H1 ⟨e1,e2⟩=>by rw[e1,e2];exact h)
 ·cases h
theorem zlm{f:FuncId}{ds:List D}{r:AV}(h:IcK P f (ds.map .d) [] fun x H=>closeN H x=some r):zqc P f ds r:=by
 obtain⟨he,fn,code,hf,hb,hn,hw⟩:=h
 exact zur he hf hb (by simpa using hn) hw
theorem je3(hcb:jco P cb){n:FuncId}{ds:List D}{x:AV}(h:jox cb n ds=some x):zqc P n ds x:=by
 unfold jox at h
 split at h
 ·rename_i y H' hy
  exact zlm ((hcb _ _ _ _ _ hy).mono fun x1 H1 ⟨e1,e2⟩=>by rw[e1,e2];exact h)
 ·cases h
theorem zvg(hcb:jco P cb){N:Nat}{x:AV}(h:zvc cb N H ρ op=some x):OpQ P N H ρ op x:=by
 unfold zvc at h
 split at h
 ·rename_i f args ts
  split at h
  ·rename_i n fi ca hc
   split at h
   ·rename_i ds hds
    exact⟨n,fi,ca,ds,hc,.inl ⟨.inl hds,zll hcb h⟩⟩
   ·split at h
    ·rename_i ds hds
     split at h
     ·rename_i v hy
      cases h
      exact⟨n,fi,ca,ds,hc,.inl ⟨.inr ⟨rfl,hds⟩,zll hcb hy⟩⟩
     ·exact⟨n,fi,ca,ds,hc,.inr ⟨hds,je3 hcb h⟩⟩
    ·cases h
  ·cases h
 ·cases h
theorem zvh{n:Nat}:∀{sh:List (Nat × Nat)},shB n sh=true→zt3 n sh
 |[],_=>trivial
 |p::l,h=>by
  simp only[shB,Bool.and_eq_true,bne_iff_ne,ne_eq]at h
  exact⟨h.1.1,h.1.2,zvh h.2⟩
theorem zo8{N r:Nat}{al:List Nat}{sh sh':List (Nat × Nat)}{x:AV}{H':zaa}(h:layEF P N r al ρ op H sh=some (x,H',sh')){KX:AV→zaa→List (Nat × Nat)→Prop}(hK:KX x H' sh'):zzd P N r al ρ op H sh KX:=by
 unfold layEF at h
 split at h
 ·rename_i x' o dd hfree hl
  split at h
  ·rename_i hc
   simp only[Bool.and_eq_true]at hc
   obtain⟨hs,ha⟩:=hc
   have hs:=zvh hs
   have hres:(dd=none∧x'=x∧H'=H.set (N+r) o∧sh'=sh∨dd=none∧∃ds n,frzF op x' o=some (ds,n)∧x= .d (.fs ds n)∧H'=H.set (N+r) .dead∧sh'=sh)∨∃id,dd=some id∧(∀p∈sh,p.2≠id)∧x'=x∧H'=H.set (N+r) o∧sh'=appSh sh id (N+r):=by
    split at h
    ·split at h
     ·rename_i ds n hz
      cases h;exact .inl (.inr ⟨rfl,ds,n,hz,rfl,rfl,rfl⟩)
     ·cases h;exact .inl (.inl ⟨rfl,rfl,rfl,rfl⟩)
    ·rename_i id
     split at h
     ·rename_i hall
      cases h
      exact .inr ⟨id,rfl,fun p hp=>by have:=List.all_eq_true.1 hall p hp;simpa using this,rfl,rfl,rfl⟩
     ·cases h
   clear h
   cases op with
   |box t y=>
    obtain⟨cs,hcs,he⟩:=Option.map_eq_some_iff.1 hl
    cases he
    rcases hres.imp_left (fun h=>h.resolve_right fun⟨_,_,_,hz,_⟩=>by cases hz)with⟨_,rfl,rfl,rfl⟩|⟨id,h1,_⟩
    ·rw[jot];exact⟨hfree,hs,cs,hcs,hK⟩
    ·cases h1
   |alloc t=>
    obtain⟨zs,hz,he⟩:=Option.map_eq_some_iff.1 hl
    cases he
    rcases hres.imp_left (fun h=>h.resolve_right fun⟨_,_,_,hz,_⟩=>by cases hz)with⟨_,rfl,rfl,rfl⟩|⟨id,h1,_⟩
    ·rw[jey];exact⟨hfree,hs,zs,hz,hK⟩
    ·cases h1
   |makeSlice t l cp=>
    simp only[layF]at hl
    split at hl
    ·rename_i s zs b n m hq hn hm
     obtain⟨k1,hn⟩:=ze0 hn
     obtain⟨k2,hm⟩:=ze0 hm
     split at hl
     ·rename_i hb
      cases hl
      rcases hres with(⟨_,rfl,rfl,rfl⟩|⟨_,ds,n',hz,rfl,rfl,rfl⟩)|⟨id,h1,_⟩
      ·exact jcl ⟨hfree,hs,(s,zs,b),k1,k2,n,m,hq,hn,hm,hb.1,hb.2.1,hb.2.2.1,hb.2.2.2,hK⟩
      ·have hz':(if(zf2 n.toNat zs).length=n.toNat*s then(zje (zf2 n.toNat zs)).map fun ds=>(ds,n.toNat)else none)=some (ds,n'):=by
        cases l with
        |tmp _=>exact hz
        |const _=>
         have hz2:(if 0<n.toNat∧(zf2 n.toNat zs).length=n.toNat*s then(zje (zf2 n.toNat zs)).map fun ds=>(ds,n.toNat)else none)=some (ds,n'):=hz
         split at hz2
         ·rename_i hz0;rw[if_pos hz0.2];exact hz2
         ·cases hz2
        |global _=>cases hz
        |func _=>cases hz
       split at hz'
       ·rename_i hz0
        obtain⟨ds',hd,he⟩:=Option.map_eq_some_iff.1 hz'
        cases he
        have hdo:=zlj hd
        exact jez ⟨hfree,hs,(s,zs,b),k1,k2,n,m,hq,hn,hm,hb.1,hb.2.1,hb.2.2.1,hb.2.2.2,ds,hdo,by have:=hz0;rw[hdo,List.length_map]at this;exact this,hK⟩
       ·cases hz'
      ·cases h1
     ·cases hl
    ·cases hl
   |makeMap t hint=>
    have key:∀(hh:hint=none∨∃y k m,hint=some y∧ρ y= .d (.val (.int k m))∧(zml P t).isSome=true),layF P (N+r) ρ (.makeMap t hint) H=some (.om (N+r),.map [] 0,none)→zzd P N r al ρ (.makeMap t hint) H sh KX:=fun hh he=>by
     rw[he]at hl
     cases hl
     rcases hres.imp_left (fun h=>h.resolve_right fun⟨_,_,_,hz,_⟩=>by cases hz)with⟨_,rfl,rfl,rfl⟩|⟨id,h1,_⟩
     ·exact⟨hfree,(zc3 _ _).1 hs,trivial,_,_,_,⟨hh,rfl,rfl,rfl⟩,hK⟩
     ·cases h1
    cases hint with
    |none=>exact key (.inl rfl) rfl
    |some y=>
     have hl':=hl
     unfold layF at hl'
     simp only at hl'
     split at hl'
     ·rename_i hc
      have hc':=hc
      simp only[Bool.and_eq_true]at hc
      obtain⟨i,hi⟩:=Option.isSome_iff_exists.1 hc.1
      obtain⟨k,hk⟩:=ze0 hi
      exact key (.inr ⟨y,k,i,rfl,hk,hc.2⟩) (by unfold layF;simp only;rw[if_pos hc'])
     ·cases hl'
   |buildSlice t len parts=>
    simp only[layF]at hl
    split at hl
    ·rename_i s zs b hq
     split at hl
     ·rename_i hb
      obtain⟨cs,hcs,he⟩:=Option.map_eq_some_iff.1 hl
      cases he
      rcases hres with(⟨_,rfl,rfl,rfl⟩|⟨_,ds,n,hz,rfl,rfl,rfl⟩)|⟨id,h1,_⟩
      ·exact jsg ⟨hfree,hs,(s,zs,b),hq,hb,cs,hcs,hK⟩
      ·simp only[frzF]at hz
       split at hz
       ·rename_i hz0
        obtain⟨ds',hd,he⟩:=Option.map_eq_some_iff.1 hz
        cases he
        have:=zlj hd
        subst this
        exact jou ⟨hfree,hs,(s,zs,b),hq,hb,_,hcs,_,rfl,by simpa using hz0.2,hK⟩
       ·cases hz
      ·cases h1
     ·cases hl
    ·cases hl
   |call cl=>
    obtain⟨callee,⟨args⟩,⟨ts⟩⟩:=cl
    unfold layF at hl
    simp only at hl
    split at hl
    ·rename_i s y t t'
     have hb1:zdq N al (ρ s)=true∧zdq N al (ρ y)=true:=by
      simp only[appB,List.all_cons,List.all_nil,Bool.and_eq_true,Bool.and_true]at ha
      exact ha
     ·split at hl
      ·rename_i z zs b hq
       split at hl
       ·rename_i m l hsrc
        have hsrc:=zqu (zd7 hq).choose_spec.2.2.2.2.2 hsrc
        refine jov ⟨hfree,hs,hb1.1,hb1.2,?_⟩
        split at hl
        ·rename_i k id off n hs
         split at hl
         ·rename_i cs hcs
          split at hl
          ·rename_i hb
           cases hl
           rw[hs]
           obtain⟨rfl,b1,b2,b3⟩:=hb
           rcases hres.imp_left (fun h=>h.resolve_right fun⟨_,_,_,hz,_⟩=>by cases hz)with⟨h1,_⟩|⟨id',h1,h2,rfl,rfl,rfl⟩
           ·cases h1
           ·cases h1
            exact⟨(k,zs,b),hq,rfl,cs,hcs,b1,h2,m,l,hsrc,b2,b3,hK⟩
          ·cases hl
         ·cases hl
        ·rename_i hs
         split at hl
         ·rename_i hb
          cases hl
          rw[hs]
          rcases hres.imp_left (fun h=>h.resolve_right fun⟨_,_,_,hz,_⟩=>by cases hz)with⟨_,rfl,rfl,rfl⟩|⟨id',h1,_⟩
          ·exact⟨(z,zs,b),hq,m,l,hsrc,hb.1,hb.2,hK⟩
          ·cases h1
         ·cases hl
        ·cases hl
       ·cases hl
      ·cases hl
    ·cases hl
   |_=>cases hl
  ·cases h
 ·cases h
theorem zvi(hKT:∀k,KT k=true→Maps.Keyed P k)(hcb:jco P cb){N r:Nat}{fresh:Bool}{m:List (Nat × Nat)}{o:Oper}{τ:Fr}{sh sh':List (Nat × Nat)}{x:AV}{H':zaa}(h:zve P KT cb N r fresh m o (zap τ) H sh=some (x,H',sh')){K:AV→zaa→List (Nat × Nat)→Prop}(hK:K x H' sh'):
  zgh P [] N r fresh m o τ H sh K:=by
 unfold zve at h
 unfold zgh
 split at h
 ·rename_i hk
  simp only[hk]
  obtain⟨y,hy,he⟩:=Option.map_eq_some_iff.1 h
  cases he
  refine⟨x,?_,hK⟩
  split at hy
  ·exact zvg hcb hy
  ·exact zqt hKT hy
 ·rename_i hk
  simp only[hk]
  split at h
  ·rename_i t p y e
   obtain⟨H1,hH,he⟩:=Option.map_eq_some_iff.1 h
   cases he
   rw[e]
   exact⟨_,zfd hH,hK⟩
  ·cases h
 ·rename_i hk
  simp only[hk]
  obtain⟨p,hp,he⟩:=Option.map_eq_some_iff.1 h
  cases he
  exact⟨p.1,p.2,zjd hKT hp,hK⟩
 ·rename_i hk0 hk2 hk4
  have:=zo8 h hK
  rcases zlh hk0 hk2 hk4 with hk|hk
  ·simp only[hk];exact this
  ·simp only[hk];exact this
theorem zln(hKT:∀k,KT k=true→Maps.Keyed P k)(hcb:jco P cb){ops:List Oper}{N:Nat}:∀{os:List Oper} {i r:Nat} {m:List (Nat × Nat)} {l l':List AV} {H H':zaa} {sh sh':List (Nat × Nat)},zdl l.length os=true→zvf P KT cb ops N i r m os l H sh=some (l',H',sh')→
  l'.length=l.length∧∀K:Fr→zaa→List (Nat × Nat)→Prop,K (fL l') H' sh'→jci P [] ops N i r m os (fL l) H sh K
 |[],_,_,_,l,l',H,H',sh,sh',_,h=>by
  cases h
  exact⟨rfl,fun K hK=>hK⟩
 |o::os,i,r,m,l,l',H,H',sh,sh',hd,h=>by
  simp only[zdl,List.all_cons,Bool.and_eq_true]at hd
  have hdo:∀d,o.dst=some d→d<l.length:=fun d e=>by have:=hd.1.1;rw[e]at this;simpa using this
  unfold zvf at h
  split at h
  ·rename_i hg
   split at h
   ·rename_i x H1 sh1 hc
    obtain⟨h1,h2⟩:=zln hKT hcb (os:=os) (by rw[zd8];exact hd.2) h
    rw[zd8]at h1
    refine⟨h1,fun K hK=>⟨true,hg,fun _=>zvi hKT hcb hc ?_,fun e=>by cases e⟩⟩
    rw[zqv _ _ _ hdo]
    exact h2 K hK
   ·cases h
  ·rename_i hg
   obtain⟨h1,h2⟩:=zln hKT hcb (os:=os) (by rw[zd8];exact hd.2) h
   rw[zd8]at h1
   exact⟨h1,fun K hK=>⟨false,hg,(fun e=>by cases e),fun _=>by rw[zqv _ _ _ hdo];exact h2 K hK⟩⟩
  ·cases h
end
def jil(P:Program)(l:List AV)(H:zaa):List ResultVar→Option (List AV)
 |[]=>some []
 | .tmp t::rs=>(jil P l H rs).map fun xs=>fL l t::xs
 | .cell t ty::rs=>(match loadF P H.length H ty (fL l t)with|some x=>(jil P l H rs).map fun xs=>x::xs|none=>none)
abbrev EX:=Code→List AV→zaa→Option (Exit × List AV × zaa)
def zvj(P:Program)(ex:EX):CB:=fun f xs H=>
 if zk7 P f then(match P.funcs[f]? with
  |some fn=>(match fn.body with
   |some code=>if xs.length≤fn.ntmps then(match ex code (xs++List.replicate (fn.ntmps - xs.length) (.d (.val undef))) H with
    |some (.normal,l,H')=>(jil P l H' fn.results.toList).map fun ys=>(retV ys,H')
    |some (.ret,l,H')=>(jil P l H' fn.results.toList).map fun ys=>(retV ys,H')
    |_=>none)else none
   |none=>none)
  |none=>none)else none
def ji8(P:Program)(KT:TypeId→Bool)(cb:CB)(ops:List Oper)(l:List AV)(H:zaa):Option (List AV × zaa):=
 if zut [] ops ops.length 0 (Array.replicate ops.length false)then(match zvf P KT cb ops H.length 0 0 [] ops l (H++List.replicate (ops.countP (lays [])) .free) []with
  |some (l',H',sh')=>some (l',killAll sh' H')
  |none=>none)else none
def zst(b:List AV→zaa→Option (Exit × List AV × zaa)):Nat→List AV→zaa→Option (Exit × List AV × zaa)
 |0,_,_=>none
 |k+1,l,H=>match b l H with
  |some (.normal,l',H')=>zst b k l' H'
  |r=>r
def zsu(P:Program)(KT:TypeId→Bool):Nat→EX
 |0,_,_,_=>none
 |n+1,code,l,H=>match code with
  | .skip=>some (.normal,l,H)
  | .region _ ops draw=>if zdl l.length ops.toList then(match(if draw then ji8 P KT (zvj P (zsu P KT n)) ops.toList l H else zu9 P KT (zvj P (zsu P KT n)) ops.toList ops.toList l H)with
   |some (l',H')=>some (.normal,l',H')
   |none=>none)else none
  | .seq a b=>(match zsu P KT n a l H with
   |some (.normal,l',H')=>zsu P KT n b l' H'
   |r=>r)
  | .cond o a b=>(match zap (fL l) o with
   | .d (.val (.bool t))=>if t then zsu P KT n a l H else zsu P KT n b l H
   |_=>none)
  | .block id a=>(match zsu P KT n a l H with
   |some (.exit i,l',H')=>if i=id then some (.normal,l',H')else some (.exit i,l',H')
   |r=>r)
  | .loop a=>zst (zsu P KT n a) n l H
  | .exit id=>some (.exit id,l,H)
  | .ret=>some (.ret,l,H)
  |_=>none
section
variable {P:Program} {KT:TypeId→Bool}
theorem zlo{l:List AV}{H:zaa}:∀{rs:List ResultVar} {xs:List AV} {K:List AV→Prop},jil P l H rs=some xs→K xs→zsq P (fL l) H rs K
 |[],xs,K,h,hK=>by cases h;exact hK
 | .tmp t::rs,xs,K,h,hK=>by
  obtain⟨ys,hy,rfl⟩:=Option.map_eq_some_iff.1 h
  exact zlo (K:=fun xs=>K (fL l t::xs)) hy hK
 | .cell t ty::rs,xs,K,h,hK=>by
  simp only[jil]at h
  split at h
  ·rename_i x hx
   obtain⟨ys,hy,rfl⟩:=Option.map_eq_some_iff.1 h
   exact⟨x,zle hx,zlo (K:=fun xs=>K (x::xs)) hy hK⟩
  ·cases h
def jq6(P:Program)(ex:EX):Prop:=∀code l H e l' H',ex code l H=some (e,l',H')→l'.length=l.length∧∀c:Cx,c.nt=l.length→AWp P c code (fun e1 τ1 H1=>e1=e∧τ1=fL l'∧H1=H') (fL l) H
theorem zvk(xs:List AV)(n:Nat):zdp xs=fL (xs++List.replicate n (.d (.val undef))):=by
 funext t
 unfold zdp fL
 rw[List.getD_eq_getElem?_getD,List.getD_eq_getElem?_getD,List.getElem?_append]
 split
 ·rfl
 ·rename_i h
  rw[List.getElem?_eq_none (by omega),List.getElem?_replicate]
  split<;>rfl
theorem zqw{ex:EX}(h:jq6 P ex):jco P (zvj P ex):=by
 intro f xs H x H' hc
 unfold zvj at hc
 split at hc
 ·rename_i he
  split at hc
  ·rename_i fn hf
   split at hc
   ·rename_i code hb
    split at hc
    ·rename_i hn
     refine⟨he,fn,code,hf,hb,hn,fun c hnt=>?_⟩
     rw[zvk xs (fn.ntmps - xs.length)]
     split at hc
     ·rename_i l H1 hex
      obtain⟨ys,hy,he⟩:=Option.map_eq_some_iff.1 hc
      cases he
      obtain⟨_,h2⟩:=h _ _ _ _ _ _ hex
      exact zcd (h2 c (by simp;omega)) fun e τ H2 ⟨e1,e2,e3⟩=>by
       subst e1 e2 e3
       exact zlo hy ⟨rfl,rfl⟩
     ·rename_i l H1 hex
      obtain⟨ys,hy,he⟩:=Option.map_eq_some_iff.1 hc
      cases he
      obtain⟨_,h2⟩:=h _ _ _ _ _ _ hex
      exact zcd (h2 c (by simp;omega)) fun e τ H2 ⟨e1,e2,e3⟩=>by
       subst e1 e2 e3
       exact zlo hy ⟨rfl,rfl⟩
     ·cases hc
    ·cases hc
   ·cases hc
  ·cases hc
 ·cases hc
theorem zvl(hm:P.follows .mixedOrders=true)(hKT:∀k,KT k=true→Maps.Keyed P k):∀n,jq6 P (zsu P KT n)
 |0=>fun code l H e l' H' h=>by cases h
 |n+1=>fun code l H e l' H' h=>by
  have ih:=zvl hm hKT n
  have hcb:=zqw ih
  unfold zsu at h
  split at h
  ·cases h
   exact⟨rfl,fun c hc=>zah ⟨rfl,rfl,rfl⟩⟩
  ·rename_i id ops draw
   obtain⟨ops⟩:=ops
   simp only at h
   split at h
   ·rename_i hd
    split at h
    ·rename_i l1 H1 hr
     cases h
     cases draw with
     |false=>
      simp only[Bool.false_eq_true,if_false]at hr
      exact⟨(zim (sm:=[]) hKT hcb hd hr).1,fun c hc=>zhg (fr:=[]) (Kp.all c) (l:=ops) (hc▸hd) ((zim hKT hcb hd hr).2 _ ⟨rfl,rfl,rfl⟩)⟩
     |true=>
      simp only[if_true]at hr
      unfold ji8 at hr
      split at hr
      ·rename_i hlex
       split at hr
       ·rename_i l2 H2 sh2 hrun
        cases hr
        obtain⟨h1,h2⟩:=zln hKT hcb hd hrun
        exact⟨h1,fun c hc=>ji4 (fr:=[]) hc hm hd rfl hlex fun K hK=>h2 _ (hK _ _ ⟨rfl,rfl,rfl⟩)⟩
       ·cases hr
      ·cases hr
    ·cases h
   ·cases h
  ·rename_i a b
   split at h
   ·rename_i l1 H1 ha
    obtain⟨h1,h2⟩:=ih _ _ _ _ _ _ ha
    obtain⟨h3,h4⟩:=ih _ _ _ _ _ _ h
    refine⟨h3.trans h1,fun c hc=>zgg (zcd (h2 c hc) fun e1 τ1 H2 ⟨e1,e2,e3⟩=>?_)⟩
    subst e1 e2 e3
    exact h4 c (hc.trans h1.symm)
   ·rename_i hne
    obtain⟨h1,h2⟩:=ih _ _ _ _ _ _ h
    refine⟨h1,fun c hc=>zgg (zcd (h2 c hc) fun e1 τ1 H2 ⟨e1,e2,e3⟩=>?_)⟩
    subst e1 e2 e3
    cases e1 with
    |normal=>exact absurd h (hne _ _)
    |_=>exact⟨rfl,rfl,rfl⟩
  ·rename_i o a b
   split at h
   ·rename_i t ht
    cases t with
    |true=>
     simp only[if_true]at h
     obtain⟨h1,h2⟩:=ih _ _ _ _ _ _ h
     exact⟨h1,fun c hc=>zai ht (fun _=>h2 c hc) (fun e=>by cases e)⟩
    |false=>
     simp only[Bool.false_eq_true,if_false]at h
     obtain⟨h1,h2⟩:=ih _ _ _ _ _ _ h
     exact⟨h1,fun c hc=>zai ht (fun e=>by cases e) (fun _=>h2 c hc)⟩
   ·cases h
  ·rename_i id a
   split at h
   ·rename_i i l1 H1 ha
    obtain⟨h1,h2⟩:=ih _ _ _ _ _ _ ha
    split at h
    ·rename_i hi
     cases h
     refine⟨h1,fun c hc=>zae (zcd (h2 c hc) fun e1 τ1 H2 ⟨e1,e2,e3⟩=>?_)⟩
     subst e1 e2 e3
     simp only[za7,hi,if_true]
     exact⟨trivial,trivial,trivial⟩
    ·rename_i hi
     cases h
     refine⟨h1,fun c hc=>zae (zcd (h2 c hc) fun e1 τ1 H2 ⟨e1,e2,e3⟩=>?_)⟩
     subst e1 e2 e3
     simp only[za7,hi,if_false]
     exact⟨trivial,trivial,trivial⟩
   ·rename_i hne
    obtain⟨h1,h2⟩:=ih _ _ _ _ _ _ h
    refine⟨h1,fun c hc=>zae (zcd (h2 c hc) fun e1 τ1 H2 ⟨e1,e2,e3⟩=>?_)⟩
    subst e1 e2 e3
    cases e1 with
    |exit i=>exact absurd h (hne _ _ _)
    |_=>exact⟨rfl,rfl,rfl⟩
  ·rename_i a
   have hlen:∀(k:Nat) (l1:List AV) (H1:zaa),zst (zsu P KT n a) k l1 H1=some (e,l',H')→l'.length=l1.length:=by
    intro k
    induction k with
    |zero=>intro l1 H1 hk;cases hk
    |succ k ihk=>
     intro l1 H1 hk
     unfold zst at hk
     split at hk
     ·rename_i l2 H2 ha
      exact(ihk _ _ hk).trans (ih _ _ _ _ _ _ ha).1
     ·exact(ih _ _ _ _ _ _ hk).1
   refine⟨hlen _ _ _ h,fun c hc=>zqi (fun τ H k=>∃l1,τ=fL l1∧l1.length=l.length∧zst (zsu P KT n a) k l1 H=some (e,l',H')) (n0:=n) ⟨l,rfl,rfl,h⟩ ?_⟩
   rintro τ H1 k ⟨l1,rfl,hl1,hk⟩
   cases k with
   |zero=>cases hk
   |succ k=>
    unfold zst at hk
    split at hk
    ·rename_i l2 H2 ha
     obtain⟨h1,h2⟩:=ih _ _ _ _ _ _ ha
     refine zcd (h2 c (hc.trans hl1.symm)) fun e1 τ1 H3 ⟨e1,e2,e3⟩=>?_
     subst e1 e2 e3
     exact⟨k,Nat.lt_succ_self k,l2,rfl,h1.trans hl1,hk⟩
    ·rename_i hne
     obtain⟨h1,h2⟩:=ih _ _ _ _ _ _ hk
     refine zcd (h2 c (hc.trans hl1.symm)) fun e1 τ1 H3 ⟨e1,e2,e3⟩=>?_
     subst e1 e2 e3
     cases e1 with
     |normal=>exact absurd hk (hne _ _)
     |_=>exact⟨rfl,rfl,rfl⟩
  ·cases h
   exact⟨rfl,fun c hc=>zat ⟨rfl,rfl,rfl⟩⟩
  ·cases h
   exact⟨rfl,fun c hc=>zaq ⟨rfl,rfl,rfl⟩⟩
  ·cases h
theorem zhk{n:Nat}{f:FuncId}{ds:List D}{r:AV}(hm:P.follows .mixedOrders=true)(hKT:∀k,KT k=true→Maps.Keyed P k)(h:zvb (zvj P (zsu P KT n)) f ds=some r):zas P f ds r:=
 zll (zqw (zvl hm hKT n)) h
end
end
end Go.Proofs.Ytfolbdkbpmgjgaa
