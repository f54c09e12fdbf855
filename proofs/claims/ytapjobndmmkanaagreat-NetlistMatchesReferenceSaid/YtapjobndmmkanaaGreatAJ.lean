/- Of no program: an interpreter of the abstract machine, and that what it finds is so. -/
import Derived.Test.YtapjobndmmkanaaGreatAO
set_option linter.unusedVariables false
set_option linter.unusedSimpArgs false
namespace Go.Proofs.YtapjobndmmkanaaGreat
open Go Go.RowKit
section
abbrev CB:=FuncId→List AV→av→Option (AV × av)
section
variable {P:Program} {KT:TypeId→Bool} {cb:CB} {H:av} {ρ:Operand→AV} {op:Op}
def gF(H:av):Option Nat→av
 |some i=>H.set i .dead
 |none=>H
theorem jf6(eZ:gx [] op≠0)(qP:gx [] op≠2)(A6:gx [] op≠4):gx [] op=1∨gx [] op=3:=by
 rcases C7 [] op with h|h|h|h|h<;>first|exact absurd h (by assumption)|exact .inl h|exact .inr h
theorem jf7{x:AV}{o:bB}{dd:Option Nat}(h:gS P H.length ρ op H=some (x,o,dd)){K:AV→av→Prop}(hK:K x (gF H dd++[o])):
  ∃x H',kI P false H.length ρ op (H++[.free]) [] x H' []∧K x H':=by
 cases op with
 |box t y=>
  obtain⟨cs,hc,he⟩:=dc.1 h
  cases he
  rw[yef];exact⟨cs,hc,hK⟩
 |alloc t=>
  obtain⟨zs,hz,he⟩:=dc.1 h
  cases he
  rw[jrh];exact⟨zs,hz,hK⟩
 |makeSlice t l cp=>
  simp only[gS]at h
  split at h
  ·rename_i s zs b n m hq hn hm
   obtain⟨k1,hn⟩:=xC hn
   obtain⟨k2,hm⟩:=xC hm
   split at h
   ·rename_i hb
    cases h
    exact jv0 ⟨(s,zs,b),k1,k2,n,m,hq,hn,hm,hb.1,hb.2.1,hb.2.2.1,hb.2.2.2,hK⟩
   ·cases h
  ·cases h
 |makeMap t hint=>
  cases hint with
  |none=>
   cases h
   exact⟨_,_,⟨.inl rfl,rfl,rfl,rfl⟩,by rw[xM];exact hK⟩
  |some y=>
   unfold gS at h
   simp only at h
   split at h
   ·rename_i hc
    simp only[fY]at hc
    obtain⟨i,hi⟩:=Option.isSome_iff_exists.1 hc.1
    obtain⟨k,hk⟩:=xC hi
    cases h
    exact⟨_,_,⟨.inr ⟨y,k,i,rfl,hk,hc.2⟩,rfl,rfl,rfl⟩,by rw[xM];exact hK⟩
   ·cases h
 |buildSlice t len parts=>
  simp only[gS]at h
  split at h
  ·rename_i s zs b hq
   split at h
   ·rename_i hb
    obtain⟨cs,hc,he⟩:=dc.1 h
    cases he
    exact yjl ⟨(s,zs,b),hq,hb,cs,hc,hK⟩
   ·cases h
  ·cases h
 |call cl=>
  obtain⟨callee,⟨args⟩,⟨ts⟩⟩:=cl
  unfold gS at h
  simp only at h
  split at h
  ·rename_i s y t t'
   ·split at h
    ·rename_i z zs b hq
     split at h
     ·rename_i m l iT
      have iT:=Rc (Aj hq).choose_spec.2.2.2.2.2 iT
      refine yej ?_
      split at h
      ·rename_i k id off n hs
       split at h
       ·rename_i cs mM
        split at h
        ·rename_i hb
         cases h
         rw[hs]
         obtain⟨rfl,b1,b2,b3⟩:=hb
         exact⟨(k,zs,b),hq,rfl,cs,mM,b1,m,l,iT,b2,b3,hK⟩
        ·cases h
       ·cases h
      ·rename_i hs
       split at h
       ·rename_i hb
        cases h
        rw[hs]
        exact⟨(z,zs,b),hq,m,l,iT,hb.1,hb.2,hK⟩
       ·cases h
      ·cases h
     ·cases h
    ·cases h
  ·cases h
 |_=>cases h
end
end
section
def zA(N:Nat)(al:List Nat)(ρ:Operand→AV)(op:Op):Bool:=
 match op with
 | .call {callee:=.builtin .append,args:=args,..}=>args.toList.all fun y=>rM N al (ρ y)
 |_=>true
def Ar(n:Nat):List (Nat × Nat)→Bool
 |[]=>true
 |p::l=>p.1 !=n&&p.2 !=n&&Ar n l
def tj:List AV→Option (List D)
 |[]=>some []
 | .d y::l=>(tj l).map (y::·)
 |_=>none
theorem Mb:∀{l:List AV} {ds:List D},tj l=some ds→l=ds.map .d
 |[],ds,h=>by cases h;rfl
 | .d y::l,ds,h=>by
  simp only[tj,dc]at h
  obtain⟨m,hm,rfl⟩:=h
  rw[Mb hm];rfl
 | .any::_,_,h=>by cases h
 | .os .. ::_,_,h=>by cases h
 | .op .. ::_,_,h=>by cases h
 | .om .. ::_,_,h=>by cases h
 | .agg .. ::_,_,h=>by cases h
 | .dR .. ::_,_,h=>by cases h
 | .dC .. ::_,_,h=>by cases h
theorem RJ:tj []=some []:=rfl
theorem jf8{y:D}{l:List AV}:tj (.d y::l)=(tj l).map (y::·):=rfl
theorem RI:∀l:List D,tj (l.map .d)=some l
 |[]=>rfl
 |y::l=>by
  show(tj (l.map .d)).map (y::·)=_
  rw[RI l];rfl
def w3(op:Op)(x:AV)(o:bB):Option (List D × Nat):=
 match op,x,o with
 | .buildSlice ..,.os k _ _ n,.cells cs=>if 0<n∧cs.length=n*k then(tj cs).map fun ds=>(ds,n)else none
 | .makeSlice _ (.tmp _) _,.os k _ _ n,.cells cs=>if cs.length=n*k then(tj cs).map fun ds=>(ds,n)else none
 | .makeSlice _ (.const _) _,.os k _ _ n,.cells cs=>if 0<n∧cs.length=n*k then(tj cs).map fun ds=>(ds,n)else none
 |_,_,_=>none
def jk(P:Program)(N r:Nat)(al:List Nat)(ρ:Operand→AV)(op:Op)(H:av)(sh:List (Nat × Nat)):Option (AV × av × List (Nat × Nat)):=
 match H[N+r]?,gS P (N+r) ρ op H with
 |some .free,some (x,o,dd)=>if Ar (N+r) sh&&zA N al ρ op then(match dd with
  |none=>(match w3 op x o with
   |some (ds,n)=>some (.d (.fs ds n),H.set (N+r) .dead,sh)
   |none=>some (x,H.set (N+r) o,sh))
  |some id=>if sh.all fun p=>p.2 !=id then some (x,H.set (N+r) o,fU sh id (N+r))else none)else none
 |_,_=>none
section
variable {P:Program} {KT:TypeId→Bool} {cb:CB} {H:av} {ρ:Operand→AV} {op:Op}
theorem jnx{n:Nat}:∀{sh:List (Nat × Nat)},Ar n sh=true→vq n sh
 |[],_=>trivial
 |p::l,h=>by
  simp only[Ar,fY,bne_iff_ne,ne_eq]at h
  exact⟨h.1.1,h.1.2,jnx h.2⟩
theorem jrm{N r:Nat}{al:List Nat}{sh sh':List (Nat × Nat)}{x:AV}{H':av}(h:jk P N r al ρ op H sh=some (x,H',sh')){KX:AV→av→List (Nat × Nat)→Prop}(hK:KX x H' sh'):yX P N r al ρ op H sh KX:=by
 unfold jk at h
 split at h
 ·rename_i x' o dd eg hl
  split at h
  ·rename_i hc
   simp only[fY]at hc
   obtain⟨hs,ha⟩:=hc
   have hs:=jnx hs
   have bE:(dd=none∧x'=x∧H'=H.set (N+r) o∧sh'=sh∨dd=none∧∃ds n,w3 op x' o=some (ds,n)∧x= .d (.fs ds n)∧H'=H.set (N+r) .dead∧sh'=sh)∨∃id,dd=some id∧(∀p∈sh,p.2≠id)∧x'=x∧H'=H.set (N+r) o∧sh'=fU sh id (N+r):=by
    split at h
    ·split at h
     ·rename_i ds n hz
      cases h;exact .inl (.inr ⟨rfl,ds,n,hz,rfl,rfl,rfl⟩)
     ·cases h;exact .inl (.inl ⟨rfl,rfl,rfl,rfl⟩)
    ·rename_i id
     split at h
     ·rename_i cV
      cases h
      exact .inr ⟨id,rfl,fun p hp=>by have:=kB.1 cV p hp;simpa using this,rfl,rfl,rfl⟩
     ·cases h
   clear h
   cases op with
   |box t y=>
    obtain⟨cs,mM,he⟩:=dc.1 hl
    cases he
    rcases bE.imp_left (fun h=>h.resolve_right fun⟨_,_,_,hz,_⟩=>by cases hz)with⟨_,rfl,rfl,rfl⟩|⟨id,h1,_⟩
    ·rw[yeg];exact⟨eg,hs,cs,mM,hK⟩
    ·cases h1
   |alloc t=>
    obtain⟨zs,hz,he⟩:=dc.1 hl
    cases he
    rcases bE.imp_left (fun h=>h.resolve_right fun⟨_,_,_,hz,_⟩=>by cases hz)with⟨_,rfl,rfl,rfl⟩|⟨id,h1,_⟩
    ·rw[jri];exact⟨eg,hs,zs,hz,hK⟩
    ·cases h1
   |makeSlice t l cp=>
    simp only[gS]at hl
    split at hl
    ·rename_i s zs b n m hq hn hm
     obtain⟨k1,hn⟩:=xC hn
     obtain⟨k2,hm⟩:=xC hm
     split at hl
     ·rename_i hb
      cases hl
      rcases bE with(⟨_,rfl,rfl,rfl⟩|⟨_,ds,n',hz,rfl,rfl,rfl⟩)|⟨id,h1,_⟩
      ·exact jv1 ⟨eg,hs,(s,zs,b),k1,k2,n,m,hq,hn,hm,hb.1,hb.2.1,hb.2.2.1,hb.2.2.2,hK⟩
      ·have k8:(if(kl n.toNat zs).length=n.toNat*s then(tj (kl n.toNat zs)).map fun ds=>(ds,n.toNat)else none)=some (ds,n'):=by
        cases l with
        |tmp _=>exact hz
        |const _=>
         have El:(if 0<n.toNat∧(kl n.toNat zs).length=n.toNat*s then(tj (kl n.toNat zs)).map fun ds=>(ds,n.toNat)else none)=some (ds,n'):=hz
         split at El
         ·rename_i ju;rw[if_pos ju.2];exact El
         ·cases El
        |global _=>cases hz
        |func _=>cases hz
       split at k8
       ·rename_i ju
        obtain⟨ds',hd,he⟩:=dc.1 k8
        cases he
        have oy:=Mb hd
        exact jrj ⟨eg,hs,(s,zs,b),k1,k2,n,m,hq,hn,hm,hb.1,hb.2.1,hb.2.2.1,hb.2.2.2,ds,oy,by have:=ju;rw[oy,List.length_map]at this;exact this,hK⟩
       ·cases k8
      ·cases h1
     ·cases hl
    ·cases hl
   |makeMap t hint=>
    have key:∀(hh:hint=none∨∃y k m,hint=some y∧ρ y= .d (.val (.int k m))∧(j5 P t).isSome=true),gS P (N+r) ρ (.makeMap t hint) H=some (.om (N+r),.map [] 0,none)→yX P N r al ρ (.makeMap t hint) H sh KX:=fun hh he=>by
     rw[he]at hl
     cases hl
     rcases bE.imp_left (fun h=>h.resolve_right fun⟨_,_,_,hz,_⟩=>by cases hz)with⟨_,rfl,rfl,rfl⟩|⟨id,h1,_⟩
     ·exact⟨eg,(vR _ _).1 hs,trivial,_,_,_,⟨hh,rfl,rfl,rfl⟩,hK⟩
     ·cases h1
    cases hint with
    |none=>exact key (.inl rfl) rfl
    |some y=>
     have gr:=hl
     unfold gS at gr
     simp only at gr
     split at gr
     ·rename_i hc
      have zp:=hc
      simp only[fY]at hc
      obtain⟨i,hi⟩:=Option.isSome_iff_exists.1 hc.1
      obtain⟨k,hk⟩:=xC hi
      exact key (.inr ⟨y,k,i,rfl,hk,hc.2⟩) (by unfold gS;simp only;rw[if_pos zp])
     ·cases gr
   |buildSlice t len parts=>
    simp only[gS]at hl
    split at hl
    ·rename_i s zs b hq
     split at hl
     ·rename_i hb
      obtain⟨cs,mM,he⟩:=dc.1 hl
      cases he
      rcases bE with(⟨_,rfl,rfl,rfl⟩|⟨_,ds,n,hz,rfl,rfl,rfl⟩)|⟨id,h1,_⟩
      ·exact yjm ⟨eg,hs,(s,zs,b),hq,hb,cs,mM,hK⟩
      ·simp only[w3]at hz
       split at hz
       ·rename_i ju
        obtain⟨ds',hd,he⟩:=dc.1 hz
        cases he
        have:=Mb hd
        subst this
        exact yeh ⟨eg,hs,(s,zs,b),hq,hb,_,mM,_,rfl,by simpa using ju.2,hK⟩
       ·cases hz
      ·cases h1
     ·cases hl
    ·cases hl
   |call cl=>
    obtain⟨callee,⟨args⟩,⟨ts⟩⟩:=cl
    unfold gS at hl
    simp only at hl
    split at hl
    ·rename_i s y t t'
     have CE:rM N al (ρ s)=true∧rM N al (ρ y)=true:=by
      simp only[zA,List.all_cons,List.all_nil,fY,Bool.and_true]at ha
      exact ha
     ·split at hl
      ·rename_i z zs b hq
       split at hl
       ·rename_i m l iT
        have iT:=Rc (Aj hq).choose_spec.2.2.2.2.2 iT
        refine yei ⟨eg,hs,CE.1,CE.2,?_⟩
        split at hl
        ·rename_i k id off n hs
         split at hl
         ·rename_i cs mM
          split at hl
          ·rename_i hb
           cases hl
           rw[hs]
           obtain⟨rfl,b1,b2,b3⟩:=hb
           rcases bE.imp_left (fun h=>h.resolve_right fun⟨_,_,_,hz,_⟩=>by cases hz)with⟨h1,_⟩|⟨cH,h1,h2,rfl,rfl,rfl⟩
           ·cases h1
           ·cases h1
            exact⟨(k,zs,b),hq,rfl,cs,mM,b1,h2,m,l,iT,b2,b3,hK⟩
          ·cases hl
         ·cases hl
        ·rename_i hs
         split at hl
         ·rename_i hb
          cases hl
          rw[hs]
          rcases bE.imp_left (fun h=>h.resolve_right fun⟨_,_,_,hz,_⟩=>by cases hz)with⟨_,rfl,rfl,rfl⟩|⟨cH,h1,_⟩
          ·exact⟨(z,zs,b),hq,m,l,iT,hb.1,hb.2,hK⟩
          ·cases h1
         ·cases hl
        ·cases hl
       ·cases hl
      ·cases hl
    ·cases hl
   |_=>cases hl
  ·cases h
 ·cases h
end
section
variable {P:Program} {KT:TypeId→Bool}
end
end
end Go.Proofs.YtapjobndmmkanaaGreat
