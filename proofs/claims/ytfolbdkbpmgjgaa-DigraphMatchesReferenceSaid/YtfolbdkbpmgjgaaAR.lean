/- Of no program: states that may be read as others: fewer slots, fewer objects, empty rows, rows that become data. -/
import Derived.Test.YtfolbdkbpmgjgaaAP
set_option linter.unusedVariables false
set_option linter.unusedSimpArgs false
namespace Go.Proofs.Ytfolbdkbpmgjgaa
open Go Go.RowKit
section
def Rt(m:List Nat)(τ:Fr)(H:zaa)(τ':Fr)(H':zaa):Prop:=∀(c:Cx) (a:Act) (w:World),Kp c m→R c τ H [] a w→R c τ' H' [] a w
theorem Rt.refl{m:List Nat}(τ:Fr)(H:zaa):Rt m τ H τ H:=fun _ _ _ _ h=>h
theorem Rt.trans{m:List Nat}{τ τ1 τ2:Fr}{H H1 H2:zaa}(h:Rt m τ H τ1 H1)(k:Rt m τ1 H1 τ2 H2):Rt m τ H τ2 H2:=fun c a w hp hR=>k c a w hp (h c a w hp hR)
theorem Rt.less{m:List Nat}{τ τ':Fr}{H:zaa}(h:zez τ τ'):Rt m τ H τ' H:=fun _ _ _ _ hR=>hR.less h
theorem Rt.gc{m:List Nat}{τ:Fr}{H:zaa}{keep:List Nat}(hk:∀i∈m,keep[i]? =some i)(hn:keep.Nodup)(hb:∀i∈keep,i<H.length):Rt m τ H (fun t=>gcV keep (τ t)) (gcH keep H):=fun _ _ _ hp hR=>hR.gc hp hk hn hb
theorem Rt.new{m:List Nat}{τ:Fr}{H:zaa}:Rt m τ H τ (H++[.cells []]):=fun c a w _ ⟨pl,hR⟩=>by
 have h1:=hR.reserve.nowhere (n:=H.length) (by simp) (fun p hp=>by cases hp)
 have e:(H++[AObj.free]).set H.length (.cells [])=H++[.cells []]:=by rw[List.set_append_right _ _ (Nat.le_refl _)];simp
 rw[e]at h1
 exact⟨_,h1⟩
def Imp(x y:AV):Prop:=∀(w:World) (pl:List (Option (Nat × Nat))) (own:Nat→Prop) (v:Value),Rd w pl own x v→Rd w pl own y v
theorem Imp.nil(k id off:Nat):Imp (.d (.val (.slice none 0 0))) (.os k id off 0):=fun _ _ _ v h=>by
 cases h with|d _ _ h=>cases h;exact .os0 _ _ _ _
theorem Rt.put{m:List Nat}{τ:Fr}{H:zaa}(t:Nat){x:AV}(h:Imp (τ t) x):Rt m τ H (τ.put (some t) x) H:=fun c a w _ ⟨pl,hR⟩=>
 ⟨pl,hR.h,hR.stp,hR.own0,hR.ext,fun s=>by
  simp only[Fr.put]
  split
  ·rename_i e;subst e;exact h _ _ _ _ (hR.fr s)
  ·exact hR.fr s,hR.size,hR.defs,hR.keep⟩
theorem Rt.cell{m:List Nat}{τ:Fr}{H:zaa}{id j:Nat}{cs:List AV}{x y:AV}(hid:H[id]? =some (.cells cs))(hj:cs[j]? =some y)(h:Imp y x):Rt m τ H τ (H.set id (.cells (cs.set j x))):=fun c a w _ ⟨pl,hR⟩=>by
 have live:∀(i:Nat) (o:AObj),(H.set id (.cells (cs.set j x)))[i]? =some o→o.live=true→∃o',H[i]? =some o'∧o'.live=true:=fun i o hi hl=>by
  rcases za2 hi with⟨rfl,rfl,_⟩|⟨_,hi⟩
  ·exact⟨_,hid,rfl⟩
  ·exact⟨_,hi,hl⟩
 have hown:∀b,za4 c.E (H.set id (.cells (cs.set j x))) pl b→za4 c.E H pl b:=fun b hb=>by
  rcases hb with hb|⟨i,o,e,h1,h2,h3⟩
  ·exact .inl hb
  ·obtain⟨o',k1,k2⟩:=live i o h1 h2
   exact .inr ⟨i,o',e,k1,k2,h3⟩
 have hmono:∀z v,Rd w pl (za4 c.E H pl) z v→Rd w pl (za4 c.E (H.set id (.cells (cs.set j x))) pl) z v:=fun z v hx=>hx.mono (Nat.le_refl _) (fun _ _ _=>rfl) (fun b _ hb=>hown b hb) (fun _ _ h=>h) (fun _ _ h=>h)
 refine⟨pl,⟨by simpa using hR.h.len,fun i o hi=>?_,fun i k oi ok p q h1 h2 l1 l2 hne s1 s2 p1 p2=>?_,fun i o p h1 l1 p1=>?_,fun p hp=>(by cases hp),fun i k ci ck p q hm=>(by cases hm)⟩,hR.stp,fun i o p h1 l1 p1=>?_,hR.ext,fun t=>hmono _ _ (hR.fr t),hR.size,hR.defs.sub (fun b ⟨i,o,e,h1,h2,h3⟩=>let⟨o',k1,k2⟩:=live i o h1 h2;⟨i,o',e,k1,k2,h3⟩),hR.keep⟩
 ·rcases za2 hi with⟨rfl,rfl,_⟩|⟨_,hi⟩
  ·have ho:=hR.h.obj _ _ hid
   rcases ho with⟨k1,k2⟩|⟨b,base,arr,t,k1,k2,k3,k4⟩
   ·subst k1;simp at hj
   ·refine .inr ⟨b,base,arr,t,k1,k2,by simpa using k3,fun i z hz=>?_⟩
    rw[List.getElem?_set]at hz
    split at hz
    ·rename_i e
     subst e
     split at hz
     ·cases hz
      exact⟨hmono _ _ (h _ _ _ _ (k4 _ _ hj).1),(k4 _ _ hj).2⟩
     ·cases hz
    ·exact⟨hmono _ _ (k4 _ _ hz).1,(k4 _ _ hz).2⟩
  ·exact(hR.h.obj i o hi).mono (Nat.le_refl _) (fun _ _ _=>rfl) (fun b _ hb=>hown b hb) (fun _ _ h=>h) (fun _ _ h=>h) (fun h=>h) (fun _ _ _ _=>rfl)
 ·obtain⟨_,a2,a3⟩:=live i oi h1 l1
  obtain⟨_,b2,b3⟩:=live k ok h2 l2
  exact hR.h.dis i k _ _ p q a2 b2 a3 b3 hne s1 s2 p1 p2
 ·obtain⟨_,a2,a3⟩:=live i o h1 l1
  exact hR.h.ext i _ p a2 a3 p1
 ·obtain⟨_,a2,a3⟩:=live i o h1 l1
  exact hR.own0 i _ p a2 a3 p1
mutual
def fzV(id:Nat)(l:List D):AV→AV
 | .any=>.any
 | .d x=>.d x
 | .os k i off n=>if i=id then(match zck l off (n*k)with|some m=>.d (.fs m n)|none=>.any)else .os k i off n
 | .op i off=>if i=id then .d (.fp l off)else .op i off
 | .om i=>.om i
 | .agg cs=>.agg (fzVs id l cs)
 | .tup cs=>.tup (fzVs id l cs)
 | .clo fn fi ca=>.clo fn (fzVs id l fi) (fzVs id l ca)
def fzVs(id:Nat)(l:List D):List AV→List AV
 |[]=>[]
 |x::m=>fzV id l x::fzVs id l m
end
def fzO(id:Nat)(l:List D):AObj→AObj
 | .free=>.free
 | .dead=>.dead
 | .cells cs=>.cells (fzVs id l cs)
 | .map es clock=>.map (es.map fun e=>(e.1,e.2.1,fzV id l e.2.2)) clock
 | .loop b r fr=>.loop b r (fzVs id l fr)
def fzH(id:Nat)(l:List D)(H:zaa):zaa:=(H.set id .dead).map (fzO id l)
theorem zdb(id:Nat)(l:List D):∀cs:List AV,fzVs id l cs=cs.map (fzV id l)
 |[]=>rfl
 |x::m=>by rw[fzVs,zdb id l m];rfl
theorem zz1(id:Nat)(l:List D)(o:AObj):(fzO id l o).live=o.live:=by cases o<;>rfl
section
variable {c:Cx} {τ:Fr} {a:Act} {w:World} {pl:List (Option (Nat × Nat))} {H:zaa}
theorem jo3{id:Nat}{l:List D}{own own':Nat→Prop}(hw:∀b,own' b→own b)
  (hid:∀b base,pl[id]? =some (some (b,base))→∃arr t,w.heap[b]? =some (.cells arr t (0,0))∧¬own' b∧base+l.length≤arr.size∧∀j y,l[j]? =some y→RdD w own' y (arr.getD (base+j) undef)∧(arr.getD (base+j) undef).oneCell'=true)
  {x:AV} {v:Value} (h:Rd w pl own x v):Rd w pl own' (fzV id l x) v:=by
 have gets:∀{cs:List AV} {j:Nat} {y:AV},(fzVs id l cs)[j]? =some y→∃x,cs[j]? =some x∧y=fzV id l x:=fun{cs j y} h=>by
  rw[zdb,List.getElem?_map,Option.map_eq_some_iff]at h
  obtain⟨x,hx,rfl⟩:=h
  exact⟨x,hx,rfl⟩
 induction h with
 |any v=>rw[fzV];exact .any v
 |d x v h=>rw[fzV];exact .d _ _ (h.mono (Nat.le_refl _) (fun _ _ _=>rfl) (fun b _ hb=>hw b hb))
 |os k i off n cap b base sz t h1 h2 h3 h4 h5=>
  rw[fzV]
  split
  ·rename_i e
   subst e
   split
   ·rename_i m hm
    obtain⟨t1,t2⟩:=zb7 hm
    obtain⟨arr,t',k2,hE,k3,k4⟩:=hid b base h1
    have hlt:∀(j:Nat) (y:D),m[j]? =some y→l[off+j]? =some y∧off+j<l.length:=fun j y hj=>by
     have hj':j<m.length:=(List.getElem?_eq_some_iff.1 hj).1
     have h2:=t2 j (by omega)
     rw[hj]at h2
     exact⟨h2.symm,(List.getElem?_eq_some_iff.1 h2.symm).1⟩
    refine .d _ _ (.fs m n cap b (base+off) (fun j=>arr.getD (base+(off+j)) undef) (Array.getElem?_eq_some_iff.1 k2).1 hE h3 h4 (fun j y hj=>?_) (fun j y hj=>?_) (fun j y hj=>?_))
    ·have:=(hlt j y hj).2
     rw[Nat.add_assoc,cell_of_row _ _ _ _ _ _ k2]
     simp[Array.getD,show base+(off+j)<arr.size by omega]
    ·exact(k4 _ _ (hlt j y hj).1).2
    ·exact(k4 _ _ (hlt j y hj).1).1
   ·exact .any _
  ·exact .os k i off n cap b base sz t h1 h2 h3 h4 h5
 |os0 k i off ad=>
  rw[fzV]
  split
  ·split
   ·rename_i m hm
    have:=(zb7 hm).1
    have:m=[]:=List.eq_nil_of_length_eq_zero (by simpa using this)
    subst this
    exact .d _ _ (.f0 ad 0 (Nat.zero_le _) (fun _=>rfl))
   ·exact .any _
  ·exact .os0 _ _ _ _
 |op i off b base h1=>
  rw[fzV]
  split
  ·rename_i e
   subst e
   obtain⟨arr,t',k2,hE,k3,k4⟩:=hid b base h1
   refine .d _ _ (.fp l off b base (fun j=>arr.getD (base+j) undef) (Array.getElem?_eq_some_iff.1 k2).1 hE (fun j y hj=>?_) (fun j y hj=>(k4 j y hj).2) (fun j y hj=>(k4 j y hj).1))
   have:=(List.getElem?_eq_some_iff.1 hj).1
   rw[cell_of_row _ _ _ _ _ _ k2]
   simp[Array.getD,show base+j<arr.size by omega]
  ·exact .op i off b base h1
 |om i b base h1=>rw[fzV];exact .om i b base h1
 |agg cs vs hl _ ih=>
  rw[fzV]
  refine .agg _ _ (by rw[zdb];simpa using hl) fun j y hj=>?_
  obtain⟨x,hx,rfl⟩:=gets hj
  exact ih j x hx
 |tup cs vs hl _ ih=>
  rw[fzV]
  refine .tup _ _ (by rw[zdb];simpa using hl) fun j y hj=>?_
  obtain⟨x,hx,rfl⟩:=gets hj
  exact ih j x hx
 |clo fn fi ca vs us hl _ hl' _ ih ih'=>
  rw[fzV]
  refine .clo _ _ _ _ _ (by rw[zdb];simpa using hl) (fun j y hj=>?_) (by rw[zdb];simpa using hl') (fun j y hj=>?_)
  ·obtain⟨x,hx,rfl⟩:=gets hj
   exact ih j x hx
  ·obtain⟨x,hx,rfl⟩:=gets hj
   exact ih' j x hx
theorem Rt.fz{m:List Nat}{τ:Fr}{H:zaa}{id:Nat}{l:List D}(hid:H[id]? =some (.cells (l.map .d))):Rt m τ H (fun t=>fzV id l (τ t)) (fzH id l H):=fun c a w _ ⟨pl,hR0⟩=>by
 have hR:=hR0.kill id (sh':=[]) (fun i j hm=>by cases hm) (fun p hp=>by cases hp)
 have hlen:id<H.length:=(List.getElem?_eq_some_iff.1 hid).1
 have back:∀{j:Nat} {o':AObj},(fzH id l H)[j]? =some o'→∃o,(H.set id .dead)[j]? =some o∧o'=fzO id l o:=fun{j o'} hj=>by
  unfold fzH at hj
  rw[List.getElem?_map,Option.map_eq_some_iff]at hj
  obtain⟨o,ho,rfl⟩:=hj
  exact⟨o,ho,rfl⟩
 have live:∀{j:Nat} {o':AObj},(fzH id l H)[j]? =some o'→o'.live=true→∃o,(H.set id .dead)[j]? =some o∧o.live=true∧H[j]? =some o∧j≠id:=fun{j o'} hj hl=>by
  obtain⟨o,ho,rfl⟩:=back hj
  rw[zz1]at hl
  rcases za2 ho with⟨_,rfl,_⟩|⟨hne,ho'⟩
  ·cases hl
  ·exact⟨o,ho,hl,ho',hne⟩
 have hown:∀b,za4 c.E (fzH id l H) pl b→za4 c.E (H.set id .dead) pl b:=fun b hb=>by
  rcases hb with hb|⟨j,o,e,h1,h2,h3⟩
  ·exact .inl hb
  ·obtain⟨o',k1,k2,_⟩:=live h1 h2
   exact .inr ⟨j,o',e,k1,k2,h3⟩
 have hown2:∀b,za4 c.E (fzH id l H) pl b→za4 c.E H pl b:=fun b hb=>by
  rcases hb with hb|⟨j,o,e,h1,h2,h3⟩
  ·exact .inl hb
  ·obtain⟨o',_,k2,k3,_⟩:=live h1 h2
   exact .inr ⟨j,o',e,k3,k2,h3⟩
 have hrow:∀b base,pl[id]? =some (some (b,base))→∃arr t,w.heap[b]? =some (.cells arr t (0,0))∧¬za4 c.E (fzH id l H) pl b∧base+l.length≤arr.size∧∀j y,l[j]? =some y→RdD w (za4 c.E (fzH id l H) pl) y (arr.getD (base+j) undef)∧(arr.getD (base+j) undef).oneCell'=true:=fun b base hp=>by
  rcases hR0.h.obj _ _ hid with⟨k1,k2⟩|⟨b',base',arr,t,k1,k2,k3,k4⟩
  ·rw[hp]at k2;cases k2
  ·rw[hp]at k1;cases k1
   refine⟨arr,t,k2,fun hb=>?_,by simpa using k3,fun j y hj=>?_⟩
   ·rcases hb with hb|⟨i,o,e,h1,h2,h3⟩
    ·exact hR0.h.ext id _ _ hid rfl hp hb
    ·obtain⟨o',_,m2,m3,m4⟩:=live h1 h2
     exact hR0.h.dis i id o' _ _ _ m3 hid m2 rfl m4 (by simp) (by simp) h3 hp rfl
   ·have:=k4 j (.d y) (by rw[List.getElem?_map,hj];rfl)
    obtain⟨h1,h2⟩:=this
    cases h1 with|d _ _ h1=>
    exact⟨h1.mono (Nat.le_refl _) (fun _ _ _=>rfl) (fun b _ hb=>hown2 b hb),h2⟩
 have key:∀{x v},Rd w pl (za4 c.E (H.set id .dead) pl) x v→Rd w pl (za4 c.E (fzH id l H) pl) (fzV id l x) v:=fun h=>jo3 hown hrow h
 refine⟨pl,⟨by simpa[fzH]using hR.h.len,fun j o' hj=>?_,fun i j oi oj p q h1 h2 l1 l2 hne _ _ p1 p2=>?_,fun i o p h1 l1 p1=>?_,fun p hp=>(by cases hp),fun i j ci cj p q hm=>(by cases hm)⟩,hR.stp,fun i o p h1 l1 p1=>?_,hR.ext,fun t=>key (hR.fr t),hR.size,hR.defs.sub (fun b ⟨i,o,e,h1,h2,h3⟩=>let⟨o1,a1,a2,_⟩:=live h1 h2;⟨i,o1,e,a1,a2,h3⟩),hR.keep⟩
 ·obtain⟨o,h2,rfl⟩:=back hj
  have ho:=hR.h.obj j o h2
  cases o with
  |free=>exact ho
  |dead=>trivial
  |cells cs=>
   rcases ho with⟨k1,k2⟩|⟨b,base,arr,t,k1,k2,k3,k4⟩
   ·exact .inl ⟨by subst k1;rfl,k2⟩
   ·refine .inr ⟨b,base,arr,t,k1,k2,by rw[zdb];simpa using k3,fun j y hj=>?_⟩
    rw[zdb,List.getElem?_map,Option.map_eq_some_iff]at hj
    obtain⟨x,hx,rfl⟩:=hj
    exact⟨key (k4 j x hx).1,(k4 j x hx).2⟩
  |map es clock=>
   obtain⟨b,base,ms,k1,k2,k3,k4,k5⟩:=ho
   refine⟨b,base,ms,k1,k2,by simpa using k3,by rw[List.map_map];exact k4,fun j e k n x hj hx=>?_⟩
   rw[List.getElem?_map,Option.map_eq_some_iff]at hx
   obtain⟨⟨k',n',x'⟩,hx',he⟩:=hx
   cases he
   obtain⟨m1,m2,m3⟩:=k5 j e k' n' x' hj hx'
   exact⟨m1,m2,key m3⟩
  |loop b r fr=>
   obtain⟨base,k1,k2,k3⟩:=ho
   refine⟨base,k1,k2,fun j y hj=>?_⟩
   rw[zdb,List.getElem?_map,Option.map_eq_some_iff]at hj
   obtain⟨x,hx,rfl⟩:=hj
   exact key (k3 j x hx)
 ·obtain⟨o1,a1,a2,_⟩:=live h1 l1
  obtain⟨o2,b1,b2,_⟩:=live h2 l2
  exact hR.h.dis i j o1 o2 p q a1 b1 a2 b2 hne (by simp) (by simp) p1 p2
 ·obtain⟨o1,a1,a2,_⟩:=live h1 l1
  exact hR.h.ext i o1 p a1 a2 p1
 ·obtain⟨o1,a1,a2,_⟩:=live h1 l1
  exact hR.own0 i o1 p a1 a2 p1
variable {P:Program} {Q:Exit→Fr→zaa→Prop}
theorem zba{m:List Nat}{x:Code}{τ':Fr}{H':zaa}(hp:Kp c m)(h:Rt m τ H τ' H')(hx:AWp P c x Q τ' H'):AWp P c x Q τ H:=fun a w hR=>hx a w (h c a w hp hR)
theorem zao{m:List Nat}{x:Code}(hp:Kp c m)(I:Fr→zaa→Nat→Prop)(n0:Nat){τ0:Fr}{H0:zaa}(h:Rt m τ H τ0 H0)(h0:I τ0 H0 n0)
  (round:∀τ H n,I τ H n→AWp P c x (zcq (fun τ' H'=>∃n' τ1 H1,n'<n∧I τ1 H1 n'∧Rt m τ' H' τ1 H1) Q) τ H):AWp P c (.loop x) Q τ H:=by
 refine zqi (fun τ H n=>∃τ1 H1,I τ1 H1 n∧Rt m τ H τ1 H1) ⟨τ0,H0,h0,h⟩ fun τ H n ⟨τ1,H1,h1,h2⟩=>?_
 refine zba hp h2 (zcd (round τ1 H1 n h1) fun e τ' H' hq=>?_)
 cases e with
 |normal=>
  obtain⟨n',τ2,H2,k1,k2,k3⟩:=hq
  exact⟨n',k1,τ2,H2,k2,k3⟩
 |_=>exact hq
end
/- Of no program: lists kept as data in rows, and what simp needs of them. -/
end
section
def iD(n:Int):D:=.val (.int .i64 n)
def bD(n:Int):D:=.val (.int .u8 n)
def uD(n:Int):D:=.val (.int .u64 n)
def oD(b:Bool):D:=.val (.bool b)
def intsD(l:List Int):D:=.fs (l.map iD) l.length
def bytesD(l:List Int):D:=.fs (l.map bD) l.length
def boolsD(l:List Bool):D:=.fs (l.map oD) l.length
def intssD(l:List (List Int)):D:=.fs (l.map intsD) l.length
def bytessD(l:List (List Int)):D:=.fs (l.map bytesD) l.length
theorem je7(n:Int):(iD n).fix=iD n:=rfl
theorem jj0(n:Int):(bD n).fix=bD n:=rfl
theorem je8(b:Bool):(oD b).fix=oD b:=rfl
theorem jc7(cs:List D)(n:Nat):(D.fs cs n).fix= .fs cs n:=rfl
theorem zlp{α:Type}{f:α→D}(h:∀a,(f a).fix=f a)(l:List α):(l.map f).map D.fix=l.map f:=by
 rw[List.map_map];exact List.map_congr_left fun a _=>h a
theorem zvz(l:List Int):(l.map iD).map D.fix=l.map iD:=zlp je7 l
theorem jc8(l:List Bool):(l.map oD).map D.fix=l.map oD:=zlp je8 l
def nth{α:Type}[Inhabited α](l:List α)(k:Nat):α:=l.getD k default
theorem za5{α:Type}[Inhabited α]{l:List α}{k:Nat}(h:k<l.length):nth l k=l[k]:=by simp[nth,h]
theorem zv0{α:Type}[Inhabited α]{l:List α}{k:Nat}(h:k<l.length):l[k]? =some (nth l k):=by rw[za5 h,List.getElem?_eq_getElem h]
theorem zbk{α β:Type}[Inhabited α]{f:α→β}{l:List α}{k:Nat}(h:k<l.length):(l.map f)[k]? =some (f (nth l k)):=by rw[List.getElem?_map,zv0 h];rfl
theorem za3{α:Type}[Inhabited α]{l:List α}{k:Nat}(h:k<l.length):nth l k∈l:=by rw[za5 h];exact List.getElem_mem h
theorem zlq{α:Type}[Inhabited α]{l:List α}{k:Nat}(h:k<l.length):l.take (k+1)=l.take k++[nth l k]:=by rw[za5 h,List.take_succ_eq_append_getElem h]
theorem je9{α β:Type}[Inhabited α][Inhabited β]{f:α→β}{l:List α}{k:Nat}(h:k<l.length):nth (l.map f) k=f (nth l k):=by rw[za5 h,za5 (by simpa using h)];simp
theorem zv1{n k:Nat}(h:k<n):nth (List.range n) k=k:=by rw[za5 (by simpa using h)];simp
theorem za8{β:Type}[Inhabited β]{f:Nat→β}{n k:Nat}(h:k<n):nth ((List.range n).map f) k=f k:=by rw[je9 (by simpa using h),zv1 h]
theorem zbs{α:Type}[Inhabited α]{l m:List α}{k:Nat}(h:k<l.length):nth (l++m) k=nth l k:=by rw[za5 h,za5 (by simp;omega)];simp[h]
theorem zic{α:Type}[Inhabited α]{l m:List α}{k:Nat}(h:l.length≤k):nth (l++m) k=nth m (k - l.length):=by unfold nth;simp[List.getD_eq_getElem?_getD,List.getElem?_append_right h]
theorem zdg{α:Type}[Inhabited α]{l:List α}{x:α}:nth (l++[x]) l.length=x:=by rw[zic (Nat.le_refl _)];simp[nth]
theorem zaz{α:Type}[Inhabited α]{l:List α}{k:Nat}{x:α}(h:k<l.length):nth (l.set k x) k=x:=by rw[za5 (by simpa using h)];simp
theorem zax{α:Type}[Inhabited α]{l:List α}{k j:Nat}{x:α}(h:k≠j):nth (l.set k x) j=nth l j:=by unfold nth;simp[List.getD_eq_getElem?_getD,List.getElem?_set_ne h]
theorem zff{α:Type}[Inhabited α]{a b:List α}(hl:a.length=b.length)(h:∀k,k<a.length→nth a k=nth b k):a=b:=
 List.ext_getElem hl fun k h1 h2=>by have:=h k h1;rwa[za5 h1,za5 h2]at this
def avs(l:List D):List AV:=l.map .d
section
variable {l m:List D} {x:D} {i k:Nat}
theorem jj1:List.map AV.d l=avs l:=rfl
theorem zlr:avs []=[]:=rfl
theorem zet:avs (x::l)= .d x::avs l:=rfl
theorem zcs:(avs l).length=l.length:=List.length_map _
theorem zeu:(avs l)[i]? =(l[i]?).map AV.d:=List.getElem?_map
theorem zrc{r:List AV}:avs l++(.d x::r)=avs (l++[x])++r:=by simp[avs]
theorem zv2:(avs l).set i (.d x)=avs (l.set i x):=by simp[avs,List.map_set]
theorem zrd:(avs l).drop i=avs (l.drop i):=by simp[avs,List.map_drop]
theorem zz2:(avs l).take i=avs (l.take i):=by simp[avs,List.map_take]
theorem zre{keep:List Nat}:gcVs keep (avs l)=avs l:=ji9 keep l
theorem zrf{id:Nat}{r:List D}:fzVs id r (avs l)=avs l:=by
 rw[zdb,avs,List.map_map];exact List.map_congr_left fun y _=>by simp[fzV]
theorem zbt{α:Type}{l:List α}(h:l.length=k):zck l 0 k=some l:=by
 unfold zck
 rw[if_pos (by omega)]
 simp[←h]
theorem zsy{α:Type}{l:List α}(h:i+k≤l.length):zck l i k=some ((l.drop i).take k):=by
 unfold zck
 rw[if_pos h]
theorem znd{look:Look}{n:Nat}:zc1 look (n+2) (avs l)=some (l.map D.fix):=by
 rw[show zc1 look (n+2) (avs l)=(avs l).mapM (zmv look (n+1)) from rfl]
 induction l with
 |nil=>rfl
 |cons y l ih=>rw[zet,List.mapM_cons,ih];rfl
theorem zne{look:Look}{n:Nat}:zc1 look (n+1) []=some []:=rfl
theorem zkt{look:Look}{n:Nat}{y:AV}{r:List AV}:zc1 look (n+1) (y::r)=(zmv look n y).bind fun a=>(zc1 look (n+1) r).map (a::·):=by
 rw[show zc1 look (n+1) (y::r)=(y::r).mapM (zmv look n) from rfl,List.mapM_cons]
 show _=(zmv look n y).bind fun a=>(r.mapM (zmv look n)).map (a::·)
 cases zmv look n y<;>cases r.mapM (zmv look n)<;>rfl
theorem jc9{look:Look}{n:Nat}:zmv look (n+1) (.d x)=some x.fix:=rfl
theorem zv3{look:Look}{n k id off m:Nat}:zmv look (n+1) (.os k id off m)=(look.c id).bind fun cs=>(zck cs off (m*k)).bind fun r=>(zc1 look n r).map (D.fs · m):=by
 show(match look.c id with|some cs=>_|none=>none)=_
 cases look.c id with
 |none=>rfl
 |some cs=>
  show(match zck cs off (m*k)with|some l=>_|none=>none)=(zck cs off (m*k)).bind _
  cases zck cs off (m*k)<;>rfl
theorem zv4{look:Look}{n id i:Nat}:zmv look (n+1) (.op id i)=(look.c id).bind fun cs=>(zc1 look n cs).map (D.fp · i):=by
 show(match look.c id with|some cs=>_|none=>none)=_
 cases look.c id<;>rfl
theorem zrg{look:Look}{n:Nat}{fn:Fn}{fi ca:List AV}:zmv look (n+1) (.clo fn fi ca)=(zc1 look n fi).bind fun a=>(zc1 look n ca).map fun b=>.clo fn a b:=by
 show(match zc1 look n fi,zc1 look n ca with|some a,some b=>_|_,_=>none)=_
 cases zc1 look n fi<;>cases zc1 look n ca<;>rfl
def cellsOf:AObj→Option (List AV)
 | .cells cs=>some cs
 |_=>none
theorem znf{cs:List AV}:cellsOf (.cells cs)=some cs:=rfl
theorem zrh{H:zaa}{N id:Nat}(h:id<N):(zdr H N).c id=(H[id]?).bind cellsOf:=by
 unfold zdr
 simp only
 rw[if_pos h]
 cases H[id]? with
 |none=>rfl
 |some o=>cases o<;>rfl
theorem zri{look:Look}{n:Nat}{cs:List AV}:zmv look (n+1) (.agg cs)=(zc1 look n cs).map D.agg:=rfl
end
theorem zin{α:Type}{f:α→List D}{w:Nat}(hw:∀a,(f a).length=w)(l:List α):(l.flatMap f).length=l.length*w:=by
 induction l with
 |nil=>simp
 |cons a l ih=>rw[List.flatMap_cons,List.length_append,hw,ih,List.length_cons,Nat.add_mul];omega
theorem zjg{α:Type}{f:α→List D}{w:Nat}(hw:∀a,(f a).length=w):∀(l:List α) (k:Nat),(l.flatMap f).drop (k*w)=(l.drop k).flatMap f
 |l,0=>by simp
 |[],k+1=>by simp
 |a::l,k+1=>by
  rw[List.flatMap_cons,Nat.add_mul,Nat.one_mul,Nat.add_comm,List.drop_append,hw,List.drop_of_length_le (by rw[hw];omega),List.nil_append,Nat.add_sub_cancel_left,zjg hw l k,List.drop_succ_cons]
theorem zz3{α:Type}[Inhabited α]{f:α→List D}{w:Nat}(hw:∀a,(f a).length=w){l:List α}{k j:Nat}(hk:k<l.length)(hj:j<w):(l.flatMap f)[k*w+j]? =(f (nth l k))[j]? :=by
 rw[←List.getElem?_drop,zjg hw,List.drop_eq_getElem_cons hk,List.flatMap_cons,List.getElem?_append_left (by rw[hw];exact hj),za5 hk]
theorem zrj{α:Type}[Inhabited α]{f:α→List D}{w:Nat}(hw:∀a,(f a).length=w){l:List α}{k:Nat}(hk:k<l.length):zck (l.flatMap f) (k*w) w=some (f (nth l k)):=by
 rw[zsy (by rw[zin hw];have:=Nat.mul_le_mul_right w (Nat.succ_le_of_lt hk);rw[Nat.succ_mul]at this;omega),zjg hw,List.drop_eq_getElem_cons hk,List.flatMap_cons,List.take_append,hw,List.take_of_length_le (by rw[hw];exact Nat.le_refl _),za5 hk];simp
section
variable {P:Program} {t:TypeId} {a b:Int}
theorem jj2(h1: -9223372036854775808≤a)(h2:a<9223372036854775808):IntKind.i64.wrap a=a:=jnz h1 h2
theorem jj3(h1:0≤a)(h2:a<18446744073709551616):IntKind.u64.wrap a=a:=by
 simp[IntKind.wrap,IntKind.bits,IntKind.signed];omega
end
theorem zku{N id k off n:Nat}{al:List Nat}(h:id<N):zdq N al (.os k id off n)=true:=by simp[zdq,h]
theorem zng{N:Nat}{al:List Nat}{x:D}:zdq N al (.d x)=true:=rfl
theorem jj4{n:Nat}{z:D}:zf2 n [z]=avs (List.replicate n z):=by
 unfold zf2 avs
 induction n with
 |zero=>rfl
 |succ n ih=>simp_all [List.replicate_succ]
theorem zjh{n:Nat}{z:D}:List.replicate n (AV.d z)=avs (List.replicate n z):=by simp[avs]
theorem map_set{α β:Type}{f:α→β}{l:List α}{k:Nat}{x:α}:(l.map f).set k (f x)=(l.set k x).map f:=by rw[List.map_set]
theorem znh{l:List Bool}{k:Nat}{x:Bool}:(l.map oD).set k (.val (.bool x))=(l.set k x).map oD:=by rw[List.map_set];rfl
theorem zni{l:List Int}{k:Nat}{x:Int}:(l.map iD).set k (.val (.int .i64 x))=(l.set k x).map iD:=by rw[List.map_set];rfl
theorem zz4{P:Program}{t:TypeId}{e:TypeId}{cs:List D}{n:Nat}(h:P.underlying t=some (.slice e))(hn:0<n):zzv P .eql t (.d (.fs cs n)) (.d (.val (.slice none 0 0)))=some (.d (.val (.bool false))):=by
 cases n with
 |zero=>omega
 |succ n=>simp[zzv,ji0,ziy,h]
theorem tf(b:Bool):b=true∨b=false:=by cases b<;>simp
section
variable {P:Program} {c:Cx} {code:Code} {fn:Func} {Q:AV→zaa→Prop} {QQ:Exit→Fr→zaa→Prop} {τ:Fr} {H:zaa} {x y z u v:AV}
theorem zhl{t:Tmp}(h:fn.results.toList=[.tmp t])(hq:Q (τ t) H):zer P fn Q .ret τ H:=by
 show zsq P τ H fn.results.toList _
 rw[h];exact hq
theorem zbm{t:Tmp}{ty:TypeId}(h:fn.results.toList=[.cell t ty])(hq:oK (loadF P H.length H ty (τ t)) (tg fun x=>Q x H)):zer P fn Q .ret τ H:=by
 obtain⟨x,h1,h2⟩:=hq
 show zsq P τ H fn.results.toList _
 rw[h];exact⟨x,zle h1,h2⟩
theorem zv5(h:AWp P c code QQ (frL [(0,x)]) H):AWp P c code QQ (zdp [x]) H:=zaw (zaf (zal _) rfl) h
theorem jfa(h:AWp P c code QQ (frL [(0,x),(1,y)]) H):AWp P c code QQ (zdp [x,y]) H:=zaw (zaf (zaf (zal _) rfl) rfl) h
theorem jfb(h:AWp P c code QQ (frL [(0,x),(1,y),(2,z)]) H):AWp P c code QQ (zdp [x,y,z]) H:=zaw (zaf (zaf (zaf (zal _) rfl) rfl) rfl) h
theorem jfc(h:AWp P c code QQ (frL [(0,x),(1,y),(2,z),(3,u)]) H):AWp P c code QQ (zdp [x,y,z,u]) H:=zaw (zaf (zaf (zaf (zaf (zal _) rfl) rfl) rfl) rfl) h
theorem jfd(h:AWp P c code QQ (frL [(0,x),(1,y),(2,z),(3,u),(4,v)]) H):AWp P c code QQ (zdp [x,y,z,u,v]) H:=zaw (zaf (zaf (zaf (zaf (zaf (zal _) rfl) rfl) rfl) rfl) rfl) h
end
theorem Rt.heap{m:List Nat}{τ:Fr}{H H':zaa}(h:H=H'):Rt m τ H τ H':=h▸Rt.refl _ _
theorem Rt.end{m:List Nat}{τ τ':Fr}{H H':zaa}(h1:zez τ τ')(h2:H=H'):Rt m τ H τ' H':=(Rt.less h1).trans (Rt.heap h2)
theorem Rt.nil{m:List Nat}{τ:Fr}{H:zaa}(t k:Nat)(h:τ t= .d (.val (.slice none 0 0))):Rt m τ H (τ.put (some t) (.os k H.length 0 0)) (H++[.cells []]):=
 Rt.new.trans (Rt.put t (by rw[h];exact Imp.nil _ _ _))
theorem Rt.nilc{m:List Nat}{τ:Fr}{H:zaa}(id j k:Nat){cs:List AV}(hid:H[id]? =some (.cells cs))(hj:cs[j]? =some (.d (.val (.slice none 0 0)))):Rt m τ H τ (List.set (H++[AObj.cells []]) id (.cells (cs.set j (.os k H.length 0 0)))):=
 Rt.new.trans (Rt.cell (by rw[List.getElem?_append_left (List.getElem?_eq_some_iff.1 hid).1];exact hid) hj (Imp.nil _ _ _))
theorem Rt.slot{m:List Nat}{τ:Fr}{H:zaa}(t:Nat){x:AV}(h:τ t=x):Rt m τ H (τ.put (some t) x) H:=Rt.put t (by rw[h];exact fun _ _ _ _ h=>h)
theorem zji{id k off n:Nat}{l m:List D}(h:zck l off (n*k)=some m):fzV id l (.os k id off n)= .d (.fs m n):=by rw[fzV,if_pos rfl,h]
end
end Go.Proofs.Ytfolbdkbpmgjgaa
