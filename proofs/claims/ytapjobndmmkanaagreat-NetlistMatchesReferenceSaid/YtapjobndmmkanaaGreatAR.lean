/- Of no program: states that may be read as others: fewer slots, fewer objects, empty rows, rows that become data. -/
import Derived.Test.YtapjobndmmkanaaGreatAP
set_option linter.unusedVariables false
set_option linter.unusedSimpArgs false
namespace Go.Proofs.YtapjobndmmkanaaGreat
open Go Go.RowKit
section
def Rt(m:List Nat)(τ:Fr)(H:av)(τ':Fr)(H':av):Prop:=∀(c:Cx) (a:Act) (w:World),Kp c m→R c τ H [] a w→R c τ' H' [] a w
theorem Rt.refl{m:List Nat}(τ:Fr)(H:av):Rt m τ H τ H:=fun _ _ _ _ h=>h
theorem Rt.trans{m:List Nat}{τ τ1 τ2:Fr}{H H1 H2:av}(h:Rt m τ H τ1 H1)(k:Rt m τ1 H1 τ2 H2):Rt m τ H τ2 H2:=fun c a w hp hR=>k c a w hp (h c a w hp hR)
theorem Rt.less{m:List Nat}{τ τ':Fr}{H:av}(h:fw τ τ'):Rt m τ H τ' H:=fun _ _ _ _ hR=>hR.less h
theorem Rt.gc{m:List Nat}{τ:Fr}{H:av}{keep:List Nat}(hk:∀i∈m,keep[i]? =some i)(hn:keep.Nodup)(hb:∀i∈keep,i<H.length):Rt m τ H (fun t=>du keep (τ t)) (dg keep H):=fun _ _ _ hp hR=>hR.gc hp hk hn hb
theorem Rt.new{m:List Nat}{τ:Fr}{H:av}:Rt m τ H τ (H++[.cells []]):=fun c a w _ ⟨pl,hR⟩=>by
 have h1:=hR.eV.mH (n:=H.length) (by simp) (fun p hp=>by cases hp)
 have e:(H++[bB.free]).set H.length (.cells [])=H++[.cells []]:=by rw[List.set_append_right _ _ (bJ _)];simp
 rw[e]at h1
 exact⟨_,h1⟩
def nC(x y:AV):Prop:=∀(w:World) (pl:List (Option (Nat × Nat))) (own:Nat→Prop) (v:Value),Rd w pl own x v→Rd w pl own y v
theorem nC.nil(k id off:Nat):nC (.d (.val (.slice none 0 0))) (.os k id off 0):=fun _ _ _ v h=>by
 cases h with|d _ _ h=>cases h;exact .lU _ _ _ _
theorem nC.fix(y:D):nC (.d y) (.d y.fix):=fun _ _ _ v h=>by
 cases h with|d _ _ h=>exact .d _ _ (O2 h)
theorem nC.w4:nC (.d (.val (.slice none 0 0))) (.d (.fs [] 0)):=nC.fix _
theorem Rt.put{m:List Nat}{τ:Fr}{H:av}(t:Nat){x:AV}(h:nC (τ t) x):Rt m τ H (τ.put (some t) x) H:=fun c a w _ ⟨pl,hR⟩=>
 ⟨pl,hR.h,hR.lR,hR.js,hR.ext,fun s=>by
  simp only[Fr.put]
  split
  ·rename_i e;subst e;exact h _ _ _ _ (hR.fr s)
  ·exact hR.fr s,hR.size,hR.defs,hR.keep⟩
theorem Rt.cell{m:List Nat}{τ:Fr}{H:av}{id j:Nat}{cs:List AV}{x y:AV}(hid:H[id]? =some (.cells cs))(hj:cs[j]? =some y)(h:nC y x):Rt m τ H τ (H.set id (.cells (cs.set j x))):=fun c a w _ ⟨pl,hR⟩=>by
 have live:∀(i:Nat) (o:bB),(H.set id (.cells (cs.set j x)))[i]? =some o→o.live=true→∃o',H[i]? =some o'∧o'.live=true:=fun i o hi hl=>by
  rcases kX hi with⟨rfl,rfl,_⟩|⟨_,hi⟩
  ·exact⟨_,hid,rfl⟩
  ·exact⟨_,hi,hl⟩
 have dS:∀b,bF c.E (H.set id (.cells (cs.set j x))) pl b→bF c.E H pl b:=fun b hb=>by
  rcases hb with hb|⟨i,o,e,h1,h2,h3⟩
  ·exact .inl hb
  ·obtain⟨o',k1,k2⟩:=live i o h1 h2
   exact .inr ⟨i,o',e,k1,k2,h3⟩
 have iJ:∀z v,Rd w pl (bF c.E H pl) z v→Rd w pl (bF c.E (H.set id (.cells (cs.set j x))) pl) z v:=fun z v hx=>hx.mono (bJ _) (fun _ _ _=>rfl) (fun b _ hb=>dS b hb) (fun _ _ h=>h) (fun _ _ h=>h)
 refine⟨pl,⟨by simpa using hR.h.len,fun i o hi=>?_,fun i k oi ok p q h1 h2 l1 l2 cR s1 s2 p1 p2=>?_,fun i o p h1 l1 p1=>?_,fun p hp=>(by cases hp),fun i k ci ck p q hm=>(by cases hm)⟩,hR.lR,fun i o p h1 l1 p1=>?_,hR.ext,fun t=>iJ _ _ (hR.fr t),hR.size,hR.defs.sub (fun b ⟨i,o,e,h1,h2,h3⟩=>let⟨o',k1,k2⟩:=live i o h1 h2;⟨i,o',e,k1,k2,h3⟩),hR.keep⟩
 ·rcases kX hi with⟨rfl,rfl,_⟩|⟨_,hi⟩
  ·have ho:=hR.h.obj _ _ hid
   rcases ho with⟨k1,k2⟩|⟨b,base,arr,t,k1,k2,k3,k4⟩
   ·subst k1;simp at hj
   ·refine .inr ⟨b,base,arr,t,k1,k2,by simpa using k3,fun i z hz=>?_⟩
    rw[List.getElem?_set]at hz
    split at hz
    ·rename_i e
     subst e
     split at hz
     ·cases hz
      exact⟨iJ _ _ (h _ _ _ _ (k4 _ _ hj).1),(k4 _ _ hj).2⟩
     ·cases hz
    ·exact⟨iJ _ _ (k4 _ _ hz).1,(k4 _ _ hz).2⟩
  ·exact(hR.h.obj i o hi).mono (bJ _) (fun _ _ _=>rfl) (fun b _ hb=>dS b hb) (fun _ _ h=>h) (fun _ _ h=>h) (fun h=>h) (fun _ _ _ _=>rfl)
 ·obtain⟨_,a2,a3⟩:=live i oi h1 l1
  obtain⟨_,b2,b3⟩:=live k ok h2 l2
  exact hR.h.mc i k _ _ p q a2 b2 a3 b3 cR s1 s2 p1 p2
 ·obtain⟨_,a2,a3⟩:=live i o h1 l1
  exact hR.h.ext i _ p a2 a3 p1
 ·obtain⟨_,a2,a3⟩:=live i o h1 l1
  exact hR.js i _ p a2 a3 p1
mutual
def fN(id:Nat)(l:List D):AV→AV
 | .any=>.any
 | .d x=>.d x
 | .os k i off n=>if i=id then(match ec l off (n*k)with|some m=>.d (.fs m n)|none=>.any)else .os k i off n
 | .op i off=>if i=id then .d (.fp l off)else .op i off
 | .om i=>.om i
 | .agg cs=>.agg (iX id l cs)
 | .dR cs=>.dR (iX id l cs)
 | .dC fn fi ca=>.dC fn (iX id l fi) (iX id l ca)
def iX(id:Nat)(l:List D):List AV→List AV
 |[]=>[]
 |x::m=>fN id l x::iX id l m
end
def zz(id:Nat)(l:List D):bB→bB
 | .free=>.free
 | .dead=>.dead
 | .cells cs=>.cells (iX id l cs)
 | .map es clock=>.map (es.map fun e=>(e.1,e.2.1,fN id l e.2.2)) clock
 | .loop b r fr=>.loop b r (iX id l fr)
def eJ(id:Nat)(l:List D)(H:av):av:=(H.set id .dead).map (zz id l)
theorem xK(id:Nat)(l:List D):∀cs:List AV,iX id l cs=cs.map (fN id l)
 |[]=>rfl
 |x::m=>by rw[iX,xK id l m];rfl
theorem jk5(id:Nat)(l:List D)(o:bB):(zz id l o).live=o.live:=by cases o<;>rfl
section
variable {c:Cx} {τ:Fr} {a:Act} {w:World} {pl:List (Option (Nat × Nat))} {H:av}
theorem yeo{id:Nat}{l:List D}{own dX:Nat→Prop}(hw:∀b,dX b→own b)
  (hid:∀b base,pl[id]? =some (some (b,base))→∃arr t,w.heap[b]? =some (.cells arr t (0,0))∧¬dX b∧base+l.length≤arr.size∧∀j y,l[j]? =some y→fO w dX y (arr.getD (base+j) undef)∧(arr.getD (base+j) undef).oneCell'=true)
  {x:AV} {v:Value} (h:Rd w pl own x v):Rd w pl dX (fN id l x) v:=by
 have pw:∀{cs:List AV} {j:Nat} {y:AV},(iX id l cs)[j]? =some y→∃x,cs[j]? =some x∧y=fN id l x:=fun{cs j y} h=>by
  rw[xK,List.getElem?_map,dc]at h
  obtain⟨x,hx,rfl⟩:=h
  exact⟨x,hx,rfl⟩
 induction h with
 |any v=>rw[fN];exact .any v
 |d x v h=>rw[fN];exact .d _ _ (h.mono (bJ _) (fun _ _ _=>rfl) (fun b _ hb=>hw b hb))
 |os k i off n cap b base sz t h1 h2 h3 h4 h5=>
  rw[fN]
  split
  ·rename_i e
   subst e
   split
   ·rename_i m hm
    obtain⟨t1,t2⟩:=Al hm
    obtain⟨arr,t',k2,hE,k3,k4⟩:=hid b base h1
    have aA:∀(j:Nat) (y:D),m[j]? =some y→l[off+j]? =some y∧off+j<l.length:=fun j y hj=>by
     have kQ:j<m.length:=(ew.1 hj).1
     have h2:=t2 j (by omega)
     rw[hj]at h2
     exact⟨h2.symm,(ew.1 h2.symm).1⟩
    refine .d _ _ (.fs m n cap b (base+off) (fun j=>arr.getD (base+(off+j)) undef) (oh.1 k2).1 hE h3 h4 (fun j y hj=>?_) (fun j y hj=>?_) (fun j y hj=>?_))
    ·have:=(aA j y hj).2
     rw[Nat.add_assoc,cell_of_row _ _ _ _ _ _ k2]
     simp[Array.getD,show base+(off+j)<arr.size by omega]
    ·exact(k4 _ _ (aA j y hj).1).2
    ·exact(k4 _ _ (aA j y hj).1).1
   ·exact .any _
  ·exact .os k i off n cap b base sz t h1 h2 h3 h4 h5
 |lU k i off ad=>
  rw[fN]
  split
  ·split
   ·rename_i m hm
    have:=(Al hm).1
    have:m=[]:=List.eq_nil_of_length_eq_zero (by simpa using this)
    subst this
    exact .d _ _ (.f0 ad 0 (cF _) (fun _=>rfl))
   ·exact .any _
  ·exact .lU _ _ _ _
 |op i off b base h1=>
  rw[fN]
  split
  ·rename_i e
   subst e
   obtain⟨arr,t',k2,hE,k3,k4⟩:=hid b base h1
   refine .d _ _ (.fp l off b base (fun j=>arr.getD (base+j) undef) (oh.1 k2).1 hE (fun j y hj=>?_) (fun j y hj=>(k4 j y hj).2) (fun j y hj=>(k4 j y hj).1))
   have:=(ew.1 hj).1
   rw[cell_of_row _ _ _ _ _ _ k2]
   simp[Array.getD,show base+j<arr.size by omega]
  ·exact .op i off b base h1
 |om i b base h1=>rw[fN];exact .om i b base h1
 |agg cs vs hl _ ih=>
  rw[fN]
  refine .agg _ _ (by rw[xK];simpa using hl) fun j y hj=>?_
  obtain⟨x,hx,rfl⟩:=pw hj
  exact ih j x hx
 |dR cs vs hl _ ih=>
  rw[fN]
  refine .dR _ _ (by rw[xK];simpa using hl) fun j y hj=>?_
  obtain⟨x,hx,rfl⟩:=pw hj
  exact ih j x hx
 |dC fn fi ca vs us hl _ gr _ ih uu=>
  rw[fN]
  refine .dC _ _ _ _ _ (by rw[xK];simpa using hl) (fun j y hj=>?_) (by rw[xK];simpa using gr) (fun j y hj=>?_)
  ·obtain⟨x,hx,rfl⟩:=pw hj
   exact ih j x hx
  ·obtain⟨x,hx,rfl⟩:=pw hj
   exact uu j x hx
theorem Rt.fz{m:List Nat}{τ:Fr}{H:av}{id:Nat}{l:List D}(hid:H[id]? =some (.cells (l.map .d))):Rt m τ H (fun t=>fN id l (τ t)) (eJ id l H):=fun c a w _ ⟨pl,Lh⟩=>by
 have hR:=Lh.kill id (sh':=[]) (fun i j hm=>by cases hm) (fun p hp=>by cases hp)
 have hlen:id<H.length:=(ew.1 hid).1
 have back:∀{j:Nat} {o':bB},(eJ id l H)[j]? =some o'→∃o,(H.set id .dead)[j]? =some o∧o'=zz id l o:=fun{j o'} hj=>by
  unfold eJ at hj
  rw[List.getElem?_map,dc]at hj
  obtain⟨o,ho,rfl⟩:=hj
  exact⟨o,ho,rfl⟩
 have live:∀{j:Nat} {o':bB},(eJ id l H)[j]? =some o'→o'.live=true→∃o,(H.set id .dead)[j]? =some o∧o.live=true∧H[j]? =some o∧j≠id:=fun{j o'} hj hl=>by
  obtain⟨o,ho,rfl⟩:=back hj
  rw[jk5]at hl
  rcases kX ho with⟨_,rfl,_⟩|⟨cR,wI⟩
  ·cases hl
  ·exact⟨o,ho,hl,wI,cR⟩
 have dS:∀b,bF c.E (eJ id l H) pl b→bF c.E (H.set id .dead) pl b:=fun b hb=>by
  rcases hb with hb|⟨j,o,e,h1,h2,h3⟩
  ·exact .inl hb
  ·obtain⟨o',k1,k2,_⟩:=live h1 h2
   exact .inr ⟨j,o',e,k1,k2,h3⟩
 have GZ:∀b,bF c.E (eJ id l H) pl b→bF c.E H pl b:=fun b hb=>by
  rcases hb with hb|⟨j,o,e,h1,h2,h3⟩
  ·exact .inl hb
  ·obtain⟨o',_,k2,k3,_⟩:=live h1 h2
   exact .inr ⟨j,o',e,k3,k2,h3⟩
 have ph:∀b base,pl[id]? =some (some (b,base))→∃arr t,w.heap[b]? =some (.cells arr t (0,0))∧¬bF c.E (eJ id l H) pl b∧base+l.length≤arr.size∧∀j y,l[j]? =some y→fO w (bF c.E (eJ id l H) pl) y (arr.getD (base+j) undef)∧(arr.getD (base+j) undef).oneCell'=true:=fun b base hp=>by
  rcases Lh.h.obj _ _ hid with⟨k1,k2⟩|⟨b',gG,arr,t,k1,k2,k3,k4⟩
  ·rw[hp]at k2;cases k2
  ·rw[hp]at k1;cases k1
   refine⟨arr,t,k2,fun hb=>?_,by simpa using k3,fun j y hj=>?_⟩
   ·rcases hb with hb|⟨i,o,e,h1,h2,h3⟩
    ·exact Lh.h.ext id _ _ hid rfl hp hb
    ·obtain⟨o',_,m2,m3,m4⟩:=live h1 h2
     exact Lh.h.mc i id o' _ _ _ m3 hid m2 rfl m4 (by simp) (by simp) h3 hp rfl
   ·have:=k4 j (.d y) (by rw[List.getElem?_map,hj];rfl)
    obtain⟨h1,h2⟩:=this
    cases h1 with|d _ _ h1=>
    exact⟨h1.mono (bJ _) (fun _ _ _=>rfl) (fun b _ hb=>GZ b hb),h2⟩
 have key:∀{x v},Rd w pl (bF c.E (H.set id .dead) pl) x v→Rd w pl (bF c.E (eJ id l H) pl) (fN id l x) v:=fun h=>yeo dS ph h
 refine⟨pl,⟨by simpa[eJ]using hR.h.len,fun j o' hj=>?_,fun i j oi oj p q h1 h2 l1 l2 cR _ _ p1 p2=>?_,fun i o p h1 l1 p1=>?_,fun p hp=>(by cases hp),fun i j ci cj p q hm=>(by cases hm)⟩,hR.lR,fun i o p h1 l1 p1=>?_,hR.ext,fun t=>key (hR.fr t),hR.size,hR.defs.sub (fun b ⟨i,o,e,h1,h2,h3⟩=>let⟨o1,a1,a2,_⟩:=live h1 h2;⟨i,o1,e,a1,a2,h3⟩),hR.keep⟩
 ·obtain⟨o,h2,rfl⟩:=back hj
  have ho:=hR.h.obj j o h2
  cases o with
  |free=>exact ho
  |dead=>trivial
  |cells cs=>
   rcases ho with⟨k1,k2⟩|⟨b,base,arr,t,k1,k2,k3,k4⟩
   ·exact .inl ⟨by subst k1;rfl,k2⟩
   ·refine .inr ⟨b,base,arr,t,k1,k2,by rw[xK];simpa using k3,fun j y hj=>?_⟩
    rw[xK,List.getElem?_map,dc]at hj
    obtain⟨x,hx,rfl⟩:=hj
    exact⟨key (k4 j x hx).1,(k4 j x hx).2⟩
  |map es clock=>
   obtain⟨b,base,ms,k1,k2,k3,k4,k5⟩:=ho
   refine⟨b,base,ms,k1,k2,by simpa using k3,by rw[List.map_map];exact k4,fun j e k n x hj hx=>?_⟩
   rw[List.getElem?_map,dc]at hx
   obtain⟨⟨k',n',x'⟩,lz,he⟩:=hx
   cases he
   obtain⟨m1,m2,m3⟩:=k5 j e k' n' x' hj lz
   exact⟨m1,m2,key m3⟩
  |loop b r fr=>
   obtain⟨base,k1,k2,k3⟩:=ho
   refine⟨base,k1,k2,fun j y hj=>?_⟩
   rw[xK,List.getElem?_map,dc]at hj
   obtain⟨x,hx,rfl⟩:=hj
   exact key (k3 j x hx)
 ·obtain⟨o1,a1,a2,_⟩:=live h1 l1
  obtain⟨o2,b1,b2,_⟩:=live h2 l2
  exact hR.h.mc i j o1 o2 p q a1 b1 a2 b2 cR (by simp) (by simp) p1 p2
 ·obtain⟨o1,a1,a2,_⟩:=live h1 l1
  exact hR.h.ext i o1 p a1 a2 p1
 ·obtain⟨o1,a1,a2,_⟩:=live h1 l1
  exact hR.js i o1 p a1 a2 p1
variable {P:Program} {Q:Exit→Fr→av→Prop}
theorem bC{m:List Nat}{x:Code}{τ':Fr}{H':av}(hp:Kp c m)(h:Rt m τ H τ' H')(hx:ei P c x Q τ' H'):ei P c x Q τ H:=fun a w hR=>hx a w (h c a w hp hR)
theorem cU{m:List Nat}{x:Code}(hp:Kp c m)(I:Fr→av→Nat→Prop)(n0:Nat){τ0:Fr}{H0:av}(h:Rt m τ H τ0 H0)(h0:I τ0 H0 n0)
  (round:∀τ H n,I τ H n→ei P c x (cC (fun τ' H'=>∃n' τ1 H1,n'<n∧I τ1 H1 n'∧Rt m τ' H' τ1 H1) Q) τ H):ei P c (.loop x) Q τ H:=by
 refine jkr (fun τ H n=>∃τ1 H1,I τ1 H1 n∧Rt m τ H τ1 H1) ⟨τ0,H0,h0,h⟩ fun τ H n ⟨τ1,H1,h1,h2⟩=>?_
 refine bC hp h2 (jkq (round τ1 H1 n h1) fun e τ' H' hq=>?_)
 cases e with
 |normal=>
  obtain⟨n',τ2,H2,k1,k2,k3⟩:=hq
  exact⟨n',k1,τ2,H2,k2,k3⟩
 |_=>exact hq
end
end
section
def iD(n:Int):D:=.val (.int .i64 n)
def bD(n:Int):D:=.val (.int .u8 n)
def uD(n:Int):D:=.val (.int .u64 n)
def oD(b:Bool):D:=.val (.bool b)
def ae(l:List Int):D:=.fs (l.map iD) l.length
def aI(l:List Int):D:=.fs (l.map bD) l.length
def jI(l:List Bool):D:=.fs (l.map oD) l.length
def ao(l:List (List Int)):D:=.fs (l.map ae) l.length
def gU(l:List (List Int)):D:=.fs (l.map aI) l.length
def rJ(l:List Int):Prop:=∀x∈l,0≤x∧x<256
theorem Oo(n:Int):(iD n).fix=iD n:=rfl
theorem Y4(n:Int):(bD n).fix=bD n:=rfl
theorem Y3(b:Bool):(oD b).fix=oD b:=rfl
theorem joi(cs:List D)(n:Nat):(D.fs cs n).fix= .fs cs n:=rfl
theorem jrp{α:Type}{f:α→D}(h:∀a,(f a).fix=f a)(l:List α):(l.map f).map D.fix=l.map f:=by
 rw[List.map_map];exact List.map_congr_left fun a _=>h a
theorem jar{α:Type}{f:α→List D}(h:∀a,(f a).map D.fix=f a)(l:List α):(l.flatMap f).map D.fix=l.flatMap f:=by
 induction l with
 |nil=>rfl
 |cons a l ih=>rw[List.flatMap_cons,List.map_append,h,ih]
theorem joj(l:List Int):(l.map iD).map D.fix=l.map iD:=jrp Oo l
def nth{α:Type}[Inhabited α](l:List α)(k:Nat):α:=l.getD k default
theorem o7{α:Type}[Inhabited α]{l:List α}{k:Nat}(h:k<l.length):nth l k=l[k]:=by simp[nth,h]
theorem jrq{α:Type}[Inhabited α]{l:List α}{k:Nat}(h:k<l.length):l[k]? =some (nth l k):=by rw[o7 h,iv h]
theorem db{α β:Type}[Inhabited α]{f:α→β}{l:List α}{k:Nat}(h:k<l.length):(l.map f)[k]? =some (f (nth l k)):=by rw[List.getElem?_map,jrq h];rfl
theorem ll{α:Type}[Inhabited α]{l:List α}{k:Nat}(h:k<l.length):nth l k∈l:=by rw[o7 h];exact List.getElem_mem h
theorem vQ{α:Type}[Inhabited α]{l:List α}{k:Nat}(h:k<l.length):l.take (k+1)=l.take k++[nth l k]:=by rw[o7 h,List.take_succ_eq_append_getElem h]
theorem BL{α β:Type}[Inhabited α][Inhabited β]{f:α→β}{l:List α}{k:Nat}(h:k<l.length):nth (l.map f) k=f (nth l k):=by rw[o7 h,o7 (by simpa using h)];simp
theorem zom{α:Type}[Inhabited α]{l m:List α}{k:Nat}(h:l.length≤k):nth (l++m) k=nth m (k - l.length):=by unfold nth;simp[fZ,jj h]
theorem zrc{α:Type}[Inhabited α]{l:List α}{x:α}:nth (l++[x]) l.length=x:=by rw[zom (bJ _)];simp[nth]
theorem BX{α:Type}[Inhabited α]{l:List α}{k:Nat}{x:α}(h:k<l.length):nth (l.set k x) k=x:=by rw[o7 (by simpa using h)];simp
theorem I2{α:Type}[Inhabited α]{l:List α}{k j:Nat}{x:α}(h:k≠j):nth (l.set k x) j=nth l j:=by unfold nth;simp[fZ,List.getElem?_set_ne h]
theorem zvz{α:Type}[Inhabited α]{a b:List α}{k:Nat}(ha:k<a.length)(hb:k<b.length)(h:a.take k=b.take k)(he:nth a k=nth b k):a.take (k+1)=b.take (k+1):=by
 rw[vQ ha,vQ hb,h,he]
def ak(l:List D):List AV:=l.map .d
theorem R3(l:List D):tj (ak l)=some l:=RI l
section
variable {l m:List D} {x:D} {i k:Nat}
theorem Y2:List.map AV.d l=ak l:=rfl
theorem Ix:ak []=[]:=rfl
theorem Dl:ak (x::l)= .d x::ak l:=rfl
theorem oe:(ak l).length=l.length:=List.length_map _
theorem BK:(ak l)[i]? =(l[i]?).map AV.d:=List.getElem?_map
theorem jgs:ak l++ak m=ak (l++m):=(List.map_append ..).symm
theorem jas{r:List AV}:ak l++(.d x::r)=ak (l++[x])++r:=by simp[ak]
theorem jgt:(ak l).set i (.d x)=ak (l.set i x):=by simp[ak,List.map_set]
theorem Ma{keep:List Nat}:jF keep (ak l)=ak l:=jv2 keep l
theorem L9{id:Nat}{r:List D}:iX id r (ak l)=ak l:=by
 rw[xK,ak,List.map_map];exact List.map_congr_left fun y _=>by simp[fN]
theorem I1{α:Type}{l:List α}:ec l 0 0=some []:=by simp[ec]
theorem IN{α:Type}{y:α}{l:List α}:ec (y::l) 0 (k+1)=(ec l 0 k).map (y::·):=by
 unfold ec
 by_cases h:k≤l.length
 ·rw[if_pos (by simpa using h),if_pos (by simpa using h)];simp
 ·rw[if_neg (by simpa using h),if_neg (by simpa using h)];rfl
theorem IM{α:Type}{y:α}{l:List α}:ec (y::l) (i+1) k=ec l i k:=by
 unfold ec
 by_cases h:i+k≤l.length
 ·rw[if_pos (by simp;omega),if_pos h];simp
 ·rw[if_neg (by simp;omega),if_neg h]
theorem fE{α:Type}{l:List α}(h:l.length=k):ec l 0 k=some l:=by
 unfold ec
 rw[if_pos (by omega)]
 simp[←h]
theorem jd0{α:Type}{l:List α}(h:i+k≤l.length):ec l i k=some ((l.drop i).take k):=by
 unfold ec
 rw[if_pos h]
theorem R2{look:jM}{n:Nat}:kx look (n+2) (ak l)=some (l.map D.fix):=by
 rw[show kx look (n+2) (ak l)=(ak l).mapM (qo look (n+1)) from rfl]
 induction l with
 |nil=>rfl
 |cons y l ih=>rw[Dl,List.mapM_cons,ih];rfl
theorem R1{look:jM}{n:Nat}:kx look (n+1) []=some []:=rfl
theorem Sy{look:jM}{n:Nat}{y:AV}{r:List AV}:kx look (n+1) (y::r)=(qo look n y).bind fun a=>(kx look (n+1) r).map (a::·):=by
 rw[show kx look (n+1) (y::r)=(y::r).mapM (qo look n) from rfl,List.mapM_cons]
 show _=(qo look n y).bind fun a=>(r.mapM (qo look n)).map (a::·)
 cases qo look n y<;>cases r.mapM (qo look n)<;>rfl
theorem jok{look:jM}{n:Nat}:qo look (n+1) (.d x)=some x.fix:=rfl
theorem jgu{look:jM}{n k id off m:Nat}:qo look (n+1) (.os k id off m)=(look.c id).bind fun cs=>(ec cs off (m*k)).bind fun r=>(kx look n r).map (D.fs · m):=by
 show(match look.c id with|some cs=>_|none=>none)=_
 cases look.c id with
 |none=>rfl
 |some cs=>
  show(match ec cs off (m*k)with|some l=>_|none=>none)=(ec cs off (m*k)).bind _
  cases ec cs off (m*k)<;>rfl
theorem jgv{look:jM}{n id i:Nat}:qo look (n+1) (.op id i)=(look.c id).bind fun cs=>(kx look n cs).map (D.fp · i):=by
 show(match look.c id with|some cs=>_|none=>none)=_
 cases look.c id<;>rfl
theorem jat{look:jM}{n:Nat}{fn:Fn}{fi ca:List AV}:qo look (n+1) (.dC fn fi ca)=(kx look n fi).bind fun a=>(kx look n ca).map fun b=>.dC fn a b:=by
 show(match kx look n fi,kx look n ca with|some a,some b=>_|_,_=>none)=_
 cases kx look n fi<;>cases kx look n ca<;>rfl
def cellsOf:bB→Option (List AV)
 | .cells cs=>some cs
 |_=>none
theorem R0{cs:List AV}:cellsOf (.cells cs)=some cs:=rfl
theorem jau{H:av}{N id:Nat}(h:id<N):(l6 H N).c id=(H[id]?).bind cellsOf:=by
 unfold l6
 simp only
 rw[if_pos h]
 cases H[id]? with
 |none=>rfl
 |some o=>cases o<;>rfl
theorem jav{look:jM}{n:Nat}{cs:List AV}:qo look (n+1) (.agg cs)=(kx look n cs).map D.agg:=rfl
theorem jk6{look:jM}{n:Nat}(h:∀y∈l,y.plain=true):rD look (n+2) (ak l)=some (l.map D.fix):=by
 rw[show rD look (n+2) (ak l)=(ak l).mapM (s8 look (n+1)) from rfl]
 induction l with
 |nil=>rfl
 |cons y l ih=>
  rw[Dl,List.mapM_cons,ih fun z hz=>h z (vX _ hz),show s8 look (n+1) (.d y)=if y.plain then some y.fix else none from rfl,if_pos (h y (List.mem_cons_self ..))];rfl
end
theorem o9{α:Type}{f:α→List D}{w:Nat}(hw:∀a,(f a).length=w)(l:List α):(l.flatMap f).length=l.length*w:=by
 induction l with
 |nil=>simp
 |cons a l ih=>rw[List.flatMap_cons,List.length_append,hw,ih,List.length_cons,Nat.add_mul];omega
theorem Fm{α:Type}{f:α→List D}{w:Nat}(hw:∀a,(f a).length=w):∀(l:List α) (k:Nat),(l.flatMap f).drop (k*w)=(l.drop k).flatMap f
 |l,0=>by simp
 |[],k+1=>by simp
 |a::l,k+1=>by
  rw[List.flatMap_cons,Nat.add_mul,Nat.one_mul,Nat.add_comm,List.drop_append,hw,List.drop_of_length_le (by rw[hw];omega),List.nil_append,Nat.add_sub_cancel_left,Fm hw l k,List.drop_succ_cons]
theorem uc{α:Type}[Inhabited α]{f:α→List D}{w:Nat}(hw:∀a,(f a).length=w){l:List α}{k j:Nat}(hk:k<l.length)(hj:j<w):(l.flatMap f)[k*w+j]? =(f (nth l k))[j]? :=by
 rw[←List.getElem?_drop,Fm hw,List.drop_eq_getElem_cons hk,List.flatMap_cons,iw (by rw[hw];exact hj),o7 hk]
theorem Ai{α:Type}[Inhabited α]{f:α→List D}{w:Nat}(hw:∀a,(f a).length=w){l:List α}{k:Nat}(hk:k<l.length):ec (l.flatMap f) (k*w) w=some (f (nth l k)):=by
 rw[jd0 (by rw[o9 hw];have:=Nat.mul_le_mul_right w (Nat.succ_le_of_lt hk);rw[Nat.succ_mul]at this;omega),Fm hw,List.drop_eq_getElem_cons hk,List.flatMap_cons,List.take_append,hw,ui (by rw[hw];exact bJ _),o7 hk];simp
section
variable {P:Program} {t:TypeId} {a b:Int}
theorem KB(h1: -9223372036854775808≤a)(h2:a<9223372036854775808):IntKind.i64.wrap a=a:=Ge h1 h2
theorem Kz(h1:0≤a)(h2:a<18446744073709551616):IntKind.u64.wrap a=a:=by
 simp[IntKind.wrap,IntKind.bits,IntKind.signed];omega
end
theorem Sx{N id k off n:Nat}{al:List Nat}(h:id<N):rM N al (.os k id off n)=true:=by simp[rM,h]
theorem RZ{N:Nat}{al:List Nat}{x:D}:rM N al (.d x)=true:=rfl
theorem jol{n:Nat}{z:D}:kl n [z]=ak (List.replicate n z):=by
 unfold kl ak
 induction n with
 |zero=>rfl
 |succ n ih=>simp_all [List.replicate_succ]
theorem SU{n:Nat}{z:D}:List.replicate n (AV.d z)=ak (List.replicate n z):=by simp[ak]
theorem RY{l:List Int}{k:Nat}{x:Int}:(l.map iD).set k (.val (.int .i64 x))=(l.set k x).map iD:=by rw[List.map_set];rfl
theorem tf(b:Bool):b=true∨b=false:=by cases b<;>simp
section
variable {P:Program} {c:Cx} {code:Code} {fn:Func} {Q:AV→av→Prop} {QQ:Exit→Fr→av→Prop} {τ:Fr} {H:av} {x y z u v:AV}
theorem dJ{t:Tmp}(h:fn.results.toList=[.tmp t])(hq:Q (τ t) H):rI P fn Q .ret τ H:=by
 show qm P τ H fn.results.toList _
 rw[h];exact hq
theorem cS{t:Tmp}{ty:TypeId}(h:fn.results.toList=[.cell t ty])(hq:oK (fS P H.length H ty (τ t)) (tg fun x=>Q x H)):rI P fn Q .ret τ H:=by
 obtain⟨x,h1,h2⟩:=hq
 show qm P τ H fn.results.toList _
 rw[h];exact⟨x,BR h1,h2⟩
theorem LF(h:ei P c code QQ (aF [(0,x)]) H):ei P c code QQ (xD [x]) H:=dY (cg (cw _) rfl) h
theorem pX(h:ei P c code QQ (aF [(0,x),(1,y)]) H):ei P c code QQ (xD [x,y]) H:=dY (cg (cg (cw _) rfl) rfl) h
theorem tr(h:ei P c code QQ (aF [(0,x),(1,y),(2,z)]) H):ei P c code QQ (xD [x,y,z]) H:=dY (cg (cg (cg (cw _) rfl) rfl) rfl) h
theorem BJ(h:ei P c code QQ (aF [(0,x),(1,y),(2,z),(3,u)]) H):ei P c code QQ (xD [x,y,z,u]) H:=dY (cg (cg (cg (cg (cw _) rfl) rfl) rfl) rfl) h
theorem Dg(h:ei P c code QQ (aF [(0,x),(1,y),(2,z),(3,u),(4,v)]) H):ei P c code QQ (xD [x,y,z,u,v]) H:=dY (cg (cg (cg (cg (cg (cw _) rfl) rfl) rfl) rfl) rfl) h
end
theorem Rt.heap{m:List Nat}{τ:Fr}{H H':av}(h:H=H'):Rt m τ H τ H':=h▸Rt.refl _ _
theorem Rt.end{m:List Nat}{τ τ':Fr}{H H':av}(h1:fw τ τ')(h2:H=H'):Rt m τ H τ' H':=(Rt.less h1).trans (Rt.heap h2)
theorem Rt.nil{m:List Nat}{τ:Fr}{H:av}(t k:Nat)(h:τ t= .d (.val (.slice none 0 0))):Rt m τ H (τ.put (some t) (.os k H.length 0 0)) (H++[.cells []]):=
 Rt.new.trans (Rt.put t (by rw[h];exact nC.nil _ _ _))
theorem Rt.fm{m:List Nat}{τ:Fr}{H:av}(id j k:Nat){cs:List AV}(hid:H[id]? =some (.cells cs))(hj:cs[j]? =some (.d (.val (.slice none 0 0)))):Rt m τ H τ (List.set (H++[bB.cells []]) id (.cells (cs.set j (.os k H.length 0 0)))):=
 Rt.new.trans (Rt.cell (by rw[iw (ew.1 hid).1];exact hid) hj (nC.nil _ _ _))
theorem Rt.slot{m:List Nat}{τ:Fr}{H:av}(t:Nat){x:AV}(h:τ t=x):Rt m τ H (τ.put (some t) x) H:=Rt.put t (by rw[h];exact fun _ _ _ _ h=>h)
theorem mU{id k off n:Nat}{l m:List D}(h:ec l off (n*k)=some m):fN id l (.os k id off n)= .d (.fs m n):=by rw[fN,if_pos rfl,h]
theorem Rt.px{m:List Nat}{τ:Fr}{H:av}(id j:Nat){cs:List AV}(hid:H[id]? =some (.cells cs))(hj:cs[j]? =some (.d (.val (.slice none 0 0)))):Rt m τ H τ (List.set H id (.cells (cs.set j (.d (.fs [] 0))))):=Rt.cell hid hj nC.w4
end
end Go.Proofs.YtapjobndmmkanaaGreat
