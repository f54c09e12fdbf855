/- Of no program: states that may be read as others: fewer slots, fewer objects, empty rows, rows that become data. -/
import Derived.Test.YtapjobndmmkanaaGreatAP
set_option linter.unusedVariables false
set_option linter.unusedSimpArgs false
namespace Go.Proofs.YtapjobndmmkanaaGreat
open Go Go.RowKit
section
def Rt(m:List Nat)(τ:Fr)(H:ak)(τ':Fr)(H':ak):Prop:=∀(c:Cx) (a:Act) (w:World),Kp c m→R c τ H [] a w→R c τ' H' [] a w
theorem Rt.refl{m:List Nat}(τ:Fr)(H:ak):Rt m τ H τ H:=fun _ _ _ _ h=>h
theorem Rt.trans{m:List Nat}{τ τ1 τ2:Fr}{H H1 H2:ak}(h:Rt m τ H τ1 H1)(k:Rt m τ1 H1 τ2 H2):Rt m τ H τ2 H2:=fun c a w hp hR=>k c a w hp (h c a w hp hR)
theorem Rt.less{m:List Nat}{τ τ':Fr}{H:ak}(h:fm τ τ'):Rt m τ H τ' H:=fun _ _ _ _ hR=>hR.less h
theorem Rt.gc{m:List Nat}{τ:Fr}{H:ak}{keep:List Nat}(hk:∀i∈m,keep[i]? =some i)(hn:keep.Nodup)(hb:∀i∈keep,i<H.length):Rt m τ H (fun t=>c7 keep (τ t)) (dg keep H):=fun _ _ _ hp hR=>hR.gc hp hk hn hb
theorem Rt.new{m:List Nat}{τ:Fr}{H:ak}:Rt m τ H τ (H++[.cells []]):=fun c a w _ ⟨pl,hR⟩=>by
 have h1:=hR.eu.mB (n:=H.length) (by simp) (fun p hp=>by cases hp)
 have e:(H++[bq.free]).set H.length (.cells [])=H++[.cells []]:=by rw[List.set_append_right _ _ (bm _)];simp
 rw[e]at h1
 exact⟨_,h1⟩
def np(x y:AV):Prop:=∀(w:World) (pl:List (Option (Nat × Nat))) (own:Nat→Prop) (v:Value),Rd w pl own x v→Rd w pl own y v
theorem np.nil(k id off:Nat):np (.d (.val (.slice none 0 0))) (.os k id off 0):=fun _ _ _ v h=>by
 cases h with|d _ _ h=>cases h;exact .lJ _ _ _ _
theorem np.fix(y:D):np (.d y) (.d y.fix):=fun _ _ _ v h=>by
 cases h with|d _ _ h=>exact .d _ _ (P8 h)
theorem np.x7:np (.d (.val (.slice none 0 0))) (.d (.fs [] 0)):=np.fix _
theorem Rt.put{m:List Nat}{τ:Fr}{H:ak}(t:Nat){x:AV}(h:np (τ t) x):Rt m τ H (τ.put (some t) x) H:=fun c a w _ ⟨pl,hR⟩=>
 ⟨pl,hR.h,hR.km,hR.gZ,hR.ext,fun s=>by
  simp only[Fr.put]
  split
  ·rename_i e;subst e;exact h _ _ _ _ (hR.fr s)
  ·exact hR.fr s,hR.size,hR.defs,hR.keep⟩
theorem Rt.cell{m:List Nat}{τ:Fr}{H:ak}{id j:Nat}{cs:List AV}{x y:AV}(hid:H[id]? =some (.cells cs))(hj:cs[j]? =some y)(h:np y x):Rt m τ H τ (H.set id (.cells (cs.set j x))):=fun c a w _ ⟨pl,hR⟩=>by
 have live:∀(i:Nat) (o:bq),(H.set id (.cells (cs.set j x)))[i]? =some o→o.live=true→∃o',H[i]? =some o'∧o'.live=true:=fun i o hi hl=>by
  rcases kP hi with⟨rfl,rfl,_⟩|⟨_,hi⟩
  ·exact⟨_,hid,rfl⟩
  ·exact⟨_,hi,hl⟩
 have dp:∀b,bu c.E (H.set id (.cells (cs.set j x))) pl b→bu c.E H pl b:=fun b hb=>by
  rcases hb with hb|⟨i,o,e,h1,h2,h3⟩
  ·exact .inl hb
  ·obtain⟨o',k1,k2⟩:=live i o h1 h2
   exact .inr ⟨i,o',e,k1,k2,h3⟩
 have iE:∀z v,Rd w pl (bu c.E H pl) z v→Rd w pl (bu c.E (H.set id (.cells (cs.set j x))) pl) z v:=fun z v hx=>hx.mono (bm _) (fun _ _ _=>rfl) (fun b _ hb=>dp b hb) (fun _ _ h=>h) (fun _ _ h=>h)
 refine⟨pl,⟨by simpa using hR.h.len,fun i o hi=>?_,fun i k oi ok p q h1 h2 l1 l2 cw s1 s2 p1 p2=>?_,fun i o p h1 l1 p1=>?_,fun p hp=>(by cases hp),fun i k ci ck p q hm=>(by cases hm)⟩,hR.km,fun i o p h1 l1 p1=>?_,hR.ext,fun t=>iE _ _ (hR.fr t),hR.size,hR.defs.sub (fun b ⟨i,o,e,h1,h2,h3⟩=>let⟨o',k1,k2⟩:=live i o h1 h2;⟨i,o',e,k1,k2,h3⟩),hR.keep⟩
 ·rcases kP hi with⟨rfl,rfl,_⟩|⟨_,hi⟩
  ·have ho:=hR.h.obj _ _ hid
   rcases ho with⟨k1,k2⟩|⟨b,base,arr,t,k1,k2,k3,k4⟩
   ·subst k1;simp at hj
   ·refine .inr ⟨b,base,arr,t,k1,k2,by simpa using k3,fun i z hz=>?_⟩
    rw[List.getElem?_set]at hz
    split at hz
    ·rename_i e
     subst e
     split at hz
     ·cases hz
      exact⟨iE _ _ (h _ _ _ _ (k4 _ _ hj).1),(k4 _ _ hj).2⟩
     ·cases hz
    ·exact⟨iE _ _ (k4 _ _ hz).1,(k4 _ _ hz).2⟩
  ·exact(hR.h.obj i o hi).mono (bm _) (fun _ _ _=>rfl) (fun b _ hb=>dp b hb) (fun _ _ h=>h) (fun _ _ h=>h) (fun h=>h) (fun _ _ _ _=>rfl)
 ·obtain⟨_,a2,a3⟩:=live i oi h1 l1
  obtain⟨_,b2,b3⟩:=live k ok h2 l2
  exact hR.h.l9 i k _ _ p q a2 b2 a3 b3 cw s1 s2 p1 p2
 ·obtain⟨_,a2,a3⟩:=live i o h1 l1
  exact hR.h.ext i _ p a2 a3 p1
 ·obtain⟨_,a2,a3⟩:=live i o h1 l1
  exact hR.gZ i _ p a2 a3 p1
mutual
def fR(id:Nat)(l:List D):AV→AV
 | .any=>.any
 | .d x=>.d x
 | .os k i off n=>if i=id then(match dJ l off (n*k)with|some m=>.d (.fs m n)|none=>.any)else .os k i off n
 | .op i off=>if i=id then .d (.fp l off)else .op i off
 | .om i=>.om i
 | .agg cs=>.agg (gf id l cs)
 | .dc cs=>.dc (gf id l cs)
 | .dk fn fi ca=>.dk fn (gf id l fi) (gf id l ca)
def gf(id:Nat)(l:List D):List AV→List AV
 |[]=>[]
 |x::m=>fR id l x::gf id l m
end
def z7(id:Nat)(l:List D):bq→bq
 | .free=>.free
 | .dead=>.dead
 | .cells cs=>.cells (gf id l cs)
 | .map es clock=>.map (es.map fun e=>(e.1,e.2.1,fR id l e.2.2)) clock
 | .loop b r fr=>.loop b r (gf id l fr)
def eS(id:Nat)(l:List D)(H:ak):ak:=(H.set id .dead).map (z7 id l)
theorem uU(id:Nat)(l:List D):∀cs:List AV,gf id l cs=cs.map (fR id l)
 |[]=>rfl
 |x::m=>by rw[gf,uU id l m];rfl
theorem jn3(id:Nat)(l:List D)(o:bq):(z7 id l o).live=o.live:=by cases o<;>rfl
section
variable {c:Cx} {τ:Fr} {a:Act} {w:World} {pl:List (Option (Nat × Nat))} {H:ak}
theorem yju{id:Nat}{l:List D}{own dO:Nat→Prop}(hw:∀b,dO b→own b)
  (hid:∀b base,pl[id]? =some (some (b,base))→∃arr t,w.heap[b]? =some (.cells arr t (0,0))∧¬dO b∧base+l.length≤arr.size∧∀j y,l[j]? =some y→fJ w dO y (arr.getD (base+j) undef)∧(arr.getD (base+j) undef).oneCell'=true)
  {x:AV} {v:Value} (h:Rd w pl own x v):Rd w pl dO (fR id l x) v:=by
 have pF:∀{cs:List AV} {j:Nat} {y:AV},(gf id l cs)[j]? =some y→∃x,cs[j]? =some x∧y=fR id l x:=fun{cs j y} h=>by
  rw[uU,List.getElem?_map,cA]at h
  obtain⟨x,hx,rfl⟩:=h
  exact⟨x,hx,rfl⟩
 induction h with
 |any v=>rw[fR];exact .any v
 |d x v h=>rw[fR];exact .d _ _ (h.mono (bm _) (fun _ _ _=>rfl) (fun b _ hb=>hw b hb))
 |os k i off n cap b base sz t h1 h2 h3 h4 h5=>
  rw[fR]
  split
  ·rename_i e
   subst e
   split
   ·rename_i m hm
    obtain⟨t1,t2⟩:=AH hm
    obtain⟨arr,t',k2,hE,k3,k4⟩:=hid b base h1
    have aA:∀(j:Nat) (y:D),m[j]? =some y→l[off+j]? =some y∧off+j<l.length:=fun j y hj=>by
     have kH:j<m.length:=(dX.1 hj).1
     have h2:=t2 j (by omega)
     rw[hj]at h2
     exact⟨h2.symm,(dX.1 h2.symm).1⟩
    refine .d _ _ (.fs m n cap b (base+off) (fun j=>arr.getD (base+(off+j)) undef) (oq.1 k2).1 hE h3 h4 (fun j y hj=>?_) (fun j y hj=>?_) (fun j y hj=>?_))
    ·have:=(aA j y hj).2
     rw[Nat.add_assoc,cell_of_row _ _ _ _ _ _ k2]
     simp[Array.getD,show base+(off+j)<arr.size by omega]
    ·exact(k4 _ _ (aA j y hj).1).2
    ·exact(k4 _ _ (aA j y hj).1).1
   ·exact .any _
  ·exact .os k i off n cap b base sz t h1 h2 h3 h4 h5
 |lJ k i off ad=>
  rw[fR]
  split
  ·split
   ·rename_i m hm
    have:=(AH hm).1
    have:m=[]:=List.eq_nil_of_length_eq_zero (by simpa using this)
    subst this
    exact .d _ _ (.f0 ad 0 (cy _) (fun _=>rfl))
   ·exact .any _
  ·exact .lJ _ _ _ _
 |op i off b base h1=>
  rw[fR]
  split
  ·rename_i e
   subst e
   obtain⟨arr,t',k2,hE,k3,k4⟩:=hid b base h1
   refine .d _ _ (.fp l off b base (fun j=>arr.getD (base+j) undef) (oq.1 k2).1 hE (fun j y hj=>?_) (fun j y hj=>(k4 j y hj).2) (fun j y hj=>(k4 j y hj).1))
   have:=(dX.1 hj).1
   rw[cell_of_row _ _ _ _ _ _ k2]
   simp[Array.getD,show base+j<arr.size by omega]
  ·exact .op i off b base h1
 |om i b base h1=>rw[fR];exact .om i b base h1
 |agg cs vs hl _ ih=>
  rw[fR]
  refine .agg _ _ (by rw[uU];simpa using hl) fun j y hj=>?_
  obtain⟨x,hx,rfl⟩:=pF hj
  exact ih j x hx
 |dc cs vs hl _ ih=>
  rw[fR]
  refine .dc _ _ (by rw[uU];simpa using hl) fun j y hj=>?_
  obtain⟨x,hx,rfl⟩:=pF hj
  exact ih j x hx
 |dk fn fi ca vs us hl _ gh _ ih vo=>
  rw[fR]
  refine .dk _ _ _ _ _ (by rw[uU];simpa using hl) (fun j y hj=>?_) (by rw[uU];simpa using gh) (fun j y hj=>?_)
  ·obtain⟨x,hx,rfl⟩:=pF hj
   exact ih j x hx
  ·obtain⟨x,hx,rfl⟩:=pF hj
   exact vo j x hx
theorem Rt.fz{m:List Nat}{τ:Fr}{H:ak}{id:Nat}{l:List D}(hid:H[id]? =some (.cells (l.map .d))):Rt m τ H (fun t=>fR id l (τ t)) (eS id l H):=fun c a w _ ⟨pl,Ma⟩=>by
 have hR:=Ma.kill id (sh':=[]) (fun i j hm=>by cases hm) (fun p hp=>by cases hp)
 have hlen:id<H.length:=(dX.1 hid).1
 have back:∀{j:Nat} {o':bq},(eS id l H)[j]? =some o'→∃o,(H.set id .dead)[j]? =some o∧o'=z7 id l o:=fun{j o'} hj=>by
  unfold eS at hj
  rw[List.getElem?_map,cA]at hj
  obtain⟨o,ho,rfl⟩:=hj
  exact⟨o,ho,rfl⟩
 have live:∀{j:Nat} {o':bq},(eS id l H)[j]? =some o'→o'.live=true→∃o,(H.set id .dead)[j]? =some o∧o.live=true∧H[j]? =some o∧j≠id:=fun{j o'} hj hl=>by
  obtain⟨o,ho,rfl⟩:=back hj
  rw[jn3]at hl
  rcases kP ho with⟨_,rfl,_⟩|⟨cw,xO⟩
  ·cases hl
  ·exact⟨o,ho,hl,xO,cw⟩
 have dp:∀b,bu c.E (eS id l H) pl b→bu c.E (H.set id .dead) pl b:=fun b hb=>by
  rcases hb with hb|⟨j,o,e,h1,h2,h3⟩
  ·exact .inl hb
  ·obtain⟨o',k1,k2,_⟩:=live h1 h2
   exact .inr ⟨j,o',e,k1,k2,h3⟩
 have HK:∀b,bu c.E (eS id l H) pl b→bu c.E H pl b:=fun b hb=>by
  rcases hb with hb|⟨j,o,e,h1,h2,h3⟩
  ·exact .inl hb
  ·obtain⟨o',_,k2,k3,_⟩:=live h1 h2
   exact .inr ⟨j,o',e,k3,k2,h3⟩
 have j9:∀b base,pl[id]? =some (some (b,base))→∃arr t,w.heap[b]? =some (.cells arr t (0,0))∧¬bu c.E (eS id l H) pl b∧base+l.length≤arr.size∧∀j y,l[j]? =some y→fJ w (bu c.E (eS id l H) pl) y (arr.getD (base+j) undef)∧(arr.getD (base+j) undef).oneCell'=true:=fun b base hp=>by
  rcases Ma.h.obj _ _ hid with⟨k1,k2⟩|⟨b',gz,arr,t,k1,k2,k3,k4⟩
  ·rw[hp]at k2;cases k2
  ·rw[hp]at k1;cases k1
   refine⟨arr,t,k2,fun hb=>?_,by simpa using k3,fun j y hj=>?_⟩
   ·rcases hb with hb|⟨i,o,e,h1,h2,h3⟩
    ·exact Ma.h.ext id _ _ hid rfl hp hb
    ·obtain⟨o',_,m2,m3,m4⟩:=live h1 h2
     exact Ma.h.l9 i id o' _ _ _ m3 hid m2 rfl m4 (by simp) (by simp) h3 hp rfl
   ·have:=k4 j (.d y) (by rw[List.getElem?_map,hj];rfl)
    obtain⟨h1,h2⟩:=this
    cases h1 with|d _ _ h1=>
    exact⟨h1.mono (bm _) (fun _ _ _=>rfl) (fun b _ hb=>HK b hb),h2⟩
 have key:∀{x v},Rd w pl (bu c.E (H.set id .dead) pl) x v→Rd w pl (bu c.E (eS id l H) pl) (fR id l x) v:=fun h=>yju dp j9 h
 refine⟨pl,⟨by simpa[eS]using hR.h.len,fun j o' hj=>?_,fun i j oi oj p q h1 h2 l1 l2 cw _ _ p1 p2=>?_,fun i o p h1 l1 p1=>?_,fun p hp=>(by cases hp),fun i j ci cj p q hm=>(by cases hm)⟩,hR.km,fun i o p h1 l1 p1=>?_,hR.ext,fun t=>key (hR.fr t),hR.size,hR.defs.sub (fun b ⟨i,o,e,h1,h2,h3⟩=>let⟨o1,a1,a2,_⟩:=live h1 h2;⟨i,o1,e,a1,a2,h3⟩),hR.keep⟩
 ·obtain⟨o,h2,rfl⟩:=back hj
  have ho:=hR.h.obj j o h2
  cases o with
  |free=>exact ho
  |dead=>trivial
  |cells cs=>
   rcases ho with⟨k1,k2⟩|⟨b,base,arr,t,k1,k2,k3,k4⟩
   ·exact .inl ⟨by subst k1;rfl,k2⟩
   ·refine .inr ⟨b,base,arr,t,k1,k2,by rw[uU];simpa using k3,fun j y hj=>?_⟩
    rw[uU,List.getElem?_map,cA]at hj
    obtain⟨x,hx,rfl⟩:=hj
    exact⟨key (k4 j x hx).1,(k4 j x hx).2⟩
  |map es clock=>
   obtain⟨b,base,ms,k1,k2,k3,k4,k5⟩:=ho
   refine⟨b,base,ms,k1,k2,by simpa using k3,by rw[List.map_map];exact k4,fun j e k n x hj hx=>?_⟩
   rw[List.getElem?_map,cA]at hx
   obtain⟨⟨k',n',x'⟩,lV,he⟩:=hx
   cases he
   obtain⟨m1,m2,m3⟩:=k5 j e k' n' x' hj lV
   exact⟨m1,m2,key m3⟩
  |loop b r fr=>
   obtain⟨base,k1,k2,k3⟩:=ho
   refine⟨base,k1,k2,fun j y hj=>?_⟩
   rw[uU,List.getElem?_map,cA]at hj
   obtain⟨x,hx,rfl⟩:=hj
   exact key (k3 j x hx)
 ·obtain⟨o1,a1,a2,_⟩:=live h1 l1
  obtain⟨o2,b1,b2,_⟩:=live h2 l2
  exact hR.h.l9 i j o1 o2 p q a1 b1 a2 b2 cw (by simp) (by simp) p1 p2
 ·obtain⟨o1,a1,a2,_⟩:=live h1 l1
  exact hR.h.ext i o1 p a1 a2 p1
 ·obtain⟨o1,a1,a2,_⟩:=live h1 l1
  exact hR.gZ i o1 p a1 a2 p1
variable {P:Program} {Q:Exit→Fr→ak→Prop}
theorem bI{m:List Nat}{x:Code}{τ':Fr}{H':ak}(hp:Kp c m)(h:Rt m τ H τ' H')(hx:dj P c x Q τ' H'):dj P c x Q τ H:=fun a w hR=>hx a w (h c a w hp hR)
theorem c9{m:List Nat}{x:Code}(hp:Kp c m)(I:Fr→ak→Nat→Prop)(n0:Nat){τ0:Fr}{H0:ak}(h:Rt m τ H τ0 H0)(h0:I τ0 H0 n0)
  (round:∀τ H n,I τ H n→dj P c x (fb (fun τ' H'=>∃n' τ1 H1,n'<n∧I τ1 H1 n'∧Rt m τ' H' τ1 H1) Q) τ H):dj P c (.loop x) Q τ H:=by
 refine jbc (fun τ H n=>∃τ1 H1,I τ1 H1 n∧Rt m τ H τ1 H1) ⟨τ0,H0,h0,h⟩ fun τ H n ⟨τ1,H1,h1,h2⟩=>?_
 refine bI hp h2 (wb (round τ1 H1 n h1) fun e τ' H' hq=>?_)
 cases e with
 |normal=>
  obtain⟨n',τ2,H2,k1,k2,k3⟩:=hq
  exact⟨n',k1,τ2,H2,k2,k3⟩
 |_=>exact hq
end
end
section
def iD(n:Int):D:=.val (.int .i64 n)
def bD(n:Int):D:=.val (.int .u8 n)
def uD(n:Int):D:=.val (.int .u64 n)
def oD(b:Bool):D:=.val (.bool b)
def av(l:List Int):D:=.fs (l.map iD) l.length
def aE(l:List Int):D:=.fs (l.map bD) l.length
def bn(l:List Bool):D:=.fs (l.map oD) l.length
def ai(l:List (List Int)):D:=.fs (l.map av) l.length
def gQ(l:List (List Int)):D:=.fs (l.map aE) l.length
def mR(l:List Int):Prop:=∀x∈l,0≤x∧x<256
theorem Pn(n:Int):(iD n).fix=iD n:=rfl
theorem ZJ(n:Int):(bD n).fix=bD n:=rfl
theorem Pm(b:Bool):(oD b).fix=oD b:=rfl
theorem jro(cs:List D)(n:Nat):(D.fs cs n).fix= .fs cs n:=rfl
theorem jn4(l:List Int):(av l).fix=av l:=rfl
theorem Mo{α:Type}{f:α→D}(h:∀a,(f a).fix=f a)(l:List α):(l.map f).map D.fix=l.map f:=by
 rw[List.map_map];exact List.map_congr_left fun a _=>h a
theorem MY{α:Type}{f:α→List D}(h:∀a,(f a).map D.fix=f a)(l:List α):(l.flatMap f).map D.fix=l.flatMap f:=by
 induction l with
 |nil=>rfl
 |cons a l ih=>rw[List.flatMap_cons,List.map_append,h,ih]
theorem jrp(l:List Int):(l.map iD).map D.fix=l.map iD:=Mo Pn l
theorem jrq(l:List Bool):(l.map oD).map D.fix=l.map oD:=Mo Pm l
theorem jjj(l:List (List Int)):(l.map av).map D.fix=l.map av:=Mo jn4 l
def nth{α:Type}[Inhabited α](l:List α)(k:Nat):α:=l.getD k default
theorem mS{α:Type}[Inhabited α]{l:List α}{k:Nat}(h:k<l.length):nth l k=l[k]:=by simp[nth,h]
theorem ju7{α:Type}[Inhabited α]{l:List α}{k:Nat}(h:k<l.length):l[k]? =some (nth l k):=by rw[mS h,ij h]
theorem dm{α β:Type}[Inhabited α]{f:α→β}{l:List α}{k:Nat}(h:k<l.length):(l.map f)[k]? =some (f (nth l k)):=by rw[List.getElem?_map,ju7 h];rfl
theorem my{α:Type}[Inhabited α]{l:List α}{k:Nat}(h:k<l.length):nth l k∈l:=by rw[mS h];exact List.getElem_mem h
theorem uX{α:Type}[Inhabited α]{l:List α}{k:Nat}(h:k<l.length):l.take (k+1)=l.take k++[nth l k]:=by rw[mS h,List.take_succ_eq_append_getElem h]
theorem vZ{α β:Type}[Inhabited α][Inhabited β]{f:α→β}{l:List α}{k:Nat}(h:k<l.length):nth (l.map f) k=f (nth l k):=by rw[mS h,mS (by simpa using h)];simp
theorem Nw{α:Type}[Inhabited α]{l m:List α}{k:Nat}(h:k<l.length):nth (l++m) k=nth l k:=by rw[mS h,mS (by simp;omega)];simp[h]
theorem zpx{α:Type}[Inhabited α]{l m:List α}{k:Nat}(h:l.length≤k):nth (l++m) k=nth m (k - l.length):=by unfold nth;simp[gp,ji h]
theorem JP{α:Type}[Inhabited α]{l:List α}{x:α}:nth (l++[x]) l.length=x:=by rw[zpx (bm _)];simp[nth]
theorem AJ{α:Type}[Inhabited α]{l:List α}{k:Nat}{x:α}(h:k<l.length):nth (l.set k x) k=x:=by rw[mS (by simpa using h)];simp
theorem F4{α:Type}[Inhabited α]{l:List α}{k j:Nat}{x:α}(h:k≠j):nth (l.set k x) j=nth l j:=by unfold nth;simp[gp,List.getElem?_set_ne h]
theorem zw7{α:Type}[Inhabited α]{a b:List α}{k:Nat}(ha:k<a.length)(hb:k<b.length)(h:a.take k=b.take k)(he:nth a k=nth b k):a.take (k+1)=b.take (k+1):=by
 rw[uX ha,uX hb,h,he]
def au(l:List D):List AV:=l.map .d
theorem SI(l:List D):tN (au l)=some l:=SQ l
section
variable {l m:List D} {x:D} {i k:Nat}
theorem ZI:List.map AV.d l=au l:=rfl
theorem Jg:au []=[]:=rfl
theorem DN:au (x::l)= .d x::au l:=rfl
theorem og:(au l).length=l.length:=List.length_map _
theorem B0:(au l)[i]? =(l[i]?).map AV.d:=List.getElem?_map
theorem jjk:au l++au m=au (l++m):=(List.map_append ..).symm
theorem jcc{r:List AV}:au l++(.d x::r)=au (l++[x])++r:=by simp[au]
theorem jjl:(au l).set i (.d x)=au (l.set i x):=by simp[au,List.map_set]
theorem DL{keep:List Nat}:gN keep (au l)=au l:=jzu keep l
theorem FO{id:Nat}{r:List D}:gf id r (au l)=au l:=by
 rw[uU,au,List.map_map];exact List.map_congr_left fun y _=>by simp[fR]
theorem JJ{α:Type}{l:List α}:dJ l 0 0=some []:=by simp[dJ]
theorem Jk{α:Type}{y:α}{l:List α}:dJ (y::l) 0 (k+1)=(dJ l 0 k).map (y::·):=by
 unfold dJ
 by_cases h:k≤l.length
 ·rw[if_pos (by simpa using h),if_pos (by simpa using h)];simp
 ·rw[if_neg (by simpa using h),if_neg (by simpa using h)];rfl
theorem Jj{α:Type}{y:α}{l:List α}:dJ (y::l) (i+1) k=dJ l i k:=by
 unfold dJ
 by_cases h:i+k≤l.length
 ·rw[if_pos (by simp;omega),if_pos h];simp
 ·rw[if_neg (by simp;omega),if_neg h]
theorem iN{α:Type}{l:List α}(h:l.length=k):dJ l 0 k=some l:=by
 unfold dJ
 rw[if_pos (by omega)]
 simp[←h]
theorem jf0{α:Type}{l:List α}(h:i+k≤l.length):dJ l i k=some ((l.drop i).take k):=by
 unfold dJ
 rw[if_pos h]
theorem SH{look:kc}{n:Nat}:mo look (n+2) (au l)=some (l.map D.fix):=by
 rw[show mo look (n+2) (au l)=(au l).mapM (sq look (n+1)) from rfl]
 induction l with
 |nil=>rfl
 |cons y l ih=>rw[DN,List.mapM_cons,ih];rfl
theorem Sj{look:kc}{n:Nat}:mo look (n+1) []=some []:=rfl
theorem S9{look:kc}{n:Nat}{y:AV}{r:List AV}:mo look (n+1) (y::r)=(sq look n y).bind fun a=>(mo look (n+1) r).map (a::·):=by
 rw[show mo look (n+1) (y::r)=(y::r).mapM (sq look n) from rfl,List.mapM_cons]
 show _=(sq look n y).bind fun a=>(r.mapM (sq look n)).map (a::·)
 cases sq look n y<;>cases r.mapM (sq look n)<;>rfl
theorem jrr{look:kc}{n:Nat}:sq look (n+1) (.d x)=some x.fix:=rfl
theorem jjm{look:kc}{n k id off m:Nat}:sq look (n+1) (.os k id off m)=(look.c id).bind fun cs=>(dJ cs off (m*k)).bind fun r=>(mo look n r).map (D.fs · m):=by
 show(match look.c id with|some cs=>_|none=>none)=_
 cases look.c id with
 |none=>rfl
 |some cs=>
  show(match dJ cs off (m*k)with|some l=>_|none=>none)=(dJ cs off (m*k)).bind _
  cases dJ cs off (m*k)<;>rfl
def cellsOf:bq→Option (List AV)
 | .cells cs=>some cs
 |_=>none
theorem Si{cs:List AV}:cellsOf (.cells cs)=some cs:=rfl
theorem jcd{H:ak}{N id:Nat}(h:id<N):(lE H N).c id=(H[id]?).bind cellsOf:=by
 unfold lE
 simp only
 rw[if_pos h]
 cases H[id]? with
 |none=>rfl
 |some o=>cases o<;>rfl
theorem jce{look:kc}{n:Nat}{cs:List AV}:sq look (n+1) (.agg cs)=(mo look n cs).map D.agg:=rfl
theorem jn5{look:kc}{n:Nat}(h:∀y∈l,y.plain=true):rV look (n+2) (au l)=some (l.map D.fix):=by
 rw[show rV look (n+2) (au l)=(au l).mapM (uu look (n+1)) from rfl]
 induction l with
 |nil=>rfl
 |cons y l ih=>
  rw[DN,List.mapM_cons,ih fun z hz=>h z (wq _ hz),show uu look (n+1) (.d y)=if y.plain then some y.fix else none from rfl,if_pos (h y (List.mem_cons_self ..))];rfl
end
theorem pq{α:Type}{f:α→List D}{w:Nat}(hw:∀a,(f a).length=w)(l:List α):(l.flatMap f).length=l.length*w:=by
 induction l with
 |nil=>simp
 |cons a l ih=>rw[List.flatMap_cons,List.length_append,hw,ih,List.length_cons,Nat.add_mul];omega
theorem JB{α:Type}{f:α→List D}{w:Nat}(hw:∀a,(f a).length=w):∀(l:List α) (k:Nat),(l.flatMap f).drop (k*w)=(l.drop k).flatMap f
 |l,0=>by simp
 |[],k+1=>by simp
 |a::l,k+1=>by
  rw[List.flatMap_cons,Nat.add_mul,Nat.one_mul,Nat.add_comm,List.drop_append,hw,List.drop_of_length_le (by rw[hw];omega),List.nil_append,Nat.add_sub_cancel_left,JB hw l k,List.drop_succ_cons]
theorem nC{α:Type}[Inhabited α]{f:α→List D}{w:Nat}(hw:∀a,(f a).length=w){l:List α}{k j:Nat}(hk:k<l.length)(hj:j<w):(l.flatMap f)[k*w+j]? =(f (nth l k))[j]? :=by
 rw[←List.getElem?_drop,JB hw,List.drop_eq_getElem_cons hk,List.flatMap_cons,iI (by rw[hw];exact hj),mS hk]
theorem zh{α:Type}[Inhabited α]{f:α→List D}{w:Nat}(hw:∀a,(f a).length=w){l:List α}{k:Nat}(hk:k<l.length):dJ (l.flatMap f) (k*w) w=some (f (nth l k)):=by
 rw[jf0 (by rw[pq hw];have:=Nat.mul_le_mul_right w (Nat.succ_le_of_lt hk);rw[Nat.succ_mul]at this;omega),JB hw,List.drop_eq_getElem_cons hk,List.flatMap_cons,List.take_append,hw,yE (by rw[hw];exact bm _),mS hk];simp
section
variable {P:Program} {t:TypeId} {a b:Int}
theorem yg(h1: -9223372036854775808≤a)(h2:a<9223372036854775808):IntKind.i64.wrap a=a:=GV h1 h2
theorem An(h1:0≤a)(h2:a<18446744073709551616):IntKind.u64.wrap a=a:=by
 simp[IntKind.wrap,IntKind.bits,IntKind.signed];omega
end
theorem S8{N id k off n:Nat}{al:List Nat}(h:id<N):tU N al (.os k id off n)=true:=by simp[tU,h]
theorem Sh{N:Nat}{al:List Nat}{x:D}:tU N al (.d x)=true:=rfl
theorem TJ{n:Nat}{z:D}:List.replicate n (AV.d z)=au (List.replicate n z):=by simp[au]
theorem Sg{l:List Bool}{k:Nat}{x:Bool}:(l.map oD).set k (.val (.bool x))=(l.set k x).map oD:=by rw[List.map_set];rfl
theorem Sf{l:List Int}{k:Nat}{x:Int}:(l.map iD).set k (.val (.int .i64 x))=(l.set k x).map iD:=by rw[List.map_set];rfl
theorem tf(b:Bool):b=true∨b=false:=by cases b<;>simp
section
variable {P:Program} {c:Cx} {code:Code} {fn:Func} {Q:AV→ak→Prop} {QQ:Exit→Fr→ak→Prop} {τ:Fr} {H:ak} {x y z u v:AV}
theorem c8{t:Tmp}(h:fn.results.toList=[.tmp t])(hq:Q (τ t) H):mQ P fn Q .ret τ H:=by
 show oG P τ H fn.results.toList _
 rw[h];exact hq
theorem iH{t:Tmp}{ty:TypeId}(h:fn.results.toList=[.cell t ty])(hq:oK (ff P H.length H ty (τ t)) (tg fun x=>Q x H)):mQ P fn Q .ret τ H:=by
 obtain⟨x,h1,h2⟩:=hq
 show oG P τ H fn.results.toList _
 rw[h];exact⟨x,AA h1,h2⟩
theorem Mn(h:dj P c code QQ (aG [(0,x)]) H):dj P c code QQ (qM [x]) H:=dG (bM (bT _) rfl) h
theorem oc(h:dj P c code QQ (aG [(0,x),(1,y)]) H):dj P c code QQ (qM [x,y]) H:=dG (bM (bM (bT _) rfl) rfl) h
theorem vY(h:dj P c code QQ (aG [(0,x),(1,y),(2,z)]) H):dj P c code QQ (qM [x,y,z]) H:=dG (bM (bM (bM (bT _) rfl) rfl) rfl) h
theorem B8(h:dj P c code QQ (aG [(0,x),(1,y),(2,z),(3,u)]) H):dj P c code QQ (qM [x,y,z,u]) H:=dG (bM (bM (bM (bM (bT _) rfl) rfl) rfl) rfl) h
theorem DE(h:dj P c code QQ (aG [(0,x),(1,y),(2,z),(3,u),(4,v)]) H):dj P c code QQ (qM [x,y,z,u,v]) H:=dG (bM (bM (bM (bM (bM (bT _) rfl) rfl) rfl) rfl) rfl) h
end
theorem Rt.heap{m:List Nat}{τ:Fr}{H H':ak}(h:H=H'):Rt m τ H τ H':=h▸Rt.refl _ _
theorem Rt.end{m:List Nat}{τ τ':Fr}{H H':ak}(h1:fm τ τ')(h2:H=H'):Rt m τ H τ' H':=(Rt.less h1).trans (Rt.heap h2)
theorem Rt.nil{m:List Nat}{τ:Fr}{H:ak}(t k:Nat)(h:τ t= .d (.val (.slice none 0 0))):Rt m τ H (τ.put (some t) (.os k H.length 0 0)) (H++[.cells []]):=
 Rt.new.trans (Rt.put t (by rw[h];exact np.nil _ _ _))
theorem Rt.gq{m:List Nat}{τ:Fr}{H:ak}(id j k:Nat){cs:List AV}(hid:H[id]? =some (.cells cs))(hj:cs[j]? =some (.d (.val (.slice none 0 0)))):Rt m τ H τ (List.set (H++[bq.cells []]) id (.cells (cs.set j (.os k H.length 0 0)))):=
 Rt.new.trans (Rt.cell (by rw[iI (dX.1 hid).1];exact hid) hj (np.nil _ _ _))
theorem Rt.slot{m:List Nat}{τ:Fr}{H:ak}(t:Nat){x:AV}(h:τ t=x):Rt m τ H (τ.put (some t) x) H:=Rt.put t (by rw[h];exact fun _ _ _ _ h=>h)
theorem qL{id k off n:Nat}{l m:List D}(h:dJ l off (n*k)=some m):fR id l (.os k id off n)= .d (.fs m n):=by rw[fR,if_pos rfl,h]
theorem Rt.rF{m:List Nat}{τ:Fr}{H:ak}(id j:Nat){cs:List AV}(hid:H[id]? =some (.cells cs))(hj:cs[j]? =some (.d (.val (.slice none 0 0)))):Rt m τ H τ (List.set H id (.cells (cs.set j (.d (.fs [] 0))))):=Rt.cell hid hj np.x7
end
end Go.Proofs.YtapjobndmmkanaaGreat
