/- The value of an expression, for closures; the next state. -/
import Derived.Test.YtapjobndmmkanaaGreatQr
import Derived.Test.YtapjobndmmkanaaGreatPh
import Derived.Test.YtapjobndmmkanaaGreatPm
set_option linter.unusedVariables false
set_option linter.unusedSimpArgs false
set_option maxRecDepth 100000
set_option maxHeartbeats 4000000
namespace Go.Proofs.YtapjobndmmkanaaGreat
open Go.Proofs.Tryz
open Go Go.RowKit
theorem ON(p:Pr)(fg:bJ p)(q:Bool)(ag:List Nat)(mems:List (List Int))(data:List Nat)(hs:rK (aI p) ag data mems)(jR:ag.length=p.ag.length)(mG:data.length=p.ae.length)(e:Ex):Dn p q ag mems data e:=by
 have key:∀(m:Nat) (e:Ex),SizeOf.sizeOf e<m→Dn p q ag mems data e:=by
  intro m
  induction m with
  |zero=>intro e h;omega
  |succ m ihm=>
   intro e h di
   have:=yev p fg q ag mems data e hs jR mG (fun k hk=>ihm _ (by have:=Sn hk;omega)) di
   rw[←sI]at this
   exact this
 exact key _ e (Nat.lt_succ_self _)
theorem yp4{P:Program}{f:FuncId}{ds:List D}{a b:Int}(h:cC P f ds (.dc [.d (iD a),.d (iD b)])):w9 P f ds (.dc [.d (iD a),.d (iD b)]):=by
 refine⟨h.1,fun w O vals hs hx hO=>(h.2 w O vals hs hx hO).mono ?_⟩
 rintro e w' ⟨v,he,hr,hb⟩
 refine⟨v,he,?_,hb⟩
 cases hr with
 |dc _ vs hl hy=>
  refine .dc _ vs hl fun j x hj=>?_
  have hz:=hy j x hj
  rcases j with _|_|j
  ·simp only[List.getElem?_cons_zero,Option.some.injEq]at hj
   subst hj
   generalize vs.getD 0 undef=y at hz ⊢
   cases hz with
   |d _ _ h=>cases h;exact .d _ _ (.val _)
  ·simp only[List.getElem?_cons_succ,List.getElem?_cons_zero,Option.some.injEq]at hj
   subst hj
   generalize vs.getD (0+1) undef=y at hz ⊢
   cases hz with
   |d _ _ h=>cases h;exact .d _ _ (.val _)
  ·simp at hj
theorem OM{p q:Prop}(hq:q)(h:p=q:=by
 conv=>lhs;simp -dsimp -implicitDefEqProofs (disch:=first|assumption|omega|(simp only[aK]<;>omega)|decide) only[aP,↓reduceIte,Nat.reduceEqDiff,Nat.reduceAdd,D.fix,Int.reduceToNat,Nat.reduceMul,Nat.reduceBNe,Nat.reduceBEq,fo,aD,dE,cg,sD,nS,ai,fH,bw]):p:=h.mpr hq
theorem ye5(p:Pr)(q:Bool)(ag:List Nat)(mems:List (List Int))(data:List Nat)(e:Ex)(di:WT (aI p) q e)(h:Dn p q ag mems data e):cC prog 81 [.agg (dE e),.fp (fo p ag mems data) 0] (.d (iD (bF (aI p) ag data mems e))):=by
 have h:=h di
 rw[sI]at h
 refine ez (fn:=f81) (by kernel_rfl) func81 rfl (bN rfl) fun c hc hp=>?_
 refine dG (τ':=aG [(0,.d (.agg (dE e))),(1,.d (.fp (fo p ag mems data) 0))]) (by repeat (first|exact bT _|refine bM ?_ (by first|rfl|(simp[aR];done)|simp[aR, *]))) ?_
 refine aj (OM ·) ?_
 refine bC hp ax hc rfl fun K2 bG=>?_
 refine OM ?_
 refine cQ (h) rfl ?_
 refine OM ?_
 refine bG _ _ ?_
 refine bC hp ax hc rfl fun K3 bS=>?_
 simp -dsimp -implicitDefEqProofs (disch:=first|assumption|omega|(simp only[aK]<;>omega)|decide) only[aP,↓reduceIte,Nat.reduceEqDiff,Nat.reduceAdd,D.fix,Int.reduceToNat,Nat.reduceMul,Nat.reduceBNe,Nat.reduceBEq,fo,aD,dE,cg,sD,nS,ai,fH]
 refine bS _ _ ?_
 refine bh ?_
 show aC _ _=_
 simp (disch:=first|assumption|omega|(simp only[aK]<;>omega)|decide) only[gF,Nat.reduceAdd,D.fix,↓reduceIte,Nat.reduceEqDiff,fo,aD,dE,cg,sD,nS,ai,fH]
def iy(r:ly):List D:=[sD r.name,iD r.w,iD r.init,iD (cO r.next),nS,iD (kEx r.next),nS,iD (u4 r.next),nS,.fs ((aV r.next).flatMap bW) (aV r.next).length,iD r.rk,sD r.rf,iD r.rn]
def fZ(t:jD):List D:=[iD t.chan,iD t.w,iD (cO t.wh),nS,iD (kEx t.wh),nS,iD (u4 t.wh),nS,.fs ((aV t.wh).flatMap bW) (aV t.wh).length]
def eR(q:ni):List D:=[iD q.chan,iD q.w,iD (cO q.wh),nS,iD (kEx q.wh),nS,iD (u4 q.wh),nS,.fs ((aV q.wh).flatMap bW) (aV q.wh).length,iD (cO q.da),nS,iD (kEx q.da),nS,iD (u4 q.da),nS,.fs ((aV q.da).flatMap bW) (aV q.da).length]
def iz(m:nj):List D:=[sD m.name,iD m.w,iD m.words,iD (cO m.en),nS,iD (kEx m.en),nS,iD (u4 m.en),nS,.fs ((aV m.en).flatMap bW) (aV m.en).length,iD (cO m.ad),nS,iD (kEx m.ad),nS,iD (u4 m.ad),nS,.fs ((aV m.ad).flatMap bW) (aV m.ad).length,iD (cO m.da),nS,iD (kEx m.da),nS,iD (u4 m.da),nS,.fs ((aV m.da).flatMap bW) (aV m.da).length,iD m.rk,sD m.rf,iD m.rn]
section
theorem ye6(r:ly):lH r=iy r:=by unfold lH;rw[sI];rfl
theorem ye7(r:jD):oW r=fZ r:=by unfold oW;rw[sI];rfl
theorem ye8(r:ni):sb r=eR r:=by unfold sb;rw[sI,sI];rfl
theorem ye9(r:nj):oX r=iz r:=by unfold oX;rw[sI,sI,sI];rfl
theorem n9{l:List ly}{k:Nat}(h:k<l.length):dJ (l.flatMap lH) (k*13) 13=some (iy (nth l k)):=by rw[←ye6];exact zh lA h
theorem pk{l:List jD}{k:Nat}(h:k<l.length):dJ (l.flatMap oW) (k*9) 9=some (fZ (nth l k)):=by rw[←ye7];exact zh mb h
theorem lF{l:List ni}{k:Nat}(h:k<l.length):dJ (l.flatMap sb) (k*16) 16=some (eR (nth l k)):=by rw[←ye8];exact zh kg h
theorem qf{l:List nj}{k:Nat}(h:k<l.length):dJ (l.flatMap oX) (k*27) 27=some (iz (nth l k)):=by rw[←ye9];exact zh mJ h
end
def cB(l:List Int)(n:Nat):bq:=.cells (au ((l++List.replicate (n - l.length) 0).map iD))
theorem xf{l:List Int}{n k:Nat}(hk:l.length=k)(h:k<n)(v:Int):((l++List.replicate (n - l.length) 0).map iD).set k (iD v)=((l++[v])++List.replicate (n - (l++[v]).length) 0).map iD:=by
 subst hk
 rw[List.map_append,List.set_append_right _ _ (by simp),List.length_map,Nat.sub_self,show n - l.length=(n - (l++[v]).length)+1 by simp;omega,List.replicate_succ,List.map_cons,List.set_cons_zero]
 simp
section
section
variable (p:Pr) (rg:List Nat) (mems:List (List Int)) (data:List Nat)
def pv(e:Ex):Nat:=bF (aI p) rg data mems e
def u6(k:Nat):List Int:=(List.range k).map fun i=>((pv p rg mems data (nth p.ag i).next:Nat):Int)
def KL(i:Nat):List Int:=if pv p rg mems data (nth p.mems i).en=1 then(nth mems i).set (pv p rg mems data (nth p.mems i).ad % (nth p.mems i).words) ((pv p rg mems data (nth p.mems i).da:Nat):Int)else nth mems i
def AP(k:Nat):List (List Int):=(List.range k).map (KL p rg mems data)
theorem ylb(k:Nat):u6 p rg mems data (k+1)=u6 p rg mems data k++[((pv p rg mems data (nth p.ag k).next:Nat):Int)]:=by unfold u6;rw[xt,List.map_append];rfl
theorem Yl(k:Nat):AP p rg mems data (k+1)=AP p rg mems data k++[KL p rg mems data k]:=by unfold AP;rw[xt,List.map_append];rfl
theorem oI(k:Nat):(u6 p rg mems data k).length=k:=by simp[u6]
theorem pg(k:Nat):(AP p rg mems data k).length=k:=by simp[AP]
end
theorem je5{id:Nat}{l:List D}{a b:List AV}:gf id l (a++b)=gf id l a++gf id l b:=by rw[uU,List.map_append,←uU,←uU]
theorem je6{keep:List Nat}{a b:List AV}:gN keep (a++b)=gN keep a++gN keep b:=by rw[uV,List.map_append,←uV,←uV]
def vh(p:Pr)(rg:List Nat)(mems:List (List Int))(data:List Nat):D:=.dk (.func 81) [] [.fp (fo p rg mems data) 0]
theorem ny{p q:Prop}(hq:q)(h:p=q:=by
 conv=>lhs;simp -dsimp -implicitDefEqProofs (disch:=first|assumption|omega|(simp only[aK,dK,fM,oI,pg]<;>omega)|decide) only[aP,↓reduceIte,Nat.reduceEqDiff,Nat.reduceAdd,D.fix,Int.reduceToNat,Nat.reduceMul,Nat.reduceBNe,Nat.reduceBEq,fo,aD,dE,cg,sD,nS,ai,fH,cB,n9,lA,iy,qf,mJ,iz,vh,dm,oI,pg,bw]):p:=h.mpr hq
theorem D8(k:List Nat){m:List Nat}{τ τ1:Fr}{H H1:ak}(h:Rt m (fun t=>c7 k (τ t)) (dg k H) τ1 H1)(a:∀i∈m,k[i]? =some i:=by decide)(b:k.Nodup:=by decide)(c:∀i∈k,i<H.length:=by
 simp[eS,dg]):Rt m τ H τ1 H1:=Rt.trans (Rt.gc a b c) h
theorem Cs{m:List Nat}{τ τ':Fr}{H H':ak}(h2:H=H')(h:fm τ τ':=by
 repeat (first|exact bT _|refine bM ?_ (by first|rfl|(simp[aR,dK,fM,oI,pg];done)|simp[aR,dK,fM,oI,pg, *]))):Rt m τ H τ' H':=Rt.end h h2
theorem Lc{p q r:Prop}(e:r)(hq:q)(h:r→p=q:=by
 intro hY
 conv=>lhs;simp -dsimp -implicitDefEqProofs (disch:=first|assumption|omega|(simp only[aK,dK,fM,oI,pg]<;>omega)|decide) only[aP,↓reduceIte,Nat.reduceEqDiff,Nat.reduceAdd,D.fix,Int.reduceToNat,Nat.reduceMul,Nat.reduceBNe,Nat.reduceBEq,fo,aD,dE,cg,sD,nS,ai,fH,cB,n9,lA,iy,qf,mJ,iz,vh,dm,oI,pg,bw,hY]):p:=(h e).mpr hq
theorem WD{p:Prop}(h:p:=by
 first|rfl|(simp only[cD,Nat.reduceAdd,↓reduceIte,Nat.reduceEqDiff,fo,aD,dE,cg,sD,nS,ai,fH,cB,n9,lA,iy,qf,mJ,iz,vh,dm,oI,pg];first|done|rfl)):p:=h
theorem Gi{p q:Prop}(hq:q)(h:p=q:=by
 conv=>lhs;simp only[cD,Nat.reduceAdd,↓reduceIte,Nat.reduceEqDiff,fo,aD,dE,cg,sD,nS,ai,fH,cB,n9,lA,iy,qf,mJ,iz,vh,dm,oI,pg]):p:=h.mpr hq
theorem yfd(p:Pr)(fg:bJ p)(rg:List Nat)(mems:List (List Int))(data:List Nat)(hs:rK (aI p) rg data mems)(jR:rg.length=p.ag.length)(mG:data.length=p.ae.length):cC prog 83 [.agg (fo p rg mems data),vh p rg mems data] (.d (.agg [av (u6 p rg mems data p.ag.length),ai (AP p rg mems data p.mems.length)])):=by
 have cu:∀e,WT (aI p) true e→cC prog 81 [.agg (dE e),.fp (fo p rg mems data) 0] (.d (iD (pv p rg mems data e))):=fun e h=>ye5 p true rg mems data e h (ON p fg true rg mems data hs jR mG e)
 have Bv:=fg.rl
 have wJ:=fg.ct.l
 have wN:(aI p).mems.length=p.mems.length:=by simp[aI]
 have mC:=hs.ml
 refine ez (fn:=f83) (by kernel_rfl) func83 rfl (bN rfl) fun c hc hp=>?_
 refine dG (τ':=aG [(0,.d (.agg (fo p rg mems data))),(1,.d (vh p rg mems data))]) (by repeat (first|exact bT _|refine bM ?_ (by first|rfl|(simp[aR,dK,fM,oI,pg];done)|simp[aR,dK,fM,oI,pg, *]))) ?_
 refine aj (ny ·) ?_
 refine aj (ny ·) ?_
 refine aH fun K3 bS=>?_
 refine aj (ny ·) ?_
 refine aW ?_
 refine c9 hp (fun τ' H' mm=>∃(k:Nat),(k≤p.ag.length)∧mm=p.ag.length - k∧H'=[.cells (au (fo p rg mems data)),.cells [.d (.val (.slice none 0 0)),.d (.val (.slice none 0 0))],.cells [.os 1 3 0 k,.d (.val (.slice none 0 0))],.cells (au ((u6 p rg mems data k).map iD))]∧τ'=aG [(1,.d (vh p rg mems data)),(2,.op 0 0),(4,.op 1 0),(5,.op 2 0),(14,.d (.fs (p.ag.flatMap lH) p.ag.length)),(15,.d (iD p.ag.length)),(16,.d (iD k))]) (p.ag.length) ?_ ⟨0,cy _,rfl,rfl,rfl⟩ ?_
 ·refine Rt.trans (Rt.gq 2 0 1 rfl rfl) ?_
  refine D8 [0,1,2,3] ?_
  refine Cs ?_
  exact WD
 rintro τ' H' mm ⟨k,hk,rfl,rfl,rfl⟩
 refine aj (ny ·) ?_
 refine aH fun K6 cF=>?_
 refine aX rfl (fun ht=>?_) (fun ht=>?_)
 ·have aA:k<p.ag.length:=by simp at ht;omega
  refine bB (cF _ _ ?_)
  refine aH fun K7 de=>?_
  refine aW ?_
  refine aj (ny ·) ?_
  refine uR ax hc mixed rfl (q:=2) (by kernel_rfl) (by kernel_rfl) fun K9 cJ=>?_
  refine ny ?_
  refine Jh (fi:=[]) (ca:=[.fp (fo p rg mems data) 0]) (ds:=[.agg (dE (nth p.ag k).next)]) (cu _ (fg.rn k aA).1) rfl ?_
  refine ny ?_
  refine cJ _ _ (de _ _ ?_)
  refine bA hp ax hc rfl fun kL bU=>?_
  refine ny ?_
  refine bU _ _ ⟨_,_,_,?_,⟨k+1,by omega,rfl,rfl,rfl⟩,?_⟩
  ·first|omega|(simp only[List.length_cons];omega)|(dsimp only;omega)
  ·refine D8 [0,1,2,6] ?_
   refine Cs ?_
   refine Gi ?_;rw[ylb];simp[iD]
 ·have cf:k=p.ag.length:=by simp at ht;omega
  subst cf
  have tR:dJ ((u6 p rg mems data p.ag.length).map iD) 0 p.ag.length=some ((u6 p rg mems data p.ag.length).map iD):=iN (by simp[oI])
  refine cL (bS _ _ ?_)
  refine aH fun lz cm=>?_
  refine aj (ny ·) ?_
  refine aW ?_
  refine c9 hp (fun τ' H' mm=>∃(k:Nat),(k≤p.mems.length)∧mm=p.mems.length - k∧H'=[.cells (au (fo p rg mems data)),.cells [.d (.val (.slice none 0 0)),.d (.val (.slice none 0 0))],.cells [.d (av (u6 p rg mems data p.ag.length)),.os 1 3 0 k],.cells (au ((AP p rg mems data k).map av))]∧τ'=aG [(1,.d (vh p rg mems data)),(2,.op 0 0),(4,.op 1 0),(5,.op 2 0),(32,.d (.fs (p.mems.flatMap oX) p.mems.length)),(33,.d (iD p.mems.length)),(34,.d (iD k))]) (p.mems.length) ?_ ⟨0,cy _,rfl,rfl,rfl⟩ ?_
  ·refine Rt.trans (Rt.fz (id:=3) (l:=((u6 p rg mems data p.ag.length).map iD)) rfl) ?_
   refine Rt.trans (Rt.heap (H':=[.cells (au (fo p rg mems data)),.cells [.d (.val (.slice none 0 0)),.d (.val (.slice none 0 0))],.cells [.d (av (u6 p rg mems data p.ag.length)),.d (.val (.slice none 0 0))],.dead]) (by simp only[cD,Nat.reduceAdd,↓reduceIte,Nat.reduceEqDiff,fo,aD,dE,cg,sD,nS,ai,fH,cB,n9,lA,iy,qf,mJ,iz,vh,dm,oI,pg,tR];first|done|rfl)) ?_
   refine Rt.trans (Rt.gq 2 1 1 rfl rfl) ?_
   refine D8 [0,1,2,4] ?_
   refine Cs ?_
   exact WD
  rintro τ' H' mm ⟨k,hk,rfl,rfl,rfl⟩
  refine aj (ny ·) ?_
  refine aH fun rM dI=>?_
  refine aX rfl (fun ht=>?_) (fun ht=>?_)
  ·have aA:k<p.mems.length:=by simp at ht;omega
   have Im:nth (aI p).mems k=((nth p.mems k).words,(nth p.mems k).w):=lQ aA
   have ov:=hs.wl k (by omega)
   have rp:=fg.ct.m k (by omega)
   rw[Im]at ov rp
   simp only at ov rp
   have gm:(mems.map av)[k]? =some (av (nth mems k)):=dm (by omega)
   refine bB (dI _ _ ?_)
   refine aH fun tG ea=>?_
   refine aW ?_
   refine aj (ny ·) ?_
   refine aj (ny ·) ?_
   refine aH fun ye fP=>?_
   refine aj (ny ·) ?_
   refine aW ?_
   refine c9 hp (fun τ' H' mm=>∃(j:Nat),(j≤(nth p.mems k).words)∧mm=(nth p.mems k).words - j∧H'=[.cells (au (fo p rg mems data)),.cells [.d (.val (.slice none 0 0)),.d (.val (.slice none 0 0))],.cells [.d (av (u6 p rg mems data p.ag.length)),.os 1 3 0 k],.cells (au ((AP p rg mems data k).map av)),.cells (au (iz (nth p.mems k))),cB ((nth mems k).take j) (nth p.mems k).words]∧τ'=aG [(1,.d (vh p rg mems data)),(2,.op 0 0),(4,.op 1 0),(5,.op 2 0),(8,.d (iD k)),(9,.op 4 0),(10,.os 1 5 0 (nth p.mems k).words),(32,.d (.fs (p.mems.flatMap oX) p.mems.length)),(33,.d (iD p.mems.length)),(34,.d (iD k)),(43,.d (iD (nth p.mems k).words)),(44,.d (iD j))]) ((nth p.mems k).words) ?_ ⟨0,cy _,rfl,rfl,rfl⟩ ?_
   ·refine Cs ?_
    refine Gi ?_;simp[cB,iD]
   rintro τ' H' mm ⟨j,hj,rfl,rfl,rfl⟩
   refine aj (ny ·) ?_
   refine aH fun yU ib=>?_
   refine aX rfl (fun ht=>?_) (fun ht=>?_)
   ·have L3:j<(nth p.mems k).words:=by simp at ht;omega
    have vt:((nth mems k).take j).length=j:=by rw[List.length_take];omega
    have QH:=xf vt L3 (nth (nth mems k) j)
    have kX:=uX (l:=nth mems k) (k:=j) (by omega)
    refine bB (ib _ _ ?_)
    refine aH fun wS fB=>?_
    refine aW ?_
    refine bC hp ax hc rfl fun yd gw=>?_
    simp -dsimp -implicitDefEqProofs (disch:=first|assumption|omega|(simp only[aK,dK,fM,oI,pg]<;>omega)|decide) only[aP,↓reduceIte,Nat.reduceEqDiff,Nat.reduceAdd,D.fix,Int.reduceToNat,Nat.reduceMul,Nat.reduceBNe,Nat.reduceBEq,fo,aD,dE,cg,sD,nS,ai,fH,cB,n9,lA,iy,qf,mJ,iz,vh,dm,oI,pg]
    refine gw _ _ ?_
    refine jX (Lc gm ·) (fB _ _ ?_)
    refine bA hp ax hc rfl fun BK jn=>?_
    refine ny ?_
    refine jn _ _ ⟨_,_,_,?_,⟨j+1,by omega,rfl,rfl,rfl⟩,?_⟩
    ·first|omega|(simp only[List.length_cons];omega)|(dsimp only;omega)
    ·refine D8 [0,1,2,3,4,5] ?_
     refine Cs ?_
     refine Gi ?_;rw[kX,←QH,←List.map_set];rfl
   ·have wL:j=(nth p.mems k).words:=by simp at ht;omega
    subst wL
    have em:(nth mems k).take (nth p.mems k).words++List.replicate ((nth p.mems k).words - ((nth mems k).take (nth p.mems k).words).length) 0=nth mems k:=by
     rw[yE (by omega),ov,Nat.sub_self];simp
    rw[em]
    have xP:=Nat.mod_lt (pv p rg mems data (nth p.mems k).ad) (show 0<(nth p.mems k).words by omega)
    have m5:((pv p rg mems data (nth p.mems k).ad:Nat):Int) % ((nth p.mems k).words:Int)=((pv p rg mems data (nth p.mems k).ad % (nth p.mems k).words:Nat):Int):=(Int.natCast_emod _ _).symm
    have tk:dJ ((nth mems k).map iD) 0 (nth p.mems k).words=some ((nth mems k).map iD):=iN (by simp[ov])
    have tk2:dJ (((nth mems k).set (pv p rg mems data (nth p.mems k).ad % (nth p.mems k).words) ((pv p rg mems data (nth p.mems k).da:Nat):Int)).map iD) 0 (nth p.mems k).words=some (((nth mems k).set (pv p rg mems data (nth p.mems k).ad % (nth p.mems k).words) ((pv p rg mems data (nth p.mems k).da:Nat):Int)).map iD):=iN (by simp[ov])
    refine cL (fP _ _ ?_)
    refine aH fun I0 iV=>?_
    refine bC hp ax hc rfl fun IZ l7=>?_
    refine ny ?_
    refine Jh (fi:=[]) (ca:=[.fp (fo p rg mems data) 0]) (ds:=[.agg (dE (nth p.mems k).en)]) (cu _ (fg.me k aA).1) rfl ?_
    refine ny ?_
    refine l7 _ _ ?_
    refine aX rfl (fun ht=>?_) (fun ht=>?_)
    ·have By:pv p rg mems data (nth p.mems k).en=1:=by simp at ht;omega
     have hW:KL p rg mems data k=(nth mems k).set (pv p rg mems data (nth p.mems k).ad % (nth p.mems k).words) ((pv p rg mems data (nth p.mems k).da:Nat):Int):=if_pos By
     refine uR ax hc mixed rfl (q:=0) (by kernel_rfl) (by kernel_rfl) fun Aa iU=>?_
     refine Lc m5 ?_
     refine Jh (fi:=[]) (ca:=[.fp (fo p rg mems data) 0]) (ds:=[.agg (dE (nth p.mems k).ad)]) (cu _ (fg.ma k aA)) rfl ?_
     refine Lc m5 ?_
     refine Jh (fi:=[]) (ca:=[.fp (fo p rg mems data) 0]) (ds:=[.agg (dE (nth p.mems k).da)]) (cu _ (fg.md k aA).1) rfl ?_
     refine Lc m5 ?_
     refine iU _ _ (iV _ _ ?_)
     refine jX (ny ·) (ea _ _ ?_)
     refine bA hp ax hc rfl fun IY nf=>?_
     refine ny ?_
     refine nf _ _ ⟨_,_,_,?_,⟨k+1,by omega,rfl,rfl,rfl⟩,?_⟩
     ·first|omega|(simp only[List.length_cons];omega)|(dsimp only;omega)
     ·refine Rt.trans (Rt.fz (id:=5) (l:=(((nth mems k).set (pv p rg mems data (nth p.mems k).ad % (nth p.mems k).words) ((pv p rg mems data (nth p.mems k).da:Nat):Int)).map iD)) rfl) ?_
      refine D8 [0,1,2,7] ?_
      refine Cs ?_
      refine Gi ?_;rw[Yl,hW];simp[iD,je5,je6,FO,DL,gf,gN,←List.map_set,qL (k:=1) (n:=(nth p.mems k).words) (by rw[Nat.mul_one];exact tk2),Pq,c7,av,ov]<;>simp[au,av,ov]
    ·have By:¬pv p rg mems data (nth p.mems k).en=1:=by simp at ht;omega
     have hW:KL p rg mems data k=nth mems k:=if_neg By
     refine bB (iV _ _ ?_)
     refine jX (ny ·) (ea _ _ ?_)
     refine bA hp ax hc rfl fun K32 x5=>?_
     refine ny ?_
     refine x5 _ _ ⟨_,_,_,?_,⟨k+1,by omega,rfl,rfl,rfl⟩,?_⟩
     ·first|omega|(simp only[List.length_cons];omega)|(dsimp only;omega)
     ·refine Rt.trans (Rt.fz (id:=5) (l:=((nth mems k).map iD)) rfl) ?_
      refine D8 [0,1,2,7] ?_
      refine Cs ?_
      refine Gi ?_;rw[Yl,hW];simp[iD,je5,je6,FO,DL,gf,gN,qL (k:=1) (n:=(nth p.mems k).words) (by rw[Nat.mul_one];exact tk),Pq,c7,av,ov]<;>simp[au,av,ov]
  ·have cf:k=p.mems.length:=by simp at ht;omega
   subst cf
   refine cL (cm _ _ ?_)
   refine aj (ny ·) ?_
   refine bh ?_
   try dsimp only[fb,fc]
   refine iH rfl ?_
   simp -dsimp -implicitDefEqProofs (disch:=first|assumption|omega|(simp only[aK,dK,fM,oI,pg]<;>omega)|decide) only[aP,↓reduceIte,Nat.reduceEqDiff,Nat.reduceAdd,D.fix,Int.reduceToNat,Nat.reduceMul,Nat.reduceBNe,Nat.reduceBEq,fo,aD,dE,cg,sD,nS,ai,fH,cB,n9,lA,iy,qf,mJ,iz,vh,dm,oI,pg,Jy,Jx]
   show aC _ _=_
   simp (disch:=first|assumption|omega|(simp only[aK,dK,fM,oI,pg]<;>omega)|decide) only[gF,Nat.reduceAdd,D.fix,↓reduceIte,Nat.reduceEqDiff,fo,aD,dE,cg,sD,nS,ai,fH,cB,n9,lA,iy,qf,mJ,iz,vh,dm,oI,pg]
end
section
def iZ:List AV:=[.d (oD false),.d (.val (.slice none 0 0)),.d (.val (.slice none 0 0)),.d (.val (.slice none 0 0)),.d (.val (.slice none 0 0))]
def k9(p:Pr)(rg:List Nat)(mems:List (List Int))(data:List Nat):ak:=[.cells (au (aD p)),.cells (au [fH rg,ai mems]),.cells iZ,.cells (au ((data.map fun x:Nat=>(x:Int)).map iD)),.cells (au (aD p++[fH rg,ai mems])++[.os 1 3 0 data.length])]
def yld(S:ak)(v:D)(x:AV)(S':ak):Prop:=∃w:D,w=v∧x= .d v∧S'=S
def qy{α:Type}(n k:Nat)(f:Nat→α)(z:α):List α:=(List.range n).map fun i=>if i<k then f i else z
section
variable {α:Type} {n k:Nat} {f:Nat→α} {z:α}
theorem jt3:qy n 0 f z=List.replicate n z:=by
 unfold qy
 apply List.ext_getElem
 ·simp
 ·intro i h1 h2;simp
theorem Fu:qy n n f z=(List.range n).map f:=by
 unfold qy
 exact List.map_congr_left fun i hi=>if_pos (qk.1 hi)
theorem Au:(qy n k f z).length=n:=by simp[qy]
theorem sP:qy n (k+1) f z=(qy n k f z).set k (f k):=by
 unfold qy
 apply List.ext_getElem
 ·simp
 ·intro i h1 h2
  rw[List.getElem_set]
  simp only[List.getElem_map,List.getElem_range]
  by_cases e:k=i
  ·subst e;simp
  ·rw[if_neg e]
   by_cases e2:i<k
   ·rw[if_pos e2,if_pos (by omega)]
   ·rw[if_neg e2,if_neg (by omega)]
theorem LM(h:f k=z):qy n (k+1) f z=qy n k f z:=by
 unfold qy
 refine List.map_congr_left fun i _=>?_
 by_cases e:i=k
 ·subst e;simp[h]
 ·by_cases e2:i<k
  ·rw[if_pos e2,if_pos (by omega)]
  ·rw[if_neg e2,if_neg (by omega)]
theorem jpm[Inhabited α]{i:Nat}(h:i<n):nth (qy n k f z) i=if i<k then f i else z:=by
 unfold qy nth;simp[gp,h]
end
theorem OL{p q:Prop}(hq:q)(h:p=q:=by
 conv=>lhs;simp -dsimp -implicitDefEqProofs (disch:=first|assumption|omega|(simp only[aK]<;>omega)|decide) only[aP,↓reduceIte,Nat.reduceEqDiff,Nat.reduceAdd,D.fix,Int.reduceToNat,Nat.reduceMul,Nat.reduceBNe,Nat.reduceBEq,k9,iZ,aD,dE,cg,sD,nS,ai,fH,List.cons_append,List.nil_append,bw]):p:=h.mpr hq
theorem PB(p:Pr)(q:Bool)(rg:List Nat)(mems:List (List Int))(data:List Nat)(e:Ex)(di:WT (aI p) q e)(h:Dn p q rg mems data e):cM prog [0,1,2,3,4] 81 [.agg ((dE e).map .d),.op 4 0] (k9 p rg mems data) (yld (k9 p rg mems data) (iD (bF (aI p) rg data mems e))):=by
 refine fV (fn:=f81) (by kernel_rfl) func81 rfl (bN rfl) fun c hc hp=>?_
 refine oc ?_
 have h:=h di
 rw[sI]at h
 have tD:dJ ((data.map fun x:Nat=>(x:Int)).map iD) 0 data.length=some ((data.map fun x:Nat=>(x:Int)).map iD):=iN (by simp)
 unfold k9 iZ
 refine aj (OL ·) ?_
 refine bC hp ax hc rfl fun K2 bG=>?_
 refine OL ?_
 refine P0 ((yp4 h)) ?_ ?_
 ·simp (disch:=first|assumption|omega|(simp only[aK]<;>omega)|decide) only[gF,Nat.reduceAdd,D.fix,↓reduceIte,Nat.reduceEqDiff,k9,iZ,aD,dE,cg,sD,nS,ai,fH,List.cons_append,List.nil_append,fo,dE,cg,tD]
 refine OL ?_
 refine bG _ _ ?_
 refine bC hp ax hc rfl fun K3 bS=>?_
 simp -dsimp -implicitDefEqProofs (disch:=first|assumption|omega|(simp only[aK]<;>omega)|decide) only[aP,↓reduceIte,Nat.reduceEqDiff,Nat.reduceAdd,D.fix,Int.reduceToNat,Nat.reduceMul,Nat.reduceBNe,Nat.reduceBEq,k9,iZ,aD,dE,cg,sD,nS,ai,fH,List.cons_append,List.nil_append]
 refine bS _ _ ?_
 refine bI hp (τ':=aG [(3,.d (iD (bF (aI p) rg data mems e)))]) (H':=k9 p rg mems data) ?_ ?_
 ·refine Rt.trans (Rt.gc (keep:=[0,1,2,3,4]) (by decide) (by decide) (by simp[eS,dg])) ?_
  refine Rt.end (by repeat (first|exact bT _|refine bM ?_ (by first|rfl|(simp[aR];done)|simp[aR, *]))) ?_
  first|rfl|(simp only[cD,Nat.reduceAdd,↓reduceIte,Nat.reduceEqDiff,k9,iZ,aD,dE,cg,sD,nS,ai,fH,List.cons_append,List.nil_append];first|done|rfl)
 refine bh ?_
 refine c8 (t:=3) rfl ?_
 show ∃_,_
 exact⟨_,rfl,rfl,rfl⟩
def jc(p:Pr)(s:im)(heads:List Head)(k:Nat):List Nat:=qy p.ae.length k (te p s heads) 0
def rP(p:Pr)(s:im)(k:Nat):List Bool:=qy p.ae.length k (qz p s) false
def D7(p:Pr)(s:im)(heads:List Head)(i:Nat):Head:=if qG p s heads i then⟨true,((jt p s heads (nth p.ao i).da:Nat):Int)⟩else⟨false,0⟩
def uo(p:Pr)(s:im)(heads:List Head)(k:Nat):List Head:=qy p.ao.length k (D7 p s heads) ⟨false,0⟩
theorem Yk{p:Pr}{s:im}{heads:List Head}{rooms:List Bool}(h:qt p s heads rooms):fH (gY s)=av s.ag:=by
 have e:((gY s).map fun x:Nat=>(x:Int))=s.ag:=by
  apply List.ext_getElem
  ·simp[gY]
  ·intro i h1 h2
   have:=(h.rv i (by rw[←h.rl];exact h2)).1
   rw[mS h2]at this
   simp[gY,zn this]
 unfold fH av
 rw[e]
 simp[gY]
theorem yff{p:Pr}{s:im}{heads:List Head}{rooms:List Bool}(h:qt p s heads rooms){i:Nat}(hi:i<p.ae.length):te p s heads i<2^(nth p.ae i).w:=by
 have:=h.hv i hi
 unfold te
 split
 ·have:(((nth heads i).v.toNat:Nat):Int)<((2^(nth p.ae i).w:Nat):Int):=by rw[zn this.1];push_cast;exact this.2
  exact_mod_cast this
 ·exact Nat.two_pow_pos _
theorem Qi{p:Pr}{s:im}{heads:List Head}{rooms:List Bool}(fg:bJ p)(h:qt p s heads rooms)(k:Nat):rK (aI p) (gY s) (jc p s heads k) s.mems:=by
 have h0:=Lr h
 refine⟨h0.r,fun i hi=>?_,h0.ml,h0.wl,h0.m⟩
 have gb:i<p.ae.length:=by simpa[aI]using hi
 rw[zA gb]
 unfold jc
 rw[jpm gb]
 split
 ·exact yff h gb
 ·exact Nat.two_pow_pos _
end
section
def OK(P:Program)(N r:Nat)(al:List Nat)(ρ:Operand→AV)(op:Op)(H:ak)(sh:List (Nat × Nat)):Option (AV × ak × List (Nat × Nat)):=
 match op with
 | .makeSlice t l cp=>(match H[N+r]?,fx P (N+r) ρ (.makeSlice t l cp) H with
  |some .free,some (x,o,none)=>if AN (N+r) sh then some (x,H.set (N+r) o,sh)else none
  |_,_=>none)
 |op=>gr P N r al ρ op H sh
theorem jwy{P:Program}{ρ:Operand→AV}{op:Op}{H:ak}{N r:Nat}{al:List Nat}{sh sh':List (Nat × Nat)}{x:AV}{H':ak}(h:OK P N r al ρ op H sh=some (x,H',sh')){KX:AV→ak→List (Nat × Nat)→Prop}(hK:KX x H' sh'):yN P N r al ρ op H sh KX:=by
 cases op with
 |makeSlice t l cp=>
  simp only[OK]at h
  split at h
  ·rename_i x' o dy hl
   split at h
   ·rename_i hs
    have hs:=P2 hs
    cases h
    simp only[fx]at hl
    split at hl
    ·rename_i s zs b n m hq hn hm
     obtain⟨k1,hn⟩:=vT hn
     obtain⟨k2,hm⟩:=vT hm
     split at hl
     ·rename_i hb
      cases hl
      exact jq4 ⟨dy,hs,(s,zs,b),k1,k2,n,m,hq,hn,hm,hb.1,hb.2.1,hb.2.2.1,hb.2.2.2,hK⟩
     ·cases hl
    ·cases hl
   ·cases h
  ·cases h
 |_=>exact Mq h hK
def cN(P:Program)(KT:TypeId→Bool)(N r:Nat)(fresh:Bool)(m:List (Nat × Nat))(o:Oper)(ρ:Operand→AV)(H:ak)(sh:List (Nat × Nat))(KK:AV→ak→List (Nat × Nat)→Prop):Prop:=
 match o.op with
 | .makeSlice t l cp=>rU (OK P N r (sn m o.after.toList) ρ (.makeSlice t l cp) H sh) fun p=>KK p.1 p.2.1 p.2.2
 |_=>cE P KT N r fresh m o ρ H sh KK
theorem yle{P:Program}{KT:TypeId→Bool}{τ:Fr}{H:ak}(dB:∀k,KT k=true→Maps.Keyed P k){N r:Nat}{fresh:Bool}{m:List (Nat × Nat)}{o:Oper}{sh:List (Nat × Nat)}{K:AV→ak→List (Nat × Nat)→Prop}(h:cN P KT N r fresh m o (aU τ) H sh K):tO P [] N r fresh m o τ H sh K:=by
 unfold cN at h
 split at h
 ·rename_i t l cp e
  obtain⟨⟨x,H',sh'⟩,hl,hK⟩:=h
  have:=jwy hl hK
  unfold tO
  rw[e]
  exact this
 ·exact Pp dB h
def sN(P:Program)(KT:TypeId→Bool)(ops:List Oper)(N:Nat):Nat→Nat→List (Nat × Nat)→List Oper→Fr→ak→List (Nat × Nat)→(Fr→ak→List (Nat × Nat)→Prop)→Prop
 |_,_,_,[],τ,H,sh,K=>K τ H sh
 |i,r,m,o::l,τ,H,sh,K=>GK (kl ops τ o)
   (cN P KT N r (tY ops o) m o (aU τ) H sh fun x H' sh'=>sN P KT ops N (i+1) (if bp [] o then r+1 else r) (if bp [] o then(i,r)::m else m) l (τ.put o.dst x) H' sh' K)
   (sN P KT ops N (i+1) (if bp [] o then r+1 else r) (if bp [] o then(i,r)::m else m) l (τ.put o.dst (.d (.val undef))) H sh K)
theorem OJ{P:Program}{KT:TypeId→Bool}{ops:List Oper}(dB:∀k,KT k=true→Maps.Keyed P k){N:Nat}{K:Fr→ak→List (Nat × Nat)→Prop}:∀{os:List Oper} {i r:Nat} {m:List (Nat × Nat)} {τ:Fr} {H:ak} {sh:List (Nat × Nat)},sN P KT ops N i r m os τ H sh K→A9 P [] ops N i r m os τ H sh K
 |[],_,_,_,_,_,_,h=>h
 |o::os,i,r,m,τ,H,sh,h=>by
  obtain⟨b,hg,ht,hf⟩:=FP h
  exact⟨b,hg,fun e=>Tc (fun x H' sh' hh=>OJ dB hh) (yle dB (ht e)),fun e=>OJ dB (hf e)⟩
theorem F5{P:Program}{KT:TypeId→Bool}{c:Cx}{τ:Fr}{H:ak}{Q:Exit→Fr→ak→Prop}(dB:∀k,KT k=true→Maps.Keyed P k){id:Nat}{l:List Oper}{y:Code}{n:Nat}(hn:c.nt=n)(hm:P.follows .mixedOrders=true)(hd:mh n l=true){q:Nat}(hq:l.countP (bp [])=q)(hB:xD [] l l.length 0 (Array.replicate l.length false)=true)
  (h:∀K:Fr→ak→Prop,(∀τ H,dj P c y Q τ H→K τ H)→sN P KT l H.length 0 0 [] l τ (H++List.replicate q .free) [] fun τ' H' sh'=>K τ' (c6 sh' H')):dj P c (.seq (.region id l.toArray true) y) Q τ H:=
 Sq (fr:=[]) hn hm hd hq hB fun K hK=>OJ dB (h K hK)
section
variable {P:Program} {KT:TypeId→Bool} {ops l:List Oper} {τ:Fr} {H:ak} {sh:List (Nat × Nat)} {N i r:Nat} {m:List (Nat × Nat)} {d:Option Tmp} {ty:TypeId} {pos:String} {af:Array Edge} {KD:Fr→ak→List (Nat × Nat)→Prop}
theorem qI:sN P KT ops N i r m [] τ H sh KD=KD τ H sh:=rfl
theorem qP{t:TypeId}{y:Operand}:sN P KT ops N i r m (⟨d,.load t y,ty,pos,af,none⟩::l) τ H sh KD=(oK (ff P N H t (aU τ y))<|tg fun x=>sN P KT ops N (i+1) r m l (τ.put d x) H sh KD):=rfl
theorem qE{t:TypeId}{y:Operand}{f:Nat}:sN P KT ops N i r m (⟨d,.fieldAddr t y f,ty,pos,af,none⟩::l) τ H sh KD=(oK (dt P t f (aU τ y))<|tg fun x=>sN P KT ops N (i+1) r m l (τ.put d x) H sh KD):=rfl
theorem qU{t:TypeId}{ps:Array (Nat × Operand)}:sN P KT ops N i r m (⟨d,.build t ps,ty,pos,af,none⟩::l) τ H sh KD=(oK (iW P t (ps.toList.map fun p=>(p.1,aU τ p.2)))<|tg fun x=>sN P KT ops N (i+1) r m l (τ.put d x) H sh KD):=rfl
theorem qR{y:Operand}:sN P KT ops N i r m (⟨d,.assign y,ty,pos,af,none⟩::l) τ H sh KD=(sN P KT ops N (i+1) r m l (τ.put d (aU τ y)) H sh KD):=by simp[sN,kl,GK,cN,cE,fW,qg,sU,yy,bp]
theorem qH{args:Array Operand}{ts:Array TypeId}:sN P KT ops N i r m (⟨d,.call ⟨.builtin .len,args,ts⟩,ty,pos,af,none⟩::l) τ H sh KD=(oK (dz P .len ts.toList (args.toList.map (aU τ)))<|tg fun x=>sN P KT ops N (i+1) r m l (τ.put d x) H sh KD):=rfl
theorem qT{t:TypeId}:sN P KT ops N i r m (⟨d,.alloc t,ty,pos,af,none⟩::l) τ H sh KD=(oK (gr P N r (sn m af.toList) (aU τ) (.alloc t) H sh)<|tg fun p=>sN P KT ops N (i+1) (r+1) ((i,r)::m) l (τ.put d p.1) p.2.1 p.2.2 KD):=rfl
theorem qO{t:TypeId}{y z:Operand}:sN P KT ops N i r m (⟨d,.makeSlice t y z,ty,pos,af,none⟩::l) τ H sh KD=(oK (match H[N+r]?,fx P (N+r) (aU τ) (.makeSlice t y z) H with
  |some .free,some (x,o,none)=>if AN (N+r) sh then some (x,H.set (N+r) o,sh)else none
  |_,_=>none)<|tg fun p=>sN P KT ops N (i+1) (r+1) ((i,r)::m) l (τ.put d p.1) p.2.1 p.2.2 KD):=rfl
theorem qS{t:TypeId}{y z:Operand}:sN P KT ops N i r m (⟨d,.store t y z,ty,pos,af,none⟩::l) τ H sh KD=(oK (fN P t (aU τ y) (aU τ z) H sh (if tY ops ⟨d,.store t y z,ty,pos,af,none⟩then N else 0))<|tg fun H'=>sN P KT ops N (i+1) r m l (τ.put d (.d (.val undef))) H' sh KD):=rfl
end
end
def xm:Head:=⟨false,0⟩
def qW(p:Pr)(s:im)(data:List Nat)(x8:Bool)(ot:List Bool)(ao:List Head):ak:=
 k9 p (gY s) s.mems data++[.cells (au (List.replicate p.ae.length (oD false))),.cells (au ((List.replicate p.ao.length xm).flatMap iG)),.cells [.d (oD x8),.d (fH (gY s)),.d (ai s.mems),.os 1 5 0 p.ae.length,.os 2 6 0 p.ao.length],
  .cells (au (ot.map oD)),.cells (au (ao.flatMap iG))]
theorem DR{p:Nat→Bool}:∀{a b:List AV},AV.ah p (a++b)=(AV.ah p a&&AV.ah p b)
 |[],b=>by simp[AV.ah]
 |x::a,b=>by rw[List.cons_append,AV.ah,AV.ah,DR,Bool.and_assoc]
theorem R6{b:Bool}{v:Int}:∀{l:List Head} {k:Nat},k<l.length→((l.flatMap iG).set (k*2) (oD b)).set (k*2+1) (iD v)=(l.set k ⟨b,v⟩).flatMap iG
 |[],k,h=>absurd h (Nat.not_lt_zero _)
 |a::l,0,_=>rfl
 |a::l,k+1,h=>by
  have ih:=R6 (b:=b) (v:=v) (l:=l) (k:=k) (by simpa using h)
  rw[List.flatMap_cons,List.set_cons_succ,List.flatMap_cons,←ih,show(k+1)*2=k*2+1+1 by omega]
  rfl
theorem Yj(m:Nat):(List.replicate m [AV.d (.val (.bool false)),AV.d (.val (.int .i64 0))]).flatten=au ((List.replicate m xm).flatMap iG):=by
 induction m with
 |zero=>rfl
 |succ m ih=>rw[List.replicate_succ,List.flatten_cons,ih,List.replicate_succ,List.flatMap_cons];rfl
theorem jL{p q:Prop}(hq:q)(h:p=q:=by
 conv=>lhs;simp -dsimp -implicitDefEqProofs (disch:=first|assumption|omega|(simp only[aK,dT,dS,ft]<;>omega)|decide) only[aP,↓reduceIte,Nat.reduceEqDiff,Nat.reduceAdd,D.fix,Int.reduceToNat,Nat.reduceMul,Nat.reduceBNe,Nat.reduceBEq,fo,qW,k9,iZ,aD,sD,nS,ai,fH,pk,mb,fZ,lF,kg,eR,List.cons_append,List.nil_append,eT,dm,yo,yn,qI,qP,qE,qU,qR,qH,qO,qT,qS,bw]):p:=h.mpr hq
theorem xC{m:List Nat}{τ τ':Fr}{H H':ak}(h2:H=H')(h:fm τ τ':=by
 repeat (first|exact bT _|refine bM ?_ (by first|rfl|(simp[aR,dT,dS,ft];done)|simp[aR,dT,dS,ft, *]))):Rt m τ H τ' H':=Rt.end h h2
theorem NN{P:Program}{sm:List Nat}{N:Nat}{τ:Fr}{H:ak}{f:FuncId}{fi ca args:List AV}{K0 KK:AV→ak→Prop}{ks:List Nat}(S T:ak)(h:cM P ks f (fi++args++ca) S K0)(hK:∀x S',K0 x S'→S'.length=S.length∧KK x (S'++T))(hH:H=S++T:=by
 rfl) (hm:sm.all (aJ ks S.length)=true:=by
 first|rfl|(simp[AV.ah,AV.allI,bc,bg,bf,aJ,aN,aY,aZ,DR,qW,k9,iZ,aD,fH,ai];done)|(intro o ho;simp at ho;done)) (hτ:∀t,(τ t).allI (aJ ks S.length)=true:=by
 exact fun t=>fU (by first|rfl|(simp[AV.ah,AV.allI,bc,bg,bf,aJ,aN,aY,aZ,DR,qW,k9,iZ,aD,fH,ai];done)|(intro o ho;simp at ho;done)) t) (ha:AV.ah (aN S.length) (fi++args++ca)=true:=by
 first|rfl|(simp[AV.ah,AV.allI,bc,bg,bf,aJ,aN,aY,aZ,DR,qW,k9,iZ,aD,fH,ai];done)|(intro o ho;simp at ho;done)) (hS:∀o∈S,o.allI (aN S.length)=true:=by
 first|rfl|(simp[AV.ah,AV.allI,bc,bg,bf,aJ,aN,aY,aZ,DR,qW,k9,iZ,aD,fH,ai];done)|(intro o ho;simp at ho;done)) (hT:∀o∈T,o.allI (aJ ks S.length)=true:=by
 first|rfl|(simp[AV.ah,AV.allI,bc,bg,bf,aJ,aN,aY,aZ,DR,qW,k9,iZ,aD,fH,ai];done)|(intro o ho;simp at ho;done)):kC P sm N H τ (.dk (.func f) fi ca) args true (tg KK):=Aw h hH hm hτ ha hS hT hK
theorem zx(k:List Nat){m:List Nat}{τ τ1:Fr}{H H1:ak}(h:Rt m (fun t=>c7 k (τ t)) (dg k H) τ1 H1)(a:∀i∈m,k[i]? =some i:=by decide)(b:k.Nodup:=by decide)(c:∀i∈k,i<H.length:=by
 simp[eS,dg]):Rt m τ H τ1 H1:=Rt.trans (Rt.gc a b c) h
theorem EE{p q r:Prop}(e:r)(hq:q)(h:r→p=q:=by
 intro hY
 conv=>lhs;simp -dsimp -implicitDefEqProofs (disch:=first|assumption|omega|(simp only[aK,dT,dS,ft]<;>omega)|decide) only[aP,↓reduceIte,Nat.reduceEqDiff,Nat.reduceAdd,D.fix,Int.reduceToNat,Nat.reduceMul,Nat.reduceBNe,Nat.reduceBEq,fo,qW,k9,iZ,aD,sD,nS,ai,fH,pk,mb,fZ,lF,kg,eR,List.cons_append,List.nil_append,eT,dm,yo,yn,qI,qP,qE,qU,qR,qH,qO,qT,qS,bw,hY]):p:=(h e).mpr hq
theorem Yi{p q:Prop}(hq:q)(h:p=q:=by
 conv=>lhs;simp -dsimp -implicitDefEqProofs (disch:=first|assumption|omega|(simp only[aK,dT,dS,ft]<;>omega)|decide) only[aP,↓reduceIte,Nat.reduceEqDiff,Nat.reduceAdd,D.fix,Int.reduceToNat,Nat.reduceMul,Nat.reduceBNe,Nat.reduceBEq,fo,qW,k9,iZ,aD,sD,nS,ai,fH,pk,mb,fZ,lF,kg,eR,List.cons_append,List.nil_append,eT,dm,yo,yn,qI,qP,qE,qU,qR,qH,qO,qT,qS,DA,I2]):p:=h.mpr hq
theorem yI{p q:Prop}(hq:q)(h:p=q:=by
 conv=>lhs;simp only[cD,Nat.reduceAdd,↓reduceIte,Nat.reduceEqDiff,fo,qW,k9,iZ,aD,sD,nS,ai,fH,pk,mb,fZ,lF,kg,eR,List.cons_append,List.nil_append,eT,dm,yo,yn,qI,qP,qE,qU,qR,qH,qO,qT,qS]):p:=h.mpr hq
theorem WC{p q:Prop}(hq:q)(h:p=q:=by
 conv=>lhs;simp (disch:=first|assumption|omega|(simp only[aK,dT,dS,ft]<;>omega)|decide) only[gF,Nat.reduceAdd,D.fix,↓reduceIte,Nat.reduceEqDiff,fo,qW,k9,iZ,aD,sD,nS,ai,fH,pk,mb,fZ,lF,kg,eR,List.cons_append,List.nil_append,eT,dm,yo,yn,qI,qP,qE,qU,qR,qH,qO,qT,qS]):p:=h.mpr hq
theorem yfj(p:Pr)(fg:bJ p)(s:im)(heads:List Head)(rooms:List Bool)(h:qt p s heads rooms):cC prog 27 [.agg (aD p),.agg [fH (gY s),ai s.mems],eT heads,bn rooms] (.d (.agg (jm (qF p s heads rooms)))):=by
 have Bv:=fg.tl
 have wJ:=fg.ql
 have hhl:=h.hl
 have sf:=h.ol
 refine ez (fn:=f27) (by kernel_rfl) func27 rfl (bN rfl) fun c hc hp=>?_
 refine dG (τ':=aG [(0,.d (.agg (aD p))),(1,.d (.agg [fH (gY s),ai s.mems])),(2,.d (eT heads)),(3,.d (bn rooms))]) (by repeat (first|exact bT _|refine bM ?_ (by first|rfl|(simp[aR,dT,dS,ft];done)|simp[aR,dT,dS,ft, *]))) ?_
 refine aj (jL ·) ?_
 refine F5 ax hc mixed rfl (q:=2) (by kernel_rfl) (by kernel_rfl) fun K2 bG=>?_
 refine jL ?_
 refine bG _ _ ?_
 refine bC hp ax hc rfl fun K3 bS=>?_
 simp -dsimp -implicitDefEqProofs (disch:=first|assumption|omega|(simp only[aK,dT,dS,ft]<;>omega)|decide) only[aP,↓reduceIte,Nat.reduceEqDiff,Nat.reduceAdd,D.fix,Int.reduceToNat,Nat.reduceMul,Nat.reduceBNe,Nat.reduceBEq,fo,qW,k9,iZ,aD,sD,nS,ai,fH,pk,mb,fZ,lF,kg,eR,List.cons_append,List.nil_append,eT,dm,yo,yn,qI,qP,qE,qU,qR,qH,qO,qT,qS]
 refine bS _ _ ?_
 refine F5 ax hc mixed rfl (q:=3) (by kernel_rfl) (by kernel_rfl) fun K4 dD=>?_
 refine jL ?_
 refine dD _ _ ?_
 refine F5 ax hc mixed rfl (q:=2) (by kernel_rfl) (by kernel_rfl) fun K5 fA=>?_
 refine jL ?_
 refine fA _ _ ?_
 refine aH fun K6 cF=>?_
 refine aj (jL ·) ?_
 refine aW ?_
 refine c9 hp (fun τ' H' mm=>∃(k:Nat),(k≤p.ae.length)∧mm=p.ae.length - k∧H'=qW p s (jc p s heads k) (rG p s heads k) (rP p s k) (List.replicate p.ao.length xm)∧τ'=aG [(2,.d (eT heads)),(3,.d (bn rooms)),(4,.op 0 0),(5,.op 1 0),(8,.op 2 0),(9,.op 4 0),(10,.dk (.func 81) [] [.op 4 0]),(11,.op 7 0),(12,.os 1 8 0 p.ae.length),(13,.os 2 9 0 p.ao.length),(46,.d (.fs (p.ae.flatMap oW) p.ae.length)),(47,.d (iD p.ae.length)),(48,.d (iD k))]) (p.ae.length) ?_ ⟨0,cy _,rfl,rfl,rfl⟩ ?_
 ·refine xC ?_
  refine yI ?_;simp[qW,k9,jc,rP,jt3,Au,iZ,iD,oD,rG,Yj,au]
 rintro τ' H' mm ⟨k,hk,rfl,rfl,rfl⟩
 refine aj (jL ·) ?_
 refine aH fun K9 cJ=>?_
 refine aX rfl (fun ht=>?_) (fun ht=>?_)
 ·have aA:k<p.ae.length:=by simp at ht;omega
  have py:(rP p s k).length=p.ae.length:=Au
  have mG:(jc p s heads k).length=p.ae.length:=Au
  have ev:=ON p fg false (gY s) s.mems (jc p s heads k) (Qi fg h k) (by simp[gY,h.rl]) mG (nth p.ae k).wh
  have qp:bF (aI p) (gY s) (jc p s heads k) s.mems (nth p.ae k).wh=bF (aI p) (gY s) [] s.mems (nth p.ae k).wh:=oe _ (fg.tw k aA).1
  refine bB (cJ _ _ ?_)
  refine aH fun kL bU=>?_
  refine aW ?_
  refine aj (jL ·) ?_
  refine aH fun nk cU=>?_
  refine bC hp ax hc rfl fun rN dQ=>?_
  refine jL ?_
  refine NN (k9 p (gY s) s.mems (jc p s heads k)) ([.cells (au (List.replicate p.ae.length (oD false))),.cells (au ((List.replicate p.ao.length xm).flatMap iG)),.cells [.d (oD (rG p s heads k)),.d (fH (gY s)),.d (ai s.mems),.os 1 5 0 p.ae.length,.os 2 6 0 p.ao.length],.cells (au ((rP p s k).map oD)),.cells (au ((List.replicate p.ao.length xm).flatMap iG)),.cells (au (fZ (nth p.ae k)))]) ((PB p false (gY s) s.mems (jc p s heads k) _ (fg.tw k aA).1 ev)) ?_
  rintro _ _ ⟨_,rfl,rfl,rfl⟩
  refine⟨rfl,?_⟩
  refine jL ?_
  refine dQ _ _ ?_
  refine aX rfl (fun ht=>?_) (fun ht=>?_)
  ·have na:qz p s k=false:=decide_eq_false (by rw[←qp];intro e;rw[e]at ht;simp at ht)
   have hD:jc p s heads (k+1)=jc p s heads k:=LM (by simp[te,na])
   have hP:rP p s (k+1)=rP p s k:=LM na
   have hF:rG p s heads (k+1)=rG p s heads k:=by rw[rG,na];simp
   refine cL (bU _ _ ?_)
   refine bA hp ax hc rfl fun rM dI=>?_
   refine jL ?_
   refine dI _ _ ⟨_,_,_,?_,⟨k+1,by omega,rfl,rfl,rfl⟩,?_⟩
   ·first|omega|(simp only[List.length_cons];omega)|(dsimp only;omega)
   ·refine zx [0,1,2,3,4,5,6,7,8,9] ?_
    refine xC ?_
    refine yI ?_;simp[hD,hP,hF,iD,oD]
  ·have na:qz p s k=true:=decide_eq_true (by rw[←qp];simp at ht;omega)
   have hP:rP p s (k+1)=(rP p s k).set k true:=by rw[←na];exact sP
   refine bB (cU _ _ ?_)
   refine aj (jL ·) ?_
   refine aH fun pM df=>?_
   refine aj (jL ·) ?_
   refine aX rfl (fun ht=>?_) (fun ht=>?_)
   ·have hH:(nth heads k).has=true:=ht
    have hhv:=(h.hv k aA).1
    have hV:((te p s heads k:Nat):Int)=(nth heads k).v:=by unfold te;rw[na,hH];simp[zn hhv]
    have hD:(jc p s heads (k+1)).map (fun x:Nat=>(x:Int))=((jc p s heads k).map fun x:Nat=>(x:Int)).set k (nth heads k).v:=by
     rw[show jc p s heads (k+1)=(jc p s heads k).set k (te p s heads k) from sP,List.map_set,hV]
    have hDl:(jc p s heads (k+1)).length=p.ae.length:=Au
    have hF:rG p s heads (k+1)=rG p s heads k:=by rw[rG,na,hH];simp
    refine uR ax hc mixed rfl (q:=0) (by kernel_rfl) (by kernel_rfl) fun ye fP=>?_
    refine jL ?_
    refine fP _ _ (df _ _ ?_)
    refine bA hp ax hc rfl fun wT fC=>?_
    rcases tf (rG p s heads k)with q|q
    ·refine EE (aL q hH) ?_
     refine fC _ _ (bU _ _ ?_)
     refine bA hp ax hc rfl fun uK eG=>?_
     refine jL ?_
     refine eG _ _ ⟨_,_,_,?_,⟨k+1,by omega,rfl,rfl,rfl⟩,?_⟩
     ·first|omega|(simp only[List.length_cons];omega)|(dsimp only;omega)
     ·refine zx [0,1,2,3,4,5,6,7,8,9] ?_
      refine xC ?_
      refine yI ?_;simp[hD,hDl,mG,hP,hF,q,iD,oD]
    ·refine EE (aL q hH) ?_
     refine fC _ _ (bU _ _ ?_)
     refine bA hp ax hc rfl fun yU ib=>?_
     refine jL ?_
     refine ib _ _ ⟨_,_,_,?_,⟨k+1,by omega,rfl,rfl,rfl⟩,?_⟩
     ·first|omega|(simp only[List.length_cons];omega)|(dsimp only;omega)
     ·refine zx [0,1,2,3,4,5,6,7,8,9] ?_
      refine xC ?_
      refine yI ?_;simp[hD,hDl,mG,hP,hF,q,iD,oD]
   ·have hH:(nth heads k).has=false:=ht
    have hD:jc p s heads (k+1)=jc p s heads k:=LM (by simp[te,hH])
    have hF:rG p s heads (k+1)=false:=by rw[rG,na,hH];simp
    refine bB (df _ _ ?_)
    refine bA hp ax hc rfl fun wS fB=>?_
    rcases tf (rG p s heads k)with q|q
    ·refine EE (aL q hH) ?_
     refine fB _ _ (bU _ _ ?_)
     refine bA hp ax hc rfl fun yd gw=>?_
     refine jL ?_
     refine gw _ _ ⟨_,_,_,?_,⟨k+1,by omega,rfl,rfl,rfl⟩,?_⟩
     ·first|omega|(simp only[List.length_cons];omega)|(dsimp only;omega)
     ·refine zx [0,1,2,3,4,5,6,7,8,9] ?_
      refine xC ?_
      refine yI ?_;simp[hD,hP,hF,q,iD,oD]
    ·refine EE (aL q hH) ?_
     refine fB _ _ (bU _ _ ?_)
     refine bA hp ax hc rfl fun BL iF=>?_
     refine jL ?_
     refine iF _ _ ⟨_,_,_,?_,⟨k+1,by omega,rfl,rfl,rfl⟩,?_⟩
     ·first|omega|(simp only[List.length_cons];omega)|(dsimp only;omega)
     ·refine zx [0,1,2,3,4,5,6,7,8,9] ?_
      refine xC ?_
      refine yI ?_;simp[hD,hP,hF,q,iD,oD]
 ·have cf:k=p.ae.length:=by simp at ht;omega
  subst cf
  have vC:jc p s heads p.ae.length=Gq p s heads:=Fu
  have mG:(jc p s heads p.ae.length).length=p.ae.length:=Au
  refine cL (cF _ _ ?_)
  refine aH fun BK jn=>?_
  refine aj (jL ·) ?_
  refine aW ?_
  refine c9 hp (fun τ' H' mm=>∃(j:Nat),(j≤p.ao.length)∧mm=p.ao.length - j∧H'=qW p s (jc p s heads p.ae.length) (oB p s heads rooms j) (rP p s p.ae.length) (uo p s heads j)∧τ'=aG [(3,.d (bn rooms)),(4,.op 0 0),(5,.op 1 0),(8,.op 2 0),(9,.op 4 0),(10,.dk (.func 81) [] [.op 4 0]),(11,.op 7 0),(12,.os 1 8 0 p.ae.length),(13,.os 2 9 0 p.ao.length),(88,.d (.fs (p.ao.flatMap sb) p.ao.length)),(89,.d (iD p.ao.length)),(90,.d (iD j))]) (p.ao.length) ?_ ⟨0,cy _,rfl,rfl,rfl⟩ ?_
  ·refine xC ?_
   refine yI ?_;simp[qW,k9,uo,jt3,iZ,iD,oD,oB,xm]
  rintro τ' H' mm ⟨j,hj,rfl,rfl,rfl⟩
  refine aj (jL ·) ?_
  refine aH fun Aa iU=>?_
  refine aX rfl (fun ht=>?_) (fun ht=>?_)
  ·have L3:j<p.ao.length:=by simp at ht;omega
   have wI:(uo p s heads j).length=p.ao.length:=Au
   have ev:∀e,Dn p true (gY s) s.mems (jc p s heads p.ae.length) e:=ON p fg true (gY s) s.mems (jc p s heads p.ae.length) (Qi fg h _) (by simp[gY,h.rl]) mG
   refine bB (iU _ _ ?_)
   refine aH fun BJ iT=>?_
   refine aW ?_
   refine aj (jL ·) ?_
   refine aH fun IX l6=>?_
   refine bC hp ax hc rfl fun K32 x5=>?_
   refine jL ?_
   refine NN (k9 p (gY s) s.mems (jc p s heads p.ae.length)) ([.cells (au (List.replicate p.ae.length (oD false))),.cells (au ((List.replicate p.ao.length xm).flatMap iG)),.cells [.d (oD (oB p s heads rooms j)),.d (fH (gY s)),.d (ai s.mems),.os 1 5 0 p.ae.length,.os 2 6 0 p.ao.length],.cells (au ((rP p s p.ae.length).map oD)),.cells (au ((uo p s heads j).flatMap iG)),.cells (au (eR (nth p.ao j)))]) ((PB p true (gY s) s.mems (jc p s heads p.ae.length) _ (fg.qw j L3).1 (ev _))) ?_
   rintro _ _ ⟨_,rfl,rfl,rfl⟩
   refine⟨rfl,?_⟩
   refine jL ?_
   refine x5 _ _ ?_
   refine aX rfl (fun ht=>?_) (fun ht=>?_)
   ·have CX:qG p s heads j=false:=decide_eq_false (by rw[jt,←vC];intro e;rw[e]at ht;simp at ht)
    have hQ:uo p s heads (j+1)=uo p s heads j:=LM (by simp[D7,CX])
    have hF:oB p s heads rooms (j+1)=oB p s heads rooms j:=by rw[oB,CX];simp
    refine cL (iT _ _ ?_)
    refine bA hp ax hc rfl fun IW nc=>?_
    refine jL ?_
    refine nc _ _ ⟨_,_,_,?_,⟨j+1,by omega,rfl,rfl,rfl⟩,?_⟩
    ·first|omega|(simp only[List.length_cons];omega)|(dsimp only;omega)
    ·refine zx [0,1,2,3,4,5,6,7,8,9] ?_
     refine xC ?_
     refine yI ?_;simp[hQ,hF,iD,oD]
   ·have CX:qG p s heads j=true:=decide_eq_true (by rw[jt,←vC];simp at ht;omega)
    have E4:D7 p s heads j=⟨true,((bF (aI p) (gY s) (jc p s heads p.ae.length) s.mems (nth p.ao j).da:Nat):Int)⟩:=by unfold D7;rw[CX,jt,vC];rfl
    have CR:(((uo p s heads j).flatMap iG).set (j*2) (oD true)).set (j*2+1) (iD ((bF (aI p) (gY s) (jc p s heads p.ae.length) s.mems (nth p.ao j).da:Nat):Int))=(uo p s heads (j+1)).flatMap iG:=by
     rw[R6 (by omega),←E4];exact congrArg _ sP.symm
    simp only[oD,iD]at CR
    have hF:oB p s heads rooms (j+1)=(oB p s heads rooms j&&nth rooms j):=by rw[oB,CX];simp
    refine bB (l6 _ _ ?_)
    refine bC hp ax hc rfl fun Mh pD=>?_
    refine jL ?_
    refine NN (k9 p (gY s) s.mems (jc p s heads p.ae.length)) ([.cells (au (List.replicate p.ae.length (oD false))),.cells (au ((List.replicate p.ao.length xm).flatMap iG)),.cells [.d (oD (oB p s heads rooms j)),.d (fH (gY s)),.d (ai s.mems),.os 1 5 0 p.ae.length,.os 2 6 0 p.ao.length],.cells (au ((rP p s p.ae.length).map oD)),.cells (au ((uo p s heads j).flatMap iG)),.cells (au (eR (nth p.ao j)))]) ((PB p true (gY s) s.mems (jc p s heads p.ae.length) _ (fg.qd j L3).1 (ev _))) ?_
    rintro _ _ ⟨_,rfl,rfl,rfl⟩
    refine⟨rfl,?_⟩
    refine jL ?_
    refine pD _ _ ?_
    refine bA hp ax hc rfl fun Dm jT=>?_
    rcases tf (oB p s heads rooms j)with q|q
    ·refine EE q ?_
     refine jT _ _ (iT _ _ ?_)
     refine bA hp ax hc rfl fun K36 x4=>?_
     refine jL ?_
     refine x4 _ _ ⟨_,_,_,?_,⟨j+1,by omega,rfl,rfl,rfl⟩,?_⟩
     ·first|omega|(simp only[List.length_cons];omega)|(dsimp only;omega)
     ·refine zx [0,1,2,3,4,5,6,7,8,9] ?_
      refine xC ?_
      refine yI ?_;simp[CR,hF,q,iD,oD]
    ·refine EE q ?_
     refine jT _ _ (iT _ _ ?_)
     refine bA hp ax hc rfl fun R2 tC=>?_
     refine jL ?_
     refine tC _ _ ⟨_,_,_,?_,⟨j+1,by omega,rfl,rfl,rfl⟩,?_⟩
     ·first|omega|(simp only[List.length_cons];omega)|(dsimp only;omega)
     ·refine zx [0,1,2,3,4,5,6,7,8,9] ?_
      refine xC ?_
      refine yI ?_;simp[CR,hF,q,iD,oD]
  ·have wL:j=p.ao.length:=by simp at ht;omega
   subst wL
   have py:(rP p s p.ae.length).length=p.ae.length:=Au
   have wI:(uo p s heads p.ao.length).length=p.ao.length:=Au
   have tDD:dJ (((jc p s heads p.ae.length).map fun x:Nat=>(x:Int)).map iD) 0 (jc p s heads p.ae.length).length=some (((jc p s heads p.ae.length).map fun x:Nat=>(x:Int)).map iD):=iN (by simp)
   have wH:=Yk h
   simp only[fH,av]at wH
   refine cL (jn _ _ ?_)
   refine aH fun K38 x3=>?_
   refine aj (jL ·) ?_
   refine aX rfl (fun ht=>?_) (fun ht=>?_)
   ·refine aj (jL ·) ?_
    refine bh ?_
    try dsimp only[fb,fc]
    refine iH rfl ?_
    refine Yi ?_
    show aC _ _=_
    refine WC ?_
    first
    |(have e1:jM p s heads rooms=false:=(by(have:=ht;simpa[jM]using this));rw[qF,e1];simp[jm,DM,bn,av,ai,eT,oD,D.fix,xm,show oB p s heads rooms p.ao.length=false from e1];simpa using wH)
    |(have e1:jM p s heads rooms=true:=(by(have:=ht;simpa[jM]using this));have eP:rP p s p.ae.length=(List.range p.ae.length).map (fun i=>qz p s i):=Fu;have eQ:uo p s heads p.ao.length=(List.range p.ao.length).map (D7 p s heads):=Fu;rw[qF,if_pos e1,eP,eQ,vC];simp only[jm,DM,bn,av,ai,eT,show oB p s heads rooms p.ao.length=true from e1,List.length_map,List.length_range,oI,pg];rfl)
   ·refine bB (x3 _ _ ?_)
    refine aj (jL ·) ?_
    refine bI hp (τ':=aG [(8,.op 0 0),(9,.d (.fp (fo p (gY s) s.mems (jc p s heads p.ae.length)) 0)),(10,.dk (.func 81) [] [.d (.fp (fo p (gY s) s.mems (jc p s heads p.ae.length)) 0)]),(11,.op 1 0)]) (H':=[.cells iZ,.cells [.d (oD (oB p s heads rooms p.ao.length)),.d (fH (gY s)),.d (ai s.mems),.os 1 2 0 p.ae.length,.os 2 3 0 p.ao.length],.cells (au ((rP p s p.ae.length).map oD)),.cells (au ((uo p s heads p.ao.length).flatMap iG))]) ?_ ?_
    ·refine Rt.trans (Rt.fz (id:=3) (l:=(((jc p s heads p.ae.length).map fun x:Nat=>(x:Int)).map iD)) rfl) ?_
     refine Rt.trans (Rt.heap (H':=[.cells (au (aD p)),.cells (au [fH (gY s),ai s.mems]),.cells iZ,.dead,.cells (au (fo p (gY s) s.mems (jc p s heads p.ae.length))),.cells (au (List.replicate p.ae.length (oD false))),.cells (au ((List.replicate p.ao.length xm).flatMap iG)),.cells [.d (oD (oB p s heads rooms p.ao.length)),.d (fH (gY s)),.d (ai s.mems),.os 1 8 0 p.ae.length,.os 2 9 0 p.ao.length],.cells (au ((rP p s p.ae.length).map oD)),.cells (au ((uo p s heads p.ao.length).flatMap iG))]) (by simp only[cD,Nat.reduceAdd,↓reduceIte,Nat.reduceEqDiff,fo,qW,k9,iZ,aD,sD,nS,ai,fH,pk,mb,fZ,lF,kg,eR,List.cons_append,List.nil_append,eT,dm,yo,yn,qI,qP,qE,qU,qR,qH,qO,qT,qS,fo,tDD];first|done|rfl)) ?_
     refine Rt.trans (Rt.fz (id:=4) (l:=(fo p (gY s) s.mems (jc p s heads p.ae.length))) rfl) ?_
     refine zx [2,7,8,9] ?_
     refine xC ?_
     first|rfl|(simp only[cD,Nat.reduceAdd,↓reduceIte,Nat.reduceEqDiff,fo,qW,k9,iZ,aD,sD,nS,ai,fH,pk,mb,fZ,lF,kg,eR,List.cons_append,List.nil_append,eT,dm,yo,yn,qI,qP,qE,qU,qR,qH,qO,qT,qS];first|done|rfl)
    refine bC hp ax hc rfl fun R1 tB=>?_
    refine jL ?_
    refine cQ (yfd p fg (gY s) s.mems (jc p s heads p.ae.length) (Qi fg h _) (by simp[gY,h.rl]) mG) rfl ?_
    refine jL ?_
    refine tB _ _ ?_
    refine aj (jL ·) ?_
    refine bh ?_
    try dsimp only[fb,fc]
    refine iH rfl ?_
    refine Yi ?_
    show aC _ _=_
    refine WC ?_
    first
    |(have e1:jM p s heads rooms=false:=(by(have:=ht;simpa[jM]using this));rw[qF,e1];simp[jm,DM,bn,av,ai,eT,oD,D.fix,xm,show oB p s heads rooms p.ao.length=false from e1];simpa using wH)
    |(have e1:jM p s heads rooms=true:=(by(have:=ht;simpa[jM]using this));have eP:rP p s p.ae.length=(List.range p.ae.length).map (fun i=>qz p s i):=Fu;have eQ:uo p s heads p.ao.length=(List.range p.ao.length).map (D7 p s heads):=Fu;rw[qF,if_pos e1,eP,eQ,vC];simp only[jm,DM,bn,av,ai,eT,show oB p s heads rooms p.ao.length=true from e1,List.length_map,List.length_range,oI,pg];rfl)
end Go.Proofs.YtapjobndmmkanaaGreat
