/- Processes that bytes describe, as processes. -/
import Derived.Test.YtapjobndmmkanaaGreatVi
import Derived.Test.YtapjobndmmkanaaGreatOk
import Derived.Test.YtapjobndmmkanaaGreatVb
import Derived.Test.YtapjobndmmkanaaGreatOe
import Derived.Test.YtapjobndmmkanaaGreatVd
import Derived.Test.YtapjobndmmkanaaGreatQr
import Derived.Test.YtapjobndmmkanaaGreatVa
set_option linter.unusedVariables false
set_option linter.unusedSimpArgs false
namespace Go.Proofs.YtapjobndmmkanaaGreat
open Go.Proofs.Tryz
open Go Go.RowKit
section
def lH(r:ly):List D:=[sD r.name,iD r.w,iD r.init]++(bW r.next++[iD r.rk,sD r.rf,iD r.rn])
def oX(m:nj):List D:=[sD m.name,iD m.w,iD m.words]++(bW m.en++(bW m.ad++(bW m.da++[iD m.rk,sD m.rf,iD m.rn])))
def oW(t:jD):List D:=[iD t.chan,iD t.w]++bW t.wh
def sb(q:ni):List D:=[iD q.chan,iD q.w]++(bW q.wh++bW q.da)
def aD(p:Pr):List D:=[sD p.name,sD p.clock,.fs (p.ag.flatMap lH) p.ag.length,.fs (p.mems.flatMap oX) p.mems.length,.fs (p.ae.flatMap oW) p.ae.length,.fs (p.ao.flatMap sb) p.ao.length]
def cv(p:Pr):D:=.agg (aD p)
theorem CK(e:Ex):(bW e).length=7:=by cases e<;>rfl
theorem lA(r:ly):(lH r).length=13:=by simp[lH,CK]
theorem mJ(m:nj):(oX m).length=27:=by simp[oX,CK]
theorem mb(t:jD):(oW t).length=9:=by simp[oW,CK]
theorem kg(q:ni):(sb q).length=16:=by simp[sb,CK]
theorem dK{l:List ly}:(l.flatMap lH).length=l.length*13:=pq lA l
theorem fM{l:List nj}:(l.flatMap oX).length=l.length*27:=pq mJ l
theorem dT{l:List jD}:(l.flatMap oW).length=l.length*9:=pq mb l
theorem dS{l:List ni}:(l.flatMap sb).length=l.length*16:=pq kg l
def DW(r:RG):ly:=⟨r.name,r.w,r.init,r.nx.getD default,r.rk,r.rf,r.rn⟩
def zm(m:MG):nj:=⟨m.name,m.w,m.words,m.en.getD default,m.ad.getD default,m.da.getD default,m.rk,m.rf,m.rn⟩
def GF(t:TG):jD:=⟨t.chan,t.w,t.wh.getD default⟩
def toQ(q:QG):ni:=⟨q.chan,q.w,q.wh.getD default,q.da.getD default⟩
theorem FV{α β:Type}[Inhabited α]{f:α→List D}{g:β→List D}{t:α→β}:∀{l:List α},(∀k,k<l.length→f (nth l k)=g (t (nth l k)))→l.flatMap f=(l.map t).flatMap g
 |[],_=>rfl
 |a::l,h=>by
  rw[List.flatMap_cons,List.map_cons,List.flatMap_cons,FV (l:=l) (fun k hk=>h (k+1) (by simpa using hk))]
  exact congrArg (·++_) (h 0 (by simp))
structure fD (p:Pr):Prop where
 ok:bJ p
 cost:qB p≤491
 ins:(dN p).length≤17
 r1:1≤p.ag.length
 r3:p.ag.length≤3
 t2:p.ae.length≤2
 q2:p.ao.length≤2
 m1:p.mems.length≤1
 rw:∀i,i<p.ag.length→1≤(nth p.ag i).w∧(nth p.ag i).w≤3
 tw:∀i,i<p.ae.length→1≤(nth p.ae i).w∧(nth p.ae i).w≤2
 qw:∀i,i<p.ao.length→1≤(nth p.ao i).w∧(nth p.ao i).w≤2
 mw:∀i,i<p.mems.length→1≤(nth p.mems i).w∧(nth p.mems i).w≤2∧((nth p.mems i).words=1∨(nth p.mems i).words=2∨(nth p.mems i).words=4)
 rn:∀i,i<p.ag.length→(nth p.ag i).name.size≤9
 mn:∀i,i<p.mems.length→(nth p.mems i).name.size≤9
def wx(rs:List RG)(ms:List MG)(ts:List TG)(qs:List QG):Pr:=⟨⟨#[112]⟩,⟨#[97]⟩,rs.map DW,ms.map zm,ts.map GF,qs.map toQ⟩
section
variable {rw tw:List Nat} {mw:List (Nat × Nat)} {rs:List RG} {ms:List MG} {ts:List TG} {qs:List QG}
theorem Ph(h:vH rw tw mw rs ms ts qs):aI (wx rs ms ts qs)=kq rw tw mw:=by
 unfold aI wx kq
 simp only[List.map_map]
 rw[←h.rl,←h.tl,←h.ml]
 rfl
theorem jo4(h:vH rw tw mw rs ms ts qs):Ot rs ms ts qs=aD (wx rs ms ts qs):=by
 unfold Ot aD wx
 simp only[List.length_map]
 rw[FV (l:=rs) (g:=lH) (t:=DW) fun k hk=>by
   obtain⟨e,he,_⟩:=h.r k hk
   simp[iw,lH,DW,he,kp],
  FV (l:=ms) (g:=oX) (t:=zm) fun k hk=>by
   obtain⟨e,a,d,h1,h2,h3,_⟩:=h.m k hk
   simp[jP,oX,zm,h1,h2,h3,kp],
  FV (l:=ts) (g:=oW) (t:=GF) fun k hk=>by
   obtain⟨e,he,_⟩:=h.t k hk
   simp[jg,oW,GF,he,kp],
  FV (l:=qs) (g:=sb) (t:=toQ) fun k hk=>by
   obtain⟨e,d,h1,h2,_⟩:=h.q k hk
   simp[jh,sb,toQ,h1,h2,kp]]
theorem NY(h:vH rw tw mw rs ms ts qs){i:Nat}(hi:i<rs.length):Fit (kq rw tw mw) true (DW (nth rs i)).w (if i=0 then 128 else 32) (DW (nth rs i)).next:=by
 obtain⟨e,he,hf⟩:=h.r i hi
 unfold DW
 rw[he];exact hf
theorem NX(h:vH rw tw mw rs ms ts qs){i:Nat}(hi:i<ts.length):Fit (kq rw tw mw) false 1 32 (GF (nth ts i)).wh:=by
 obtain⟨e,he,hf⟩:=h.t i hi
 unfold GF
 rw[he];exact hf
theorem Ea(h:vH rw tw mw rs ms ts qs){i:Nat}(hi:i<qs.length):Fit (kq rw tw mw) true 1 32 (toQ (nth qs i)).wh∧Fit (kq rw tw mw) true (toQ (nth qs i)).w 32 (toQ (nth qs i)).da:=by
 obtain⟨e,d,h1,h2,h3,h4⟩:=h.q i hi
 unfold toQ
 rw[h1,h2];exact⟨h3,h4⟩
theorem D9(h:vH rw tw mw rs ms ts qs){i:Nat}(hi:i<ms.length):Fit (kq rw tw mw) true 1 32 (zm (nth ms i)).en∧(WT (kq rw tw mw) true (zm (nth ms i)).ad∧bQ (kq rw tw mw) (zm (nth ms i)).ad=0)∧Fit (kq rw tw mw) true (zm (nth ms i)).w 32 (zm (nth ms i)).da:=by
 obtain⟨e,a,d,h1,h2,h3,h4,h5,h6,h7⟩:=h.m i hi
 unfold zm
 rw[h1,h2,h3];exact⟨h4,⟨h5,h6⟩,h7⟩
theorem jv6(h:vH rw tw mw rs ms ts qs):1≤rs.length∧rs.length≤3∧ts.length≤2∧qs.length≤2∧ms.length≤1:=by
 have e1:=congrArg List.length h.rl;have e2:=congrArg List.length h.tl;have e3:=congrArg List.length h.ml
 simp only[List.length_map]at e1 e2 e3
 have:=h.wd.r1;have:=h.wd.r3;have:=h.wd.t2;have:=h.wd.m1;have:=h.q2
 omega
theorem Yz(h:vH rw tw mw rs ms ts qs){i:Nat}(hi:i<rs.length):1≤(nth rs i).w∧(nth rs i).w≤3:=by
 have:=FA h.rl hi
 rw[←this.2];exact h.wd.r _ (my this.1)
theorem Yy(h:vH rw tw mw rs ms ts qs){i:Nat}(hi:i<ts.length):1≤(nth ts i).w∧(nth ts i).w≤2:=by
 have:=FA h.tl hi
 rw[←this.2];exact h.wd.t _ (my this.1)
theorem ykh(h:vH rw tw mw rs ms ts qs){i:Nat}(hi:i<ms.length):1≤(nth ms i).w∧(nth ms i).w≤2∧((nth ms i).words=1∨(nth ms i).words=2∨(nth ms i).words=4):=by
 have h1:i<mw.length∧nth mw i=((nth ms i).words,(nth ms i).w):=by rw[←h.ml];exact⟨by simpa using hi,vZ hi⟩
 have:=h.wd.m _ (my h1.1)
 rw[h1.2]at this
 exact⟨this.2.1,this.2.2,this.1⟩
structure Bd (p:Pr):Prop where
 t:∀i,i<p.ae.length→bQ (aI p) (nth p.ae i).wh≤32∧(nth p.ae i).w≤2
 q:∀i,i<p.ao.length→bQ (aI p) (nth p.ao i).wh≤32∧bQ (aI p) (nth p.ao i).da≤32∧(nth p.ao i).w≤2
 r:∀i,i<p.ag.length→bQ (aI p) (nth p.ag i).next≤(if i=0 then 128 else 32)∧(nth p.ag i).w≤3
 m:∀i,i<p.mems.length→bQ (aI p) (nth p.mems i).en≤32∧bQ (aI p) (nth p.mems i).ad=0∧bQ (aI p) (nth p.mems i).da≤32
theorem W3{p:Pr}(h:Bd p):∀k,k≤p.ae.length→x9 p k≤34*k
 |0,_=>by simp[x9]
 |k+1,hk=>by have:=W3 h k (by omega);have:=h.t k (by omega);rw[x9];omega
theorem NW{p:Pr}(h:Bd p):∀k,k≤p.ao.length→wP p k≤34*p.ae.length+32*k
 |0,_=>by have:=W3 h _ (bm _);rw[wP];omega
 |k+1,hk=>by have:=NW h k (by omega);have:=h.q k (by omega);rw[wP];omega
theorem W2{p:Pr}(h:Bd p):∀k,k≤p.ag.length→pG p k≤37*p.ae.length+35*p.ao.length+38*k+96
 |0,_=>by have:=NW h _ (bm _);rw[pG];omega
 |k+1,hk=>by
  have:=W2 h k (by omega);have h2:=h.r k (by omega);rw[pG]
  by_cases e:k=0
  ·subst e
   have:=NW h _ (bm _)
   rw[if_pos rfl]at h2;rw[pG];omega
  ·rw[if_neg e]at h2;omega
theorem W1{p:Pr}(h:Bd p):∀k,k≤p.ao.length→wO p k≤38*p.ae.length+35*p.ao.length+38*p.ag.length+96+35*k
 |0,_=>by have:=W2 h _ (bm _);rw[wO];omega
 |k+1,hk=>by have:=W1 h k (by omega);have:=h.q k (by omega);rw[wO];omega
theorem W0{p:Pr}(h:Bd p):∀k,k≤p.mems.length→wQ p k≤38*p.ae.length+70*p.ao.length+38*p.ag.length+96+65*k
 |0,_=>by have:=W1 h _ (bm _);rw[wQ];omega
 |k+1,hk=>by have:=W0 h k (by omega);have:=h.m k (by omega);rw[wQ];omega
theorem WZ{p:Pr}(h:Bd p):∀k,k≤p.ag.length→(eW p k).length≤3*k
 |0,_=>by simp[eW]
 |k+1,hk=>by have:=WZ h k (by omega);have:=h.r k (by omega);rw[eW,List.length_append,cX];omega
theorem WY{p:Pr}(h:Bd p):∀k,k≤p.ae.length→(eJ p k).length≤3*p.ag.length+3*k
 |0,_=>by have:=WZ h _ (bm _);rw[eJ];omega
 |k+1,hk=>by have:=WY h k (by omega);have:=h.t k (by omega);rw[eJ,List.length_append,List.length_append,cX,cX];omega
theorem WX{p:Pr}(h:Bd p):∀k,k≤p.ao.length→(fq p k).length≤3*p.ag.length+3*p.ae.length+k
 |0,_=>by have:=WY h _ (bm _);rw[fq];omega
 |k+1,hk=>by have:=WX h k (by omega);rw[fq,List.length_append,cX];omega
theorem ykj(h:vH rw tw mw rs ms ts qs):Bd (wx rs ms ts qs):=by
 refine⟨fun i hi=>?_,fun i hi=>?_,fun i hi=>?_,fun i hi=>?_⟩<;>rw[Ph h]<;>simp only[wx,List.length_map]at hi ⊢<;>rw[vZ hi]
 ·exact⟨(NX h hi).n,(Yy h hi).2⟩
 ·exact⟨(Ea h hi).1.n,(Ea h hi).2.n,(h.qw i hi).2⟩
 ·exact⟨(NY h hi).n,(Yz h hi).2⟩
 ·have:=D9 h hi
  exact⟨this.1.n,this.2.1.2,this.2.2.n⟩
theorem jv7(h:vH rw tw mw rs ms ts qs):fD (wx rs ms ts qs):=by
 obtain⟨l1,l2,l3,l4,l5⟩:=jv6 h
 have hb:=ykj h
 have hc:qB (wx rs ms ts qs)≤491:=by
  have:=W0 hb _ (bm _)
  unfold qB
  simp only[wx,List.length_map]at this ⊢
  omega
 refine⟨⟨by rw[Ph h];exact h.wd.ct,fun i hi=>?_,fun i hi=>?_,fun i hi=>?_,fun i hi=>?_,fun i hi=>?_,fun i hi=>?_,fun i hi=>?_,fun i hi=>?_,?_,?_,?_,by omega⟩,hc,?_,?_,?_,?_,?_,?_,fun i hi=>?_,fun i hi=>?_,fun i hi=>?_,fun i hi=>?_,fun i hi=>?_,fun i hi=>?_⟩
 any_goals rw[Ph h]
 any_goals (simp only[wx,List.length_map]at hi ⊢;rw[vZ hi])
 any_goals (simp only[wx,List.length_map];omega)
 ·exact⟨(NX h hi).t,(NX h hi).w⟩
 ·exact⟨(NY h hi).t,(NY h hi).w⟩
 ·exact⟨(Ea h hi).1.t,(Ea h hi).1.w⟩
 ·exact⟨(Ea h hi).2.t,(Ea h hi).2.w⟩
 ·have:=h.qw i hi
  exact⟨this.1,by show(nth qs i).w≤8;omega⟩
 ·exact⟨(D9 h hi).1.t,(D9 h hi).1.w⟩
 ·exact(D9 h hi).2.1.1
 ·exact⟨(D9 h hi).2.2.t,(D9 h hi).2.2.w⟩
 ·have:=WX hb _ (bm _)
  unfold dN
  simp only[wx,List.length_map]at this ⊢
  omega
 ·exact Yz h hi
 ·exact Yy h hi
 ·exact h.qw i hi
 ·exact ykh h hi
 ·exact h.nr _ (kV.2 ⟨_,my hi,rfl⟩)
 ·exact h.nm _ (kV.2 ⟨_,my hi,rfl⟩)
end
theorem jab{P:Program}{f:FuncId}{ds:List D}{Q Q':AV→Prop}(h:tV P f ds Q)(hq:∀r,Q r→Q' r):tV P f ds Q':=
 ⟨h.1,fun w O vals h1 h2 h3=>(h.2 w O vals h1 h2 h3).mono fun e w' ⟨v,r,he,hr,h4,h5⟩=>⟨v,r,he,hq r hr,h4,h5⟩⟩
theorem jv8(b:List Int)(hb:mR b)(hl:b.length≤maxLen):tV prog 9 [.agg [aE b]] fun r=>∃p,fD p∧r= .d (cv p):=
 jab (jv4 b hb hl) fun r ⟨rw,tw,mw,rs,ms,ts,qs,h,e⟩=>⟨_,jv7 h,by rw[e,jo4 h];rfl⟩
section
variable {P:Program} {fn:Func} {Q:AV→ak→Prop} {τ:Fr} {H:ak}
theorem F3{l:List ResultVar}(h:fn.results.toList=l)(hq:oG P τ H l fun xs=>Q (qZ xs) H):mQ P fn Q .ret τ H:=by
 show oG P τ H fn.results.toList _
 rw[h];exact hq
theorem vP{t:Tmp}{l:List ResultVar}{K:List AV→Prop}(h:oG P τ H l fun xs=>K (τ t::xs)):oG P τ H (.tmp t::l) K:=h
theorem PA{t:Tmp}{ty:TypeId}{l:List ResultVar}{K:List AV→Prop}(h:oK (ff P H.length H ty (τ t)) (tg fun x=>oG P τ H l fun xs=>K (x::xs))):oG P τ H (.cell t ty::l) K:=by
 obtain⟨x,h1,h2⟩:=h
 exact⟨x,AA h1,h2⟩
end
end
section
structure qt (p:Pr) (s:im) (heads:List Head) (rooms:List Bool):Prop where
 rl:s.ag.length=p.ag.length
 rv:∀i,i<p.ag.length→0≤nth s.ag i∧nth s.ag i<2^(nth p.ag i).w
 ml:s.mems.length=p.mems.length
 mw:∀i,i<p.mems.length→(nth s.mems i).length=(nth p.mems i).words
 mv:∀i,i<p.mems.length→∀k,k<(nth p.mems i).words→0≤nth (nth s.mems i) k∧nth (nth s.mems i) k<2^(nth p.mems i).w
 hl:heads.length=p.ae.length
 hv:∀i,i<p.ae.length→0≤(nth heads i).v∧(nth heads i).v<2^(nth p.ae i).w
 ol:rooms.length=p.ao.length
def gY(s:im):List Nat:=s.ag.map Int.toNat
def qz(p:Pr)(s:im)(i:Nat):Bool:=decide (bF (aI p) (gY s) [] s.mems (nth p.ae i).wh=1)
def te(p:Pr)(s:im)(heads:List Head)(i:Nat):Nat:=if qz p s i&&(nth heads i).has then(nth heads i).v.toNat else 0
def Gq(p:Pr)(s:im)(heads:List Head):List Nat:=(List.range p.ae.length).map (te p s heads)
def jt(p:Pr)(s:im)(heads:List Head)(e:Ex):Nat:=bF (aI p) (gY s) (Gq p s heads) s.mems e
def qG(p:Pr)(s:im)(heads:List Head)(i:Nat):Bool:=decide (jt p s heads (nth p.ao i).wh=1)
def rG(p:Pr)(s:im)(heads:List Head):Nat→Bool
 |0=>true
 |k+1=>rG p s heads k&&(!qz p s k||(nth heads k).has)
def oB(p:Pr)(s:im)(heads:List Head)(rooms:List Bool):Nat→Bool
 |0=>rG p s heads p.ae.length
 |k+1=>oB p s heads rooms k&&(!qG p s heads k||nth rooms k)
def jM(p:Pr)(s:im)(heads:List Head)(rooms:List Bool):Bool:=oB p s heads rooms p.ao.length
def j8(p:Pr)(s:im)(heads:List Head)(rooms:List Bool)(w:aB):Bool:=
 if w.kind=1 then(if jM p s heads rooms then jt p s heads (nth p.ag w.i.toNat).next else(nth s.ag w.i.toNat).toNat).testBit w.bit.toNat
 else if w.kind=5 then jM p s heads rooms&&qz p s w.i.toNat
 else if w.kind=6 then jM p s heads rooms&&qG p s heads w.i.toNat
 else if w.kind=7 then(if jM p s heads rooms&&qG p s heads w.i.toNat then jt p s heads (nth p.ao w.i.toNat).da else 0).testBit w.bit.toNat
 else if w.kind=8 then jM p s heads rooms&&decide (jt p s heads (nth p.mems w.i.toNat).en=1)
 else if w.kind=9 then(jt p s heads (nth p.mems w.i.toNat).ad % (nth p.mems w.i.toNat).words).testBit w.bit.toNat
 else(jt p s heads (nth p.mems w.i.toNat).da).testBit w.bit.toNat
theorem oe{c:Ct}{r d d':List Nat}{m:List (List Int)}:∀(e:Ex),WT c false e→bF c r d m e=bF c r d' m e
 | .lM v w,_=>rfl
 | .fe i,_=>rfl
 | .dZ i,h=>by cases h.1
 | .not a,h=>by simp only[bF];rw[oe a h]
 | .two o a b,h=>by simp only[bF];rw[oe a h.2.1,oe b h.2.2.1]
 | .add a b,h=>by simp only[bF];rw[oe a h.1,oe b h.2.1]
 | .sub a b,h=>by simp only[bF];rw[oe a h.1,oe b h.2.1]
 | .eq a b,h=>by simp only[bF];rw[oe a h.1,oe b h.2.1]
 | .lt a b,h=>by simp only[bF];rw[oe a h.1,oe b h.2.1]
 | .lU a b c,h=>by simp only[bF];rw[oe a h.1,oe b h.2.1,oe c h.2.2.1]
 | .cat a b,h=>by simp only[bF];rw[oe a h.1,oe b h.2.1]
 | .mT k w a,h=>by simp only[bF];rw[oe a h.1]
 | .ext w a,h=>by simp only[bF];rw[oe a h.1]
 | .rd k a,h=>by simp only[bF];rw[oe a h.1]
theorem I6{kind i:Int}{w k:Nat}(h:k<w):nth (bK kind i w) k=⟨kind,i,(k:Int)⟩:=tZ h
theorem Pg{x:Nat}(h:x<2^1):x.testBit 0=decide (x=1):=by
 rcases(show x=0∨x=1 by omega)with e|e<;>rw[e]<;>rfl
theorem ykk{b:Bool}{x y k:Nat}:(if b then x else y).testBit k=if b then x.testBit k else y.testBit k:=by cases b<;>rfl
section
variable {p:Pr} {s:im} {heads:List Head} {rooms:List Bool}
theorem Pz{i:Nat}(hi:i<p.ag.length):nth (aI p).ag i=(nth p.ag i).w:=lQ hi
theorem Fz{i:Nat}(hi:i<p.mems.length):nth (aI p).mems i=((nth p.mems i).words,(nth p.mems i).w):=lQ hi
theorem Py{i:Nat}(hi:i<s.ag.length):nth (gY s) i=(nth s.ag i).toNat:=vZ hi
theorem jll{i:Nat}(hi:i<p.ae.length):nth (Gq p s heads) i=te p s heads i:=tZ hi
theorem Lr(hs:qt p s heads rooms):rK (aI p) (gY s) (Gq p s heads) s.mems:=by
 refine⟨fun i hi=>?_,fun i hi=>?_,?_,fun i hi=>?_,fun i hi k hk=>?_⟩
 ·have hi:i<p.ag.length:=by simpa[aI]using hi
  rw[Py (by rw[hs.rl];exact hi),Pz hi]
  have:=hs.rv i hi
  have e:((2^(nth p.ag i).w:Nat):Int)=(2:Int)^(nth p.ag i).w:=by simp
  omega
 ·have hi:i<p.ae.length:=by simpa[aI]using hi
  rw[jll hi,zA hi]
  have:=hs.hv i hi
  have e:((2^(nth p.ae i).w:Nat):Int)=(2:Int)^(nth p.ae i).w:=by simp
  have hp:=Nat.two_pow_pos (nth p.ae i).w
  unfold te
  split<;>omega
 ·rw[hs.ml];simp[aI]
 ·have hi:i<p.mems.length:=by simpa[aI]using hi
  rw[Fz hi];exact hs.mw i hi
 ·have hi:i<p.mems.length:=by simpa[aI]using hi
  rw[Fz hi]at hk ⊢;exact hs.mv i hi k hk
end
def jH(p:Pr)(s:im)(heads:List Head)(rooms:List Bool):List Bool:=false::true::oF s heads rooms (dN p)
section
variable {p:Pr} {s:im} {heads:List Head} {rooms:List Bool}
theorem cr:V0 (mP p) (jH p s heads rooms):=⟨by simp[jH,oF,mP];omega,nH,rfl,rfl⟩
theorem Lq{kind:Int}{i k:Nat}{gs:Gs}(hw:(⟨kind,(i:Int),(k:Int)⟩:aB)∈dN p):vl s.mems (jH p s heads rooms) gs (bL p kind i k)=zC s heads rooms ⟨kind,i,k⟩:=by
 obtain⟨h1,h2⟩:=FU hw
 have e:(bL p kind i k).toNat=2+mc ⟨kind,(i:Int),(k:Int)⟩ (dN p):=by unfold bL;omega
 rw[PW (by rw[e,(cr (p:=p) (s:=s) (heads:=heads) (rooms:=rooms)).l];unfold mP;omega),e]
 show nth (false::true::oF s heads rooms (dN p)) (2+_)=_
 rw[Nat.add_comm]
 show nth (oF s heads rooms (dN p)) (mc ⟨kind,(i:Int),(k:Int)⟩ (dN p))=_
 unfold oF
 rw[vZ h1,h2]
theorem jtm{gs:Gs}{f d x:Int}(hg:GI (mP p) gs)(hf:br (mP p) gs f)(hd:br (mP p) gs d)(hx:br (mP p) gs x):vl s.mems (jH p s heads rooms) (yY (mP p) gs f d x).1 (yY (mP p) gs f d x).2=(vl s.mems (jH p s heads rooms) gs f&&(!vl s.mems (jH p s heads rooms) gs d||vl s.mems (jH p s heads rooms) gs x)):=by
 have hn:=oL nH hg hd
 have ho:=Am nH hn.gi hn.nd (hx.pre hn.pre)
 unfold yY
 simp only
 rw[w6 cr ho.gi (hf.pre (hn.pre.trans ho.pre)) ho.nd,gn cr.l (hn.pre.trans ho.pre) hf,Gv cr hn.gi hn.nd (hx.pre hn.pre),Al cr hg hd,gn cr.l hn.pre hx]
theorem ykl(hs:qt p s heads rooms){i:Nat}{gs:Gs}(hi:i<p.ae.length):vl s.mems (jH p s heads rooms) gs (bL p 3 i 0)=(nth heads i).has:=by
 rw[Lq (LU hi)]
 unfold zC
 rw[if_neg (show ¬((3:Int)=1) by decide),if_neg (show ¬((3:Int)=2) by decide),if_pos rfl]
 simp only[Int.toNat_natCast]
 rw[decide_eq_true (show(i:Int)<(heads.length:Int) by rw[hs.hl];omega),Bool.true_and]
theorem ykm(hs:qt p s heads rooms){i:Nat}{gs:Gs}(hi:i<p.ao.length):vl s.mems (jH p s heads rooms) gs (bL p 4 i 0)=nth rooms i:=by
 rw[Lq (LS hi)]
 unfold zC
 rw[if_neg (show ¬((4:Int)=1) by decide),if_neg (show ¬((4:Int)=2) by decide),if_neg (show ¬((4:Int)=3) by decide)]
 simp only[Int.toNat_natCast]
 rw[decide_eq_true (show(i:Int)<(rooms.length:Int) by rw[hs.ol];omega)]
 rfl
variable (h:bJ p) (hs:qt p s heads rooms)
include h hs
theorem Yx{i k:Nat}{gs:Gs}(hi:i<p.ag.length)(hk:k<(nth p.ag i).w):vl s.mems (jH p s heads rooms) gs (bL p 1 i k)=(nth (gY s) i).testBit k:=by
 rw[Lq (zD hi hk),Py (by rw[hs.rl];exact hi)]
 unfold zC
 rw[if_pos rfl]
 have hw:=(h.ct.r i (by simpa[aI]using hi)).2
 rw[Pz hi]at hw
 obtain⟨v,hv⟩:∃v:Nat,nth s.ag i=v:=⟨_,(zn (hs.rv i hi).1).symm⟩
 have HA:=(hs.rv i hi).2
 have e:((2^(nth p.ag i).w:Nat):Int)=(2:Int)^(nth p.ag i).w:=by simp
 have tq:(2:Nat)^(nth p.ag i).w≤2^8:=rj (by decide) hw
 simp only[Int.toNat_natCast]
 rw[hv]at HA ⊢
 rw[decide_eq_true (show(i:Int)<(s.ag.length:Int) by rw[hs.rl];omega),Bool.true_and,PT (by omega) (by omega),Int.toNat_natCast]
theorem ykn{i k:Nat}{gs:Gs}(hi:i<p.ae.length)(hk:k<(nth p.ae i).w):vl s.mems (jH p s heads rooms) gs (bL p 2 i k)=((nth heads i).has&&(nth heads i).v.toNat.testBit k):=by
 rw[Lq (Hr hi hk)]
 unfold zC
 rw[if_neg (show ¬((2:Int)=1) by decide),if_pos rfl]
 have hw:=(h.ct.t i (by simpa[aI]using hi)).2
 rw[zA hi]at hw
 obtain⟨v,hv⟩:∃v:Nat,(nth heads i).v=v:=⟨_,(zn (hs.hv i hi).1).symm⟩
 have HA:=(hs.hv i hi).2
 have e:((2^(nth p.ae i).w:Nat):Int)=(2:Int)^(nth p.ae i).w:=by simp
 have tq:(2:Nat)^(nth p.ae i).w≤2^8:=rj (by decide) hw
 simp only[Int.toNat_natCast]
 rw[hv]at HA ⊢
 rw[decide_eq_true (show(i:Int)<(heads.length:Int) by rw[hs.hl];omega),Bool.true_and,PT (by omega) (by omega),Int.toNat_natCast]
theorem Ds{e:Ex}(ht:WT (aI p) true e):jt p s heads e<2^aM (aI p) e:=tS h.ct (Lr hs) e ht
variable (hU:∀k,k<(aI p).mems.length→(nth (aI p).mems k).1=1∨(nth (aI p).mems k).1=2∨(nth (aI p).mems k).1=4∨(nth (aI p).mems k).1=8)
include hU
theorem jlm{q:Bool}{data:List (List Int)}{gs:Gs}(hg:GI (mP p) gs)(hd:kM (aI p) q (mP p) gs data)(gH:q=true→∀i,i<p.ae.length→VB s.mems (jH p s heads rooms) gs (nth data i) (nth p.ae i).w (te p s heads i)){e:Ex}(ht:WT (aI p) q e):
  VB s.mems (jH p s heads rooms) (fa p data gs e).1 (fa p data gs e).2 (aM (aI p) e) (jt p s heads e):=
 ycn cr h.ct (Kl h) (Lr hs) hU (fun i k gs hi hk=>by
  have iS:i<p.ag.length:=by simpa[aI]using hi
  rw[Pz iS]at hk
  exact Yx h hs iS hk) e hg hd (fun eq i hi=>by
  have iS:i<p.ae.length:=by simpa[aI]using hi
  rw[zA iS,jll iS]
  exact gH eq i iS) ht
structure TkV (p:Pr) (s:im) (heads:List Head) (rooms:List Bool) (k:Nat) (f:Fi):Prop where
 t:∀i,i<k→vl s.mems (jH p s heads rooms) f.gs (nth f.ae i)=qz p s i
 d:∀i,i<k→VB s.mems (jH p s heads rooms) f.gs (nth f.data i) (nth p.ae i).w (te p s heads i)
theorem LI:∀k,k≤p.ae.length→TkV p s heads rooms k (gk p k)
 |0,_=>⟨fun i hi=>by omega,fun i hi=>by omega⟩
 |k+1,hk=>by
  have ih:=LI k (by omega)
  have ho:=vX h k (by omega)
  obtain⟨hb,ht⟩:=PG h (show k<p.ae.length by omega) ho
  have hw:=h.tw k (show k<p.ae.length by omega)
  have vb:=jlm h hs hU (q:=false) (data:=(gk p k).data) ho.gi (kM.mk (by intro e;cases e) (by intro e;cases e) (by intro e;cases e)) (by intro e;cases e) hw.1
  rw[hw.2]at vb
  have lt:=tS h.ct (Lr hs) _ hw.1
  rw[hw.2]at lt
  have na:vl s.mems (jH p s heads rooms) (fa p (gk p k).data (gk p k).gs (nth p.ae k).wh).1 (nth (fa p (gk p k).data (gk p k).gs (nth p.ae k).wh).2 0)=qz p s k:=by
   rw[vb 0 (by decide)]
   unfold jt
   rw[Pg lt]
   unfold qz
   rw[oe (d:=Gq p s heads) (d':=[]) _ hw.1]
  simp only[gk]
  generalize gk p k=f at *
  generalize fa p f.data f.gs (nth p.ae k).wh=r at *
  have hev:=y9 (mems:=s.mems) (v0:=jH p s heads rooms) (q:=1) (st:=fun gs i=>du (mP p) gs (nth r.2 0) (bL p 2 k i)) (f:=fun i=>qz p s k&&((nth heads k).has&&(nth heads k).v.toNat.testBit i)) cr hb.gi
   (n:=(nth p.ae k).w) (fun i hi cW hp hg=>qJ nH hg (hb.at hp (by decide)) (uQ (Hr (by omega) hi) _))
   (fun i hi cW hp hg=>by rw[w6 cr hg (hb.at hp (by decide)) (uQ (Hr (by omega) hi) _),gn cr.l hp (hb.nd 0 (by decide)),na,ykn h hs (by omega) hi])
  generalize dh (fun gs i=>du (mP p) gs (nth r.2 0) (bL p 2 k i)) r.1 (nth p.ae k).w=t at *
  have HI:=hb.pre.trans ht.pre
  refine⟨fun i hi=>?_,fun i hi=>?_⟩
  ·rcases v8 (x:=nth r.2 0) ho.tl hi with⟨hl,e⟩|⟨hl,e⟩
   ·simp only;rw[e,gn cr.l HI (ho.tn i hl)];exact ih.t i hl
   ·simp only;rw[e,gn cr.l ht.pre (hb.nd 0 (by decide)),na,hl]
  ·rcases v8 (x:=t.2) ho.dl hi with⟨hl,e⟩|⟨hl,e⟩
   ·simp only;rw[e];exact(ih.d i hl).pt cr (ho.dn i hl) HI
   ·simp only
    rw[e,hl]
    intro j hj
    rw[hev j hj]
    unfold te
    cases qz p s k<;>cases(nth heads k).has<;>simp
theorem yko{gs:Gs}(hp:(gk p p.ae.length).gs<+:gs):∀i,i<p.ae.length→VB s.mems (jH p s heads rooms) gs (nth (ch p) i) (nth p.ae i).w (te p s heads i):=fun i hi=>
 ((LI h hs hU _ (bm _)).d i hi).pt cr (fun k hk=>(vX h _ (bm _)).dn i hi k hk) hp
theorem DK{gs:Gs}(hg:GI (mP p) gs)(hp:(gk p p.ae.length).gs<+:gs){e:Ex}(ht:WT (aI p) true e):VB s.mems (jH p s heads rooms) (fa p (ch p) gs e).1 (fa p (ch p) gs e).2 (aM (aI p) e) (jt p s heads e):=
 jlm h hs hU hg (Lm h hp) (fun _=>yko h hs hU hp) ht
theorem OY:∀k,k≤p.ao.length→∀i,i<k→vl s.mems (jH p s heads rooms) (j5 p k).gs (nth (j5 p k).ao i)=qG p s heads i
 |0,_=>fun i hi=>by omega
 |k+1,hk=>fun i hi=>by
  have ih:=OY k (by omega)
  have ho:=tW h k (by omega)
  have hb:=O9 h (show k<p.ao.length by omega) ho
  have hw:=h.qw k (show k<p.ao.length by omega)
  have vb:=DK h hs hU ho.gi ho.pre hw.1
  rw[hw.2]at vb
  have lt:=Ds h hs hw.1
  rw[hw.2]at lt
  simp only[j5]
  unfold ch at vb hb
  generalize j5 p k=f at *
  generalize fa p (gk p p.ae.length).data f.gs (nth p.ao k).wh=r at *
  rcases v8 (x:=nth r.2 0) ho.ql hi with⟨hl,e⟩|⟨hl,e⟩
  ·rw[e,gn cr.l hb.pre (ho.qn i hl)];exact ih i hl
  ·rw[e,vb 0 (by decide),Pg lt,hl];rfl
theorem jln:∀k,k≤p.ae.length→vl s.mems (jH p s heads rooms) (p6 p k).1 (p6 p k).2=rG p s heads k
 |0,_=>rR cr
 |k+1,hk=>by
  have ih:=jln k (by omega)
  have hr:=Jv h k (by omega)
  have hq:=tW h _ (bm _)
  have ht:=vX h _ (bm _)
  have hd:=(ht.tn k (by omega)).pre (hq.pre.trans hr.pre)
  have vd:=(LI h hs hU _ (bm _)).t k (by omega)
  simp only[p6,rG]
  rw[jtm hr.gi hr.nd hd (uQ (LU (by omega)) _),ih,ykl hs (by omega),gn cr.l (hq.pre.trans hr.pre) (ht.tn k (by omega)),vd]
theorem jlo:∀k,k≤p.ao.length→vl s.mems (jH p s heads rooms) (p5 p k).1 (p5 p k).2=oB p s heads rooms k
 |0,_=>jln h hs hU _ (bm _)
 |k+1,hk=>by
  have ih:=jlo k (by omega)
  have hr:=yw h k (by omega)
  have hq:=tW h _ (bm _)
  have hd:=(hq.qn k (by omega)).pre hr.pre
  have vd:=OY h hs hU _ (bm _) k (by omega)
  simp only[p5,oB]
  rw[jtm hr.gi hr.nd hd (uQ (LS (by omega)) _),ih,ykm hs (by omega),gn cr.l hr.pre (hq.qn k (by omega)),vd]
theorem LH{gs:Gs}(hp:(p5 p p.ao.length).1<+:gs):vl s.mems (jH p s heads rooms) gs (fI p)=jM p s heads rooms:=by
 have hr:=yw h _ (bm _)
 unfold fI
 rw[gn cr.l hp hr.nd];exact jlo h hs hU _ (bm _)
theorem ydm{gs:Gs}(hp:(gk p p.ae.length).gs<+:gs){i:Nat}(hi:i<p.ae.length):vl s.mems (jH p s heads rooms) gs (nth (lD p) i)=qz p s i:=by
 unfold lD
 rw[gn cr.l hp ((vX h _ (bm _)).tn i hi)];exact(LI h hs hU _ (bm _)).t i hi
theorem ydn{gs:Gs}(hp:(j5 p p.ao.length).gs<+:gs){i:Nat}(hi:i<p.ao.length):vl s.mems (jH p s heads rooms) gs (nth (kB p) i)=qG p s heads i:=by
 unfold kB
 rw[gn cr.l hp ((tW h _ (bm _)).qn i hi)];exact OY h hs hU _ (bm _) i hi
end
end
section
theorem ydo{a n w j:Nat}(h1:n=1∨n=2∨n=4∨n=8)(ha:a<2^w)(hj:j<3):(decide (j<w∧2^j<n)&&a.testBit j)=(a % n).testBit j:=by
 have e:(decide (j<w∧2^j<n)&&a.testBit j)=(decide (2^j<n)&&a.testBit j):=by
  by_cases h:j<w
  ·simp[h]
  ·rw[B5 ha (by omega)];simp
 rw[e]
 have h2:∃k,n=2^k∧k≤3:=by rcases h1 with h|h|h|h;exact⟨0,h,by decide⟩;exact⟨1,h,by decide⟩;exact⟨2,h,by decide⟩;exact⟨3,h,by decide⟩
 obtain⟨k,rfl,_⟩:=h2
 rw[Nat.testBit_mod_two_pow]
 congr 1
 rw[decide_eq_decide]
 exact Nat.pow_lt_pow_iff_right (by decide)
section
variable {p:Pr} {s:im} {heads:List Head} {rooms:List Bool}
def yb(p:Pr)(s:im)(heads:List Head)(rooms:List Bool)(o:Os):Prop:=∀j,j<o.dr.length→vl s.mems (jH p s heads rooms) o.gs (nth o.dr j)=j8 p s heads rooms (nth o.out j)
theorem yb.app{n:Nat}{o:Os}{gs:Gs}{ws:List aB}{d:List Int}(ho:fS p n o)(hv:yb p s heads rooms o)(hp:o.gs<+:gs)(hd:∀j,j<d.length→vl s.mems (jH p s heads rooms) gs (nth d j)=j8 p s heads rooms (nth ws j)):yb p s heads rooms ⟨gs,o.out++ws,o.dr++d⟩:=fun j hj=>by
 simp only at hj ⊢
 by_cases hl:j<o.dr.length
 ·rw[nQ hl,nQ (by rw[ho.ol];exact hl),gn cr.l hp (ho.dn j hl)];exact hv j hl
 ·rw[qx (by omega),qx (by rw[ho.ol];omega),ho.ol]
  exact hd _ (by simp at hj;omega)
theorem ZX{i k:Nat}:j8 p s heads rooms ⟨1,i,k⟩=(if jM p s heads rooms then jt p s heads (nth p.ag i).next else(nth s.ag i).toNat).testBit k:=by
 unfold j8;simp only[Int.toNat_natCast];rw[if_pos trivial]
theorem ZW{i:Nat}:j8 p s heads rooms ⟨5,i,0⟩=(jM p s heads rooms&&qz p s i):=by
 unfold j8;simp only[Int.toNat_natCast];rw[if_neg (show ¬((5:Int)=1) by decide),if_pos trivial]
theorem ZV{i:Nat}:j8 p s heads rooms ⟨6,i,0⟩=(jM p s heads rooms&&qG p s heads i):=by
 unfold j8;simp only[Int.toNat_natCast];rw[if_neg (show ¬((6:Int)=1) by decide),if_neg (show ¬((6:Int)=5) by decide),if_pos trivial]
theorem ZU{i k:Nat}:j8 p s heads rooms ⟨7,i,k⟩=(if jM p s heads rooms&&qG p s heads i then jt p s heads (nth p.ao i).da else 0).testBit k:=by
 unfold j8;simp only[Int.toNat_natCast];rw[if_neg (show ¬((7:Int)=1) by decide),if_neg (show ¬((7:Int)=5) by decide),if_neg (show ¬((7:Int)=6) by decide),if_pos trivial]
theorem ZT{i:Nat}:j8 p s heads rooms ⟨8,i,0⟩=(jM p s heads rooms&&decide (jt p s heads (nth p.mems i).en=1)):=by
 unfold j8;simp only[Int.toNat_natCast];rw[if_neg (show ¬((8:Int)=1) by decide),if_neg (show ¬((8:Int)=5) by decide),if_neg (show ¬((8:Int)=6) by decide),if_neg (show ¬((8:Int)=7) by decide),if_pos trivial]
theorem ZS{i k:Nat}:j8 p s heads rooms ⟨9,i,k⟩=(jt p s heads (nth p.mems i).ad % (nth p.mems i).words).testBit k:=by
 unfold j8;simp only[Int.toNat_natCast];rw[if_neg (show ¬((9:Int)=1) by decide),if_neg (show ¬((9:Int)=5) by decide),if_neg (show ¬((9:Int)=6) by decide),if_neg (show ¬((9:Int)=7) by decide),if_neg (show ¬((9:Int)=8) by decide),if_pos trivial]
theorem WW{i k:Nat}:j8 p s heads rooms ⟨10,i,k⟩=(jt p s heads (nth p.mems i).da).testBit k:=by
 unfold j8;simp only[Int.toNat_natCast];rw[if_neg (show ¬((10:Int)=1) by decide),if_neg (show ¬((10:Int)=5) by decide),if_neg (show ¬((10:Int)=6) by decide),if_neg (show ¬((10:Int)=7) by decide),if_neg (show ¬((10:Int)=8) by decide),if_neg (show ¬((10:Int)=9) by decide)]
variable (h:bJ p) (hs:qt p s heads rooms)
 (hU:∀k,k<(aI p).mems.length→(nth (aI p).mems k).1=1∨(nth (aI p).mems k).1=2∨(nth (aI p).mems k).1=4∨(nth (aI p).mems k).1=8)
include h hs hU
theorem jtn:∀i,i≤p.ag.length→yb p s heads rooms (eL p i)
 |0,_=>fun j hj=>by simp[eL]at hj
 |i+1,hi=>by
  have ih:=jtn i (by omega)
  have ho:=xg h i (by omega)
  have iS:i<p.ag.length:=by omega
  obtain⟨hb,ht⟩:=yp h iS ho
  have hw:=h.rn i iS
  have vb:=DK h hs hU ho.gi (ho.tp h) hw.1
  rw[hw.2]at vb
  have Rg:(p5 p p.ao.length).1<+:(eL p i).gs:=ho.pre
  have L5:br (mP p) (p5 p p.ao.length).1 (fI p):=(yw h _ (bm _)).nd
  simp only[eL]
  generalize eL p i=o at *
  generalize fa p (ch p) o.gs (nth p.ag i).next=r at *
  rw[hb.wid]
  refine yb.app ho ih (hb.pre.trans ht.pre) fun k hk=>?_
  rw[ht.wid]at hk
  have e:=y9 (mems:=s.mems) (v0:=jH p s heads rooms) (q:=2) (st:=fun gs k=>jF (mP p) gs (fI p) (nth r.2 k) (bL p 1 i k)) (f:=fun k=>if jM p s heads rooms then(jt p s heads (nth p.ag i).next).testBit k else(nth (gY s) i).testBit k) cr hb.gi
   (n:=(nth p.ag i).w) (fun k hk cW hp hg=>Du nH hg (L5.pre (Rg.trans (hb.pre.trans hp))) (hb.at hp hk) (uQ (zD iS hk) _))
   (fun k hk cW hp hg=>by rw[YN cr hg (L5.pre (Rg.trans (hb.pre.trans hp))) (hb.at hp hk) (uQ (zD iS hk) _),LH h hs hU (Rg.trans (hb.pre.trans hp)),gn cr.l hp (hb.nd k hk),vb k hk,Yx h hs iS hk]) k hk
  rw[e,I6 hk,ZX,ykk,Py (by rw[hs.rl];exact iS)]
theorem jto:∀i,i≤p.ae.length→yb p s heads rooms (jU p i)
 |0,_=>jtn h hs hU _ (bm _)
 |i+1,hi=>by
  have ih:=jto i (by omega)
  have ho:=I7 h i (by omega)
  have iS:i<p.ae.length:=by omega
  have hF:=ho.kK h (List.prefix_refl _)
  have hD:=ho.Dh h (List.prefix_refl _) iS
  have ha:=qJ nH ho.gi hF hD
  have va:=w6 (mems:=s.mems) (v0:=jH p s heads rooms) cr ho.gi hF hD
  rw[LH h hs hU ho.pre,ydm h hs hU (ho.tp h) iS]at va
  simp only[jU]
  refine yb.app ho ih ha.pre fun k hk=>?_
  have dP:k=0:=by simpa using hk
  subst dP
  exact va.trans ZW.symm
theorem jtp:∀i,i≤p.ao.length→yb p s heads rooms (jq p i)
 |0,_=>jto h hs hU _ (bm _)
 |i+1,hi=>by
  have ih:=jtp i (by omega)
  have ho:=yu h i (by omega)
  have iS:i<p.ao.length:=by omega
  have hF:=ho.kK h (List.prefix_refl _)
  have hD:=ho.Di h (List.prefix_refl _) iS
  have va:=w6 (mems:=s.mems) (v0:=jH p s heads rooms) cr ho.gi hF hD
  rw[LH h hs hU ho.pre,ydn h hs hU ((yw h _ (bm _)).pre.trans ho.pre) iS]at va
  obtain⟨ha,hb,ht⟩:=zb h iS ho
  have hw:=h.qd i iS
  have vb:=DK h hs hU ha.gi ((ho.tp h).trans ha.pre) hw.1
  rw[hw.2]at vb
  simp only[jq]
  generalize jq p i=o at *
  generalize du (mP p) o.gs (fI p) (nth (kB p) i)=a at *
  generalize fa p (ch p) a.1 (nth p.ao i).da=r at *
  rw[hb.wid,List.append_assoc,List.append_assoc]
  refine yb.app ho ih (ha.pre.trans (hb.pre.trans ht.pre)) fun k hk=>?_
  simp only[List.length_append,List.length_cons,List.length_nil,ht.wid]at hk
  by_cases e0:k=0
  ·subst e0
   show vl s.mems (jH p s heads rooms) _ a.2=j8 p s heads rooms ⟨6,i,0⟩
   rw[gn cr.l (hb.pre.trans ht.pre) ha.nd,va,ZV]
  ·rw[qx (by simp only[List.length_cons,List.length_nil];omega),qx (by simp only[List.length_cons,List.length_nil];omega)]
   simp only[List.length_cons,List.length_nil]
   have oz:k - (0+1)<(nth p.ao i).w:=by omega
   have e:=y9 (mems:=s.mems) (v0:=jH p s heads rooms) (q:=1) (st:=fun gs k=>du (mP p) gs a.2 (nth r.2 k)) (f:=fun k=>(jM p s heads rooms&&qG p s heads i)&&(jt p s heads (nth p.ao i).da).testBit k) cr hb.gi
    (n:=(nth p.ao i).w) (fun k hk cW hp hg=>qJ nH hg (ha.nd.pre (hb.pre.trans hp)) (hb.at hp hk))
    (fun k hk cW hp hg=>by rw[w6 cr hg (ha.nd.pre (hb.pre.trans hp)) (hb.at hp hk),gn cr.l (hb.pre.trans hp) ha.nd,va,gn cr.l hp (hb.nd k hk),vb k hk]) _ oz
   rw[e,I6 oz,ZU]
   cases jM p s heads rooms&&qG p s heads i<;>simp
theorem jtq:∀i,i≤p.mems.length→yb p s heads rooms (gU p i)
 |0,_=>jtp h hs hU _ (bm _)
 |i+1,hi=>by
  have ih:=jtq i (by omega)
  have ho:=uT h i (by omega)
  have iS:i<p.mems.length:=by omega
  have hF:=ho.kK h (List.prefix_refl _)
  have we:=h.me i iS
  have wa:=h.ma i iS
  have wd:=h.md i iS
  have h4:=hU i (by simpa[aI]using iS)
  rw[Fz iS]at h4
  have la:=Ds h hs wa
  have le:=Ds h hs we.1
  rw[we.2]at le
  have ve:=DK h hs hU ho.gi (ho.tp h) we.1
  rw[we.2]at ve
  simp only[gU]
  generalize gU p i=o at *
  generalize he:fa p (ch p) o.gs (nth p.mems i).en=e
  generalize ha:du (mP p) e.1 (fI p) (nth e.2 0)=a
  generalize hd:fa p (ch p) a.1 (nth p.mems i).ad=d
  generalize hw:fa p (ch p) d.1 (nth p.mems i).da=w
  obtain⟨h1,h2,h3,IF⟩:=za h iS ho he.symm ha.symm hd.symm hw.symm
  rw[he]at ve
  have vd:=DK h hs hU h2.gi ((ho.tp h).trans (h1.pre.trans h2.pre)) wa
  rw[hd]at vd
  have vw:=DK h hs hU h3.gi ((ho.tp h).trans (h1.pre.trans (h2.pre.trans h3.pre))) wd.1
  rw[hw,wd.2]at vw
  have va:=w6 (mems:=s.mems) (v0:=jH p s heads rooms) cr h1.gi (hF.pre h1.pre) (h1.nd 0 (by decide))
  rw[ha,LH h hs hU (ho.pre.trans h1.pre),ve 0 (by decide),Pg le]at va
  rw[IF.wid,List.append_assoc,List.append_assoc,List.append_assoc,List.append_assoc]
  refine yb.app ho ih (h1.pre.trans (h2.pre.trans (h3.pre.trans IF.pre))) fun k hk=>?_
  simp only[List.length_append,List.length_cons,List.length_nil,IF.wid,tX]at hk
  by_cases e0:k=0
  ·subst e0
   show vl s.mems (jH p s heads rooms) _ a.2=j8 p s heads rooms ⟨8,i,0⟩
   rw[gn cr.l (h3.pre.trans IF.pre) h2.nd,va,ZT]
  ·rw[qx (l:=[a.2]) (by simp only[List.length_cons,List.length_nil];omega),qx (l:=[(⟨8,(i:Int),0⟩:aB)]) (by simp only[List.length_cons,List.length_nil];omega)]
   simp only[List.length_cons,List.length_nil]
   by_cases e1:k - (0+1)<3
   ·rw[nQ (l:=gS d.2 (nth p.mems i).words) (by rw[tX];exact e1),nQ (l:=bK 9 i 3) (by rw[cX];exact e1),I6 e1,ZS]
    rw[jtd e1,h3.wid]
    rw[←ydo h4 la e1]
    by_cases e2:k - (0+1)<aM (aI p) (nth p.mems i).ad∧2^(k - (0+1))<(nth p.mems i).words
    ·rw[if_pos e2,gn cr.l IF.pre (h3.nd _ e2.1),vd _ e2.1];simp[e2]
    ·rw[if_neg e2,rS cr];simp[e2]
   ·rw[qx (l:=gS d.2 (nth p.mems i).words) (by rw[tX];omega),qx (l:=bK 9 i 3) (by rw[cX];omega),tX,cX]
    have oz:k - (0+1) - 3<(nth p.mems i).w:=by omega
    rw[vw _ oz,I6 oz,WW]
theorem jwb:((eV p).cG.map fun d=>nth (BT (eV p).aO (oF s heads rooms (dN p)) s.mems) d.toNat)=(eV p).out.map (j8 p s heads rooms):=by
 have hv:=jtq h hs hU _ (bm _)
 have ho:=uT h _ (bm _)
 have sf:(eV p).out.length=(eV p).cG.length:=ho.ol
 refine List.ext_getElem (by simp[sf]) fun k zR mZ=>?_
 have hk:k<(eV p).cG.length:=by simpa using zR
 rw[List.getElem_map,List.getElem_map]
 have:=hv k hk
 rw[←mS hk,←mS (show k<(eV p).out.length by omega)]
 exact this
end
end
section
def qF(p:Pr)(s:im)(heads:List Head)(rooms:List Bool):Fl:=
 if jM p s heads rooms then⟨true,⟨(List.range p.ag.length).map fun i=>((jt p s heads (nth p.ag i).next:Nat):Int),
   (List.range p.mems.length).map fun i=>if jt p s heads (nth p.mems i).en=1 then(nth s.mems i).set (jt p s heads (nth p.mems i).ad % (nth p.mems i).words) ((jt p s heads (nth p.mems i).da:Nat):Int)else nth s.mems i⟩,
  (List.range p.ae.length).map fun i=>qz p s i,(List.range p.ao.length).map fun i=>if qG p s heads i then⟨true,((jt p s heads (nth p.ao i).da:Nat):Int)⟩else⟨false,0⟩⟩
 else⟨false,s,List.replicate p.ae.length false,List.replicate p.ao.length ⟨false,0⟩⟩
def fh(out:List aB)(kind i:Int):List aB:=out.filter fun w=>yK w kind i
def kA(f:aB→Bool)(l:List aB):Nat:=l.foldl (fun a w=>if f w then a+2^w.bit.toNat else a) 0
theorem jo7(x i:Nat):x % 2^(i+1)=x % 2^i+2^i*(x.testBit i).toNat:=by
 rw[Nat.pow_succ,Nat.mod_mul,Nat.testBit_eq_decide_div_mod_eq]
 congr 1
 congr 1
 rcases(show x / 2^i % 2=0∨x / 2^i % 2=1 by omega)with e|e<;>rw[e]<;>rfl
theorem FJ{f:aB→Bool}{kind i:Int}{x:Nat}:∀{w:Nat},(∀k:Nat,k<w→f ⟨kind,i,(k:Int)⟩=x.testBit k)→kA f (bK kind i w)=x % 2^w
 |0,_=>by simp[kA,bK,Nat.mod_one]
 |w+1,h=>by
  have ih:=FJ (w:=w) (x:=x) (f:=f) (kind:=kind) (i:=i) (fun k hk=>h k (by omega))
  unfold kA at ih ⊢
  rw[xh,List.foldl_append,ih,List.foldl_cons,List.foldl_nil,h w (by omega),jo7]
  simp only[Int.toNat_natCast]
  cases x.testBit w<;>simp
theorem fT{k' i' kind i:Int}{w:Nat}:(bK k' i' w).filter (fun x=>yK x kind i)=if k'=kind∧i'=i then bK k' i' w else[]:=by
 by_cases h:k'=kind∧i'=i
 ·rw[if_pos h,List.filter_eq_self]
  intro x hx
  obtain⟨k,_,rfl⟩:=kV.1 hx
  simp[yK,h.1,h.2]
 ·rw[if_neg h,List.filter_eq_nil_iff]
  intro x hx
  obtain⟨k,_,rfl⟩:=kV.1 hx
  simp only[yK,gG,oU]
  exact h
theorem Cb{g:Nat→List aB}{P:aB→Bool}{i:Nat}(h:∀j,j≠i→(g j).filter P=[]):∀n,((List.range n).flatMap g).filter P=if i<n then(g i).filter P else[]
 |0=>by simp
 |n+1=>by
  rw[xt,List.flatMap_append,List.filter_append,Cb h n]
  simp only[List.flatMap_cons,List.flatMap_nil,List.append_nil]
  by_cases e:n=i
  ·subst e;rw[if_neg (by omega),if_pos (by omega)];simp
  ·rw[h n e,List.append_nil]
   by_cases hl:i<n
   ·rw[if_pos hl,if_pos (by omega)]
   ·rw[if_neg hl,if_neg (by omega)]
theorem sK{g:Nat→List aB}{P:aB→Bool}(h:∀j,(g j).filter P=[])(n:Nat):((List.range n).flatMap g).filter P=[]:=by
 rw[Cb (i:=n) (fun j _=>h j) n,if_neg (by omega)]
def oR(p:Pr)(i:Nat):List aB:=bK 1 i (nth p.ag i).w
def oT(i:Nat):List aB:=bK 5 i 1
def oQ(p:Pr)(i:Nat):List aB:=bK 6 i 1++bK 7 i (nth p.ao i).w
def oM(p:Pr)(i:Nat):List aB:=bK 8 i 1++(bK 9 i 3++bK 10 i (nth p.mems i).w)
section
variable {p:Pr}
theorem jtr(h:bJ p):∀n,n≤p.ag.length→(eL p n).out=(List.range n).flatMap (oR p)
 |0,_=>rfl
 |n+1,hn=>by
  have hs:=(yp h (show n<p.ag.length by omega) (xg h n (by omega))).b.wid
  rw[eL,xt,List.flatMap_append,←jtr h n (by omega)]
  simp only[hs]
  simp[oR]
theorem jts(h:bJ p):∀n,n≤p.ae.length→(jU p n).out=(List.range p.ag.length).flatMap (oR p)++(List.range n).flatMap oT
 |0,_=>by rw[jU,jtr h _ (bm _)];simp
 |n+1,hn=>by
  rw[jU,xt,List.flatMap_append,←List.append_assoc,←jts h n (by omega)]
  simp[oT,bK]
theorem jtt(h:bJ p):∀n,n≤p.ao.length→(jq p n).out=((List.range p.ag.length).flatMap (oR p)++(List.range p.ae.length).flatMap oT)++(List.range n).flatMap (oQ p)
 |0,_=>by rw[jq,jts h _ (bm _)];simp
 |n+1,hn=>by
  have hs:=(zb h (show n<p.ao.length by omega) (yu h n (by omega))).hb.wid
  rw[jq,xt,List.flatMap_append,←List.append_assoc,←jtt h n (by omega)]
  simp only[hs]
  simp[oQ,bK]
theorem jtu(h:bJ p):∀n,n≤p.mems.length→(gU p n).out=(((List.range p.ag.length).flatMap (oR p)++(List.range p.ae.length).flatMap oT)++(List.range p.ao.length).flatMap (oQ p))++(List.range n).flatMap (oM p)
 |0,_=>by rw[gU,jtt h _ (bm _)];simp
 |n+1,hn=>by
  have hs:=(za h (show n<p.mems.length by omega) (uT h n (by omega)) rfl rfl rfl rfl).hw.wid
  rw[gU,xt,List.flatMap_append,←List.append_assoc,←jtu h n (by omega)]
  simp only[hs]
  simp[oM,bK]
theorem DJ(h:bJ p):(eV p).out=(((List.range p.ag.length).flatMap (oR p)++(List.range p.ae.length).flatMap oT)++(List.range p.ao.length).flatMap (oQ p))++(List.range p.mems.length).flatMap (oM p):=jtu h _ (bm _)
theorem y8{i j:Nat}(h:j≠i):¬((j:Int)=(i:Int)):=by omega
theorem ydp(h:bJ p){i:Nat}(hi:i<p.ag.length):fh (eV p).out 1 i=bK 1 i (nth p.ag i).w:=by
 unfold fh
 rw[DJ h,List.filter_append,List.filter_append,List.filter_append,Cb (i:=i) (fun j hj=>by rw[oR,fT,if_neg (fun e=>y8 hj e.2)]),sK (fun j=>by rw[oT,fT];rfl),sK (fun j=>by rw[oQ,List.filter_append,fT,fT];rfl),sK (fun j=>by rw[oM,List.filter_append,List.filter_append,fT,fT,fT];rfl),if_pos hi,oR,fT,if_pos ⟨rfl,rfl⟩]
 simp
theorem ydq(h:bJ p){i:Nat}(hi:i<p.ae.length):fh (eV p).out 5 i=bK 5 i 1:=by
 unfold fh
 rw[DJ h,List.filter_append,List.filter_append,List.filter_append,sK (g:=oR p) (fun j=>by rw[oR,fT];rfl),Cb (i:=i) (g:=oT) (fun j hj=>by rw[oT,fT,if_neg (fun e=>y8 hj e.2)]),sK (g:=oQ p) (fun j=>by rw[oQ,List.filter_append,fT,fT];rfl),sK (g:=oM p) (fun j=>by rw[oM,List.filter_append,List.filter_append,fT,fT,fT];rfl),if_pos hi,oT,fT,if_pos ⟨rfl,rfl⟩]
 simp
theorem jlp(h:bJ p){i:Nat}(hi:i<p.ao.length):fh (eV p).out 6 i=bK 6 i 1∧fh (eV p).out 7 i=bK 7 i (nth p.ao i).w:=by
 unfold fh
 constructor
 ·rw[DJ h,List.filter_append,List.filter_append,List.filter_append,sK (g:=oR p) (fun j=>by rw[oR,fT];rfl),sK (g:=oT) (fun j=>by rw[oT,fT];rfl),Cb (i:=i) (g:=oQ p) (fun j hj=>by rw[oQ,List.filter_append,fT,fT,if_neg (fun e=>y8 hj e.2),if_neg (fun e=>y8 hj e.2)];rfl),sK (g:=oM p) (fun j=>by rw[oM,List.filter_append,List.filter_append,fT,fT,fT];rfl),if_pos hi,oQ,List.filter_append,fT,fT,if_pos ⟨rfl,rfl⟩,if_neg (fun e=>absurd e.1 (by decide))]
  simp
 ·rw[DJ h,List.filter_append,List.filter_append,List.filter_append,sK (g:=oR p) (fun j=>by rw[oR,fT];rfl),sK (g:=oT) (fun j=>by rw[oT,fT];rfl),Cb (i:=i) (g:=oQ p) (fun j hj=>by rw[oQ,List.filter_append,fT,fT,if_neg (fun e=>y8 hj e.2),if_neg (fun e=>y8 hj e.2)];rfl),sK (g:=oM p) (fun j=>by rw[oM,List.filter_append,List.filter_append,fT,fT,fT];rfl),if_pos hi,oQ,List.filter_append,fT,fT,if_neg (fun e=>absurd e.1 (by decide)),if_pos ⟨rfl,rfl⟩]
  simp
theorem Px(h:bJ p){i:Nat}(hi:i<p.mems.length):fh (eV p).out 8 i=bK 8 i 1∧fh (eV p).out 9 i=bK 9 i 3∧fh (eV p).out 10 i=bK 10 i (nth p.mems i).w:=by
 have key:∀kind:Int,kind≠1→kind≠5→kind≠6→kind≠7→fh (eV p).out kind i=(oM p i).filter (fun w=>yK w kind i):=fun kind n1 n5 n6 n7=>by
  unfold fh
  rw[DJ h,List.filter_append,List.filter_append,List.filter_append,sK (g:=oR p) (fun j=>by rw[oR,fT,if_neg (fun e=>n1 e.1.symm)]),sK (g:=oT) (fun j=>by rw[oT,fT,if_neg (fun e=>n5 e.1.symm)]),sK (g:=oQ p) (fun j=>by rw[oQ,List.filter_append,fT,fT,if_neg (fun e=>n6 e.1.symm),if_neg (fun e=>n7 e.1.symm)];rfl),
   Cb (i:=i) (g:=oM p) (fun j hj=>by rw[oM,List.filter_append,List.filter_append,fT,fT,fT,if_neg (fun e=>y8 hj e.2),if_neg (fun e=>y8 hj e.2),if_neg (fun e=>y8 hj e.2)];rfl),if_pos hi]
  simp
 refine⟨?_,?_,?_⟩
 ·rw[key 8 (by decide) (by decide) (by decide) (by decide),oM,List.filter_append,List.filter_append,fT,fT,fT,if_pos ⟨rfl,rfl⟩,if_neg (fun e=>absurd e.1 (by decide)),if_neg (fun e=>absurd e.1 (by decide))];simp
 ·rw[key 9 (by decide) (by decide) (by decide) (by decide),oM,List.filter_append,List.filter_append,fT,fT,fT,if_neg (fun e=>absurd e.1 (by decide)),if_pos ⟨rfl,rfl⟩,if_neg (fun e=>absurd e.1 (by decide))];simp
 ·rw[key 10 (by decide) (by decide) (by decide) (by decide),oM,List.filter_append,List.filter_append,fT,fT,fT,if_neg (fun e=>absurd e.1 (by decide)),if_neg (fun e=>absurd e.1 (by decide)),if_pos ⟨rfl,rfl⟩];simp
end
def DV(f:Fl):Fl:=⟨false,f.st,f.ot,f.ao⟩
section
variable {p:Pr} {s:im} {heads:List Head} {rooms:List Bool}
theorem SZ{α:Type}[Inhabited α]{l:List α}{n:Nat}(hl:l.length=n){g:Nat→α}(h:∀i,i<n→g i=nth l i):(List.range n).map g=l:=by
 subst hl
 refine List.ext_getElem (by simp) fun k h1 h2=>?_
 rw[List.getElem_map,List.getElem_range,h k h2,mS h2]
theorem Ce{β:Type}{n:Nat}{f g:Nat→β}(h:∀i,i<n→f i=g i):(List.range n).map f=(List.range n).map g:=List.map_congr_left fun i hi=>h i (qk.1 hi)
theorem F2{β:Type}{n:Nat}{g:Nat→β}{b:β}(h:∀i,i<n→g i=b):(List.range n).map g=List.replicate n b:=by
 rw[List.eq_replicate_iff]
 exact⟨by simp,fun x hx=>by obtain⟨i,hi,rfl⟩:=kV.1 hx;exact h i (qk.1 hi)⟩
variable (h:bJ p) (hs:qt p s heads rooms)
include h hs
theorem Yw{i:Nat}(hi:i<p.ag.length):(if jM p s heads rooms then jt p s heads (nth p.ag i).next else(nth s.ag i).toNat)<2^(nth p.ag i).w:=by
 have hw:=h.rn i hi
 have l1:=Ds h hs hw.1
 rw[hw.2]at l1
 have:=hs.rv i hi
 have e:((2^(nth p.ag i).w:Nat):Int)=(2:Int)^(nth p.ag i).w:=by simp
 split
 ·exact l1
 ·omega
theorem ykp{i:Nat}(hi:i<p.ao.length):(if jM p s heads rooms&&qG p s heads i then jt p s heads (nth p.ao i).da else 0)<2^(nth p.ao i).w:=by
 have hw:=h.qd i hi
 have l1:=Ds h hs hw.1
 rw[hw.2]at l1
 split
 ·exact l1
 ·exact Nat.two_pow_pos _
variable (hU:∀k,k<(aI p).mems.length→(nth (aI p).mems k).1=1∨(nth (aI p).mems k).1=2∨(nth (aI p).mems k).1=4∨(nth (aI p).mems k).1=8)
include hU
theorem Lp{i:Nat}(hi:i<p.mems.length):jt p s heads (nth p.mems i).ad % (nth p.mems i).words<(nth p.mems i).words∧(nth p.mems i).words≤2^3∧jt p s heads (nth p.mems i).da<2^(nth p.mems i).w:=by
 have h4:=hU i (by simpa[aI]using hi)
 rw[Fz hi]at h4
 simp only at h4
 have hw:=h.md i hi
 have l1:=Ds h hs hw.1
 rw[hw.2]at l1
 exact⟨Nat.mod_lt _ (by omega),by omega,l1⟩
end
set_option maxRecDepth 100000
set_option maxHeartbeats 4000000
end
theorem ypr:(type_of% @xe):=@xe
theorem jlr(g:List Gate)(bL:List Bool)(mems:List (List Int)):(BT g bL mems).length=2+bL.length+g.length:=by simp[BT,sL];omega
structure R0 (n:Net):Prop where
 il:n.ins.length≤1000
 gl:n.aO.length≤1000
 ol:n.out.length≤1000
 od:n.out.length=n.cG.length
 g:FL (2+n.ins.length) n.aO
 d:Mu (2+n.ins.length+n.aO.length) n.cG
 wi:∀w∈n.ins,nh w
 wo:∀w∈n.out,jJ w
theorem yps:(type_of% @JL):=@JL
theorem ypt:(type_of% @Dz):=@Dz
theorem ypu:(type_of% @Dz):=@Dz
theorem ypv:(type_of% @Dz):=@Dz
theorem ypw:(type_of% @DT):=@DT
def yJ(l:List Int)(k:Nat):List Int:=[if 0<k then nth l 0 else 0,if 1<k then nth l 1 else 0,if 2<k then nth l 2 else 0]
theorem Av{l:List Int}{w k:Nat}(hk:k≤3)(h:∀j,j<k→j<l.length∧2^j<w)(he:¬(k<3∧k<l.length∧2^k<w)):yJ l k=gS l w:=by
 have hn:∀j,k≤j→j<3→¬(j<l.length∧2^j<w):=fun j h1 h2 h3=>he ⟨by omega,by omega,by
  have:=rj (show 0<2 by decide) h1
  omega⟩
 have key:∀j,j<3→(if j<k then nth l j else 0)=(if j<l.length∧2^j<w then nth l j else 0):=fun j hj=>by
  by_cases h1:j<k
  ·rw[if_pos h1,if_pos (h j h1)]
  ·rw[if_neg h1,if_neg (hn j (by omega) hj)]
 show[_,_,_]=[_,_,_]
 rw[key 0 (by decide),key 1 (by decide),key 2 (by decide)]
theorem yv{l:List Int}{k:Nat}:(yJ l k).length=3:=rfl
theorem ypx:(type_of% @LN):=@LN
def aV:Ex→List Ex
  | .lM _ _=>[]
  | .fe _=>[]
  | .dZ _=>[]
  | .not a=>[a]
  | .two _ a b=>[a,b]
  | .add a b=>[a,b]
  | .sub a b=>[a,b]
  | .eq a b=>[a,b]
  | .lt a b=>[a,b]
  | .lU a b c=>[a,b,c]
  | .cat a b=>[a,b]
  | .mT _ _ a=>[a]
  | .ext _ a=>[a]
  | .rd _ a=>[a]
def cO:Ex→Int
  | .lM _ _=>1
  | .fe _=>16
  | .dZ _=>18
  | .not _=>2
  | .two o _ _=>o
  | .add _ _=>6
  | .sub _ _=>7
  | .eq _ _=>8
  | .lt _ _=>9
  | .lU _ _ _=>10
  | .cat _ _=>11
  | .mT _ _ _=>12
  | .ext _ _=>13
  | .rd _ _=>17
def kEx:Ex→Int
  | .lM v _=>v
  | .fe i=>i
  | .dZ i=>i
  | .mT k _ _=>k
  | .rd k _=>k
  |_=>0
def u4:Ex→Int
  | .lM _ w=>w
  | .mT _ w _=>w
  | .ext w _=>w
  |_=>0
def dE(e:Ex):List D:=cg (cO e) (kEx e) (u4 e) ((aV e).flatMap bW) (aV e).length
theorem sI(e:Ex):bW e=dE e:=by
  cases e<;>simp[bW,aV,cO,kEx,u4,dE]
theorem kQ{c:Ct}{q:Bool}{e:Ex}(h:WT c q e):∀k,k<(aV e).length→WT c q (nth (aV e) k):=by
  intro k hk
  cases e with
  |lM v w=>simp[aV]at hk
  |fe i=>simp[aV]at hk
  |dZ i=>simp[aV]at hk
  | not a => obtain rfl : k = 0 := by simpa [aV] using hk
             exact h
  | mT i w a => obtain rfl : k = 0 := by simpa [aV] using hk
                exact h.1
  | ext w a => obtain rfl : k = 0 := by simpa [aV] using hk
               exact h.1
  | rd i a => obtain rfl : k = 0 := by simpa [aV] using hk
              exact h.1
  |lU a b d=>
    rcases(show k=0∨k=1∨k=2 by simp[aV]at hk;omega)with rfl|rfl|rfl
    · exact h.1
    · exact h.2.1
    · exact h.2.2.1
  |two o a b=>
    rcases(show k=0∨k=1 by simp[aV]at hk;omega)with rfl|rfl
    · exact h.2.1
    · exact h.2.2.1
  |_ a b=>
    rcases(show k=0∨k=1 by simp[aV]at hk;omega)with rfl|rfl
    · exact h.1
    · exact h.2.1
def ku(c:Ct)(l:List Ex):Nat→Nat
  |0=>0
  |k+1=>ku c l k+bQ c (nth l k)
theorem je0{c:Ct}{l:List Ex}:∀{k n:Nat},k≤n→ku c l k≤ku c l n
  | k, 0, h => by have : k = 0 := by omega
                  subst this;exact bm _
  |k,n+1,h=>by
    by_cases e:k=n+1
    · subst e;exact bm _
    · have:=je0 (c:=c) (l:=l) (show k≤n by omega)
      rw[ku];omega
theorem jo9{c:Ct}{e:Ex}:ku c (aV e) (aV e).length≤bQ c e:=by
  cases e<;>simp[aV,ku,bQ,nth]<;>omega
def AZ(f:Gs→Ex→Gs × List Int)(gs:Gs)(l:List Ex):Nat→Gs × List (List Int)
  |0=>(gs,[])
  |k+1=>let s:=AZ f gs l k;let r:=f s.1 (nth l k);(r.1,s.2++[r.2])
structure BM (c:Ct) (m:Nat) (gs:Gs) (l:List Ex) (k:Nat) (s:Gs × List (List Int)):Prop where
  pre:gs<+:s.1
  gi:GI m s.1
  len:s.1.length≤gs.length+ku c l k
  ln:s.2.length=k
  wid:∀j,j<k→(nth s.2 j).length=aM c (nth l j)
  nd:∀j,j<k→∀i,i<aM c (nth l j)→br m s.1 (nth (nth s.2 j) i)
theorem jtw{c:Ct}{q:Bool}{bL:Int→Nat→Nat→Int}{m:Nat}{data:List (List Int)}{gs:Gs}{l:List Ex}(h2:2≤m)(hc:kN c)(hi:Ab c bL m)(hg:GI m gs)(hd:kM c q m gs data)(hw:∀k,k<l.length→WT c q (nth l k)):
    ∀k,k≤l.length→BM c m gs l k (AZ (cK c bL m data) gs l k)
  |0,_=>⟨List.prefix_refl _,hg,by simp[AZ],rfl,fun j hj=>by omega,fun j hj=>by omega⟩
  |k+1,hk=>by
    have ih:=jtw h2 hc hi hg hd hw k (by omega)
    rw[AZ]
    generalize AZ (cK c bL m data) gs l k=s at *
    have hb:=oa (q:=q) h2 hc hi (nth l k) ih.gi (hd.pre ih.pre) (hw k (by omega))
    refine⟨ih.pre.trans hb.pre,hb.gi,?_,by simp[ih.ln],fun j hj=>?_,fun j hj i hi=>?_⟩
    · have h1:=ih.len;have h3:=hb.len
      rw[ku];simp only;omega
    · rcases v8 (x:=(cK c bL m data s.1 (nth l k)).2) ih.ln hj with⟨hl,e⟩|⟨hl,e⟩
      · simp only;rw[e];exact ih.wid j hl
      · simp only;rw[e,hl];exact hb.wid
    · rcases v8 (x:=(cK c bL m data s.1 (nth l k)).2) ih.ln hj with⟨hl,e⟩|⟨hl,e⟩
      · simp only;rw[e];exact(ih.nd j hl i hi).pre hb.pre
      · simp only;rw[e];subst hl;exact hb.nd i hi
theorem r8{c:Ct}{q:Bool}{e:Ex}(h:WT c q e):(∃v w,e= .lM v w)∨(∃i,e= .fe i)∨(∃i,e= .dZ i)∨(∃a,e= .not a)∨(∃a b,e= .two 3 a b)∨(∃a b,e= .two 4 a b)∨(∃a b,e= .two 5 a b)∨(∃a b,e= .add a b)∨(∃a b,e= .sub a b)∨(∃a b,e= .eq a b)∨(∃a b,e= .lt a b)∨(∃a b d,e= .lU a b d)∨(∃a b,e= .cat a b)∨(∃k w a,e= .mT k w a)∨(∃w a,e= .ext w a)∨∃k a,e= .rd k a:=by
  cases e with
  |two o a b=>
    rcases h.1 with rfl|rfl|rfl<;>simp
  |_=>simp
theorem ykq{v k:Nat}(hv:v<2^62)(hk:k<64):pc .and .i64 ((v:Int).fdiv (2^min k 64)) 1=((v / 2^k % 2:Nat):Int):=by
  rw[Nat.min_eq_left (by omega)]
  have e2:(v:Int).fdiv (2^k)=((v / 2^k:Nat):Int):=by
    rw[Int.fdiv_eq_ediv_of_nonneg _ (by have:(0:Int)<2^k:=Int.pow_pos (by decide);omega)]
    push_cast;rfl
  rw[e2]
  show IntKind.i64.wrap ((BitVec.ofInt 64 ((v / 2^k:Nat):Int)&&& BitVec.ofInt 64 1).toNat:Int)=_
  have:(BitVec.ofInt 64 ((v / 2^k:Nat):Int)&&& BitVec.ofInt 64 1).toNat=(v / 2^k) % 2:=by
    rw[BitVec.toNat_and]
    have h1:(BitVec.ofInt 64 1).toNat=1:=by decide
    have h2:(BitVec.ofInt 64 ((v / 2^k:Nat):Int)).toNat=v / 2^k:=by
      have hu:v / 2^k≤v:=Nat.div_le_self _ _
      rw[BitVec.toNat_ofInt]
      generalize v / 2^k=u at hu ⊢
      omega
    rw[h1,h2,Nat.and_one_is_mod]
  rw[this]
  exact yg (by omega) (by omega)
theorem Sn{e:Ex}{k:Nat}(hk:k<(aV e).length):SizeOf.sizeOf (nth (aV e) k)<SizeOf.sizeOf e:=by
  have hm:=my hk
  generalize nth (aV e) k=x at hm
  cases e<;>simp only[aV,List.mem_cons,List.not_mem_nil,or_false]at hm<;>(first|(rcases hm with rfl|rfl|rfl)|(rcases hm with rfl|rfl)|(rcases hm with rfl)|cases hm)<;>simp only[Ex.not.sizeOf_spec,Ex.two.sizeOf_spec,Ex.add.sizeOf_spec,Ex.sub.sizeOf_spec,Ex.eq.sizeOf_spec,Ex.lt.sizeOf_spec,Ex.lU.sizeOf_spec,Ex.cat.sizeOf_spec,Ex.mT.sizeOf_spec,Ex.ext.sizeOf_spec,Ex.rd.sizeOf_spec]<;>omega
theorem NV{l:List nj}{k:Nat}(h:k<l.length):(l.flatMap oX)[k*27+1]? =some (iD (nth l k).w):=(nC (j:=1) mJ h (by omega)).trans rfl
theorem WV{l:List nj}{k:Nat}(h:k<l.length):(l.flatMap oX)[k*27+2]? =some (iD (nth l k).words):=(nC (j:=2) mJ h (by omega)).trans rfl
theorem OX{l:List ly}{k:Nat}(h:k<l.length):(l.flatMap lH)[k*13+1]? =some (iD (nth l k).w):=(nC (j:=1) lA h (by omega)).trans rfl
section
theorem yks{l:List jD}{k:Nat}(h:k<l.length):(l.flatMap oW)[k*9+1]? =some (iD (nth l k).w):=(nC (j:=1) mb h (by omega)).trans rfl
section
variable {p:Pr}
theorem OW(h:bJ p){i:Nat}(hi:i<p.ag.length):(nth p.ag i).w≤8:=by
 have:=(h.ct.r i (by simpa[aI]using hi)).2
 rwa[show nth (aI p).ag i=(nth p.ag i).w from lQ hi]at this
theorem Yv(h:bJ p){i:Nat}(hi:i<p.ae.length):(nth p.ae i).w≤8:=by
 have:=(h.ct.t i (by simpa[aI]using hi)).2
 rwa[zA hi]at this
theorem Qo(h:bJ p):∀k,k≤p.ag.length→(eW p k).length≤8*k
 |0,_=>by simp[eW]
 |k+1,hk=>by have:=Qo h k (by omega);have:=OW h (i:=k) (by omega);rw[eW,List.length_append,cX];omega
theorem Qn(h:bJ p):∀k,k≤p.ae.length→(eJ p k).length≤800+9*k
 |0,_=>by have:=Qo h _ (bm _);have:=h.rl;rw[eJ];omega
 |k+1,hk=>by have:=Qn h k (by omega);have:=Yv h (i:=k) (by omega);rw[eJ,List.length_append,List.length_append,cX,cX];omega
theorem jls(h:bJ p):∀k,k≤p.ao.length→(fq p k).length≤1700+k
 |0,_=>by have:=Qn h _ (bm _);have:=h.tl;rw[fq];omega
 |k+1,hk=>by have:=jls h k (by omega);rw[fq,List.length_append,cX];omega
end
theorem Yu(kind i:Int):bK kind i 1=[⟨kind,i,0⟩]:=rfl
theorem tM{p q:Prop}(hq:q)(h:p=q:=by
 conv=>lhs;simp -dsimp -implicitDefEqProofs (disch:=first|assumption|omega|(simp only[aK,aT,cX]<;>omega)|decide) only[aP,↓reduceIte,Nat.reduceEqDiff,Nat.reduceAdd,D.fix,Int.reduceToNat,Nat.reduceMul,Nat.reduceBNe,Nat.reduceBEq,cv,aD,sD,cH,bw]):p:=h.mpr hq
theorem EH{p q:Prop}(hq:q)(h:p=q:=by
 conv=>lhs;simp -dsimp -implicitDefEqProofs (disch:=first|assumption|omega|(simp only[aK,aT,cX]<;>omega)|decide) only[aP,↓reduceIte,Nat.reduceEqDiff,Nat.reduceAdd,D.fix,Int.reduceToNat,Nat.reduceMul,Nat.reduceBNe,Nat.reduceBEq,cv,aD,sD,cH]):p:=h.mpr hq
theorem xx{m:List Nat}{τ τ':Fr}{H H':ak}(h2:H=H')(h:fm τ τ':=by
 repeat (first|exact bT _|refine bM ?_ (by first|rfl|(simp[aR,aT,cX,eW,eJ,fq,cX,List.length_append,Nat.add_assoc];done)|simp[aR,aT,cX,eW,eJ,fq,cX,List.length_append,Nat.add_assoc, *]))):Rt m τ H τ' H':=Rt.end h h2
theorem Yt{p q r:Prop}(e:r)(hq:q)(h:r→p=q:=by
 intro hY
 conv=>lhs;simp -dsimp -implicitDefEqProofs (disch:=first|assumption|omega|(simp only[aK,aT,cX]<;>omega)|decide) only[aP,↓reduceIte,Nat.reduceEqDiff,Nat.reduceAdd,D.fix,Int.reduceToNat,Nat.reduceMul,Nat.reduceBNe,Nat.reduceBEq,cv,aD,sD,cH,bw,hY]):p:=(h e).mpr hq
theorem Gp(k:List Nat){m:List Nat}{τ τ1:Fr}{H H1:ak}(h:Rt m (fun t=>c7 k (τ t)) (dg k H) τ1 H1)(a:∀i∈m,k[i]? =some i:=by decide)(b:k.Nodup:=by decide)(c:∀i∈k,i<H.length:=by
 simp[eS,dg]):Rt m τ H τ1 H1:=Rt.trans (Rt.gc a b c) h
theorem Gn{p:Prop}(h:p:=by
 first|rfl|(simp only[cD,Nat.reduceAdd,↓reduceIte,Nat.reduceEqDiff,cv,aD,sD,cH];first|done|rfl)):p:=h
theorem Ke{p q:Prop}(hq:q)(h:p=q:=by
 conv=>lhs;simp only[cD,Nat.reduceAdd,↓reduceIte,Nat.reduceEqDiff,cv,aD,sD,cH]):p:=h.mpr hq
theorem ydy(p:Pr)(h:bJ p):cC prog 57 [cv p] (.d (cH (dN p))):=by
 have jR:=h.rl;have vt:=h.tl;have wI:=h.ql
 refine ez (fn:=f57) (by kernel_rfl) func57 rfl (bN rfl) fun c hc hp=>?_
 refine dG (τ':=aG [(0,.d (cv p))]) (by repeat (first|exact bT _|refine bM ?_ (by first|rfl|(simp[aR,aT,cX,eW,eJ,fq,cX,List.length_append,Nat.add_assoc];done)|simp[aR,aT,cX,eW,eJ,fq,cX,List.length_append,Nat.add_assoc, *]))) ?_
 refine aj (tM ·) ?_
 refine aj (tM ·) ?_
 refine aH fun K3 bS=>?_
 refine aj (EH ·) ?_
 refine aW ?_
 refine c9 hp (fun τ' H' mm=>∃(i:Nat),(i≤p.ag.length)∧mm=p.ag.length - i∧H'=[.cells (au (aD p)),.cells (au ((eW p i).flatMap cn))]∧τ'=aG [(1,.op 0 0),(3,.os 3 1 0 (eW p i).length),(4,.d (iD i))]) (p.ag.length) ?_ ⟨0,cy _,rfl,rfl,rfl⟩ ?_
 ·refine xx ?_
  exact Gn
 rintro τ' H' mm ⟨i,hi,rfl,rfl,rfl⟩
 refine aH fun K5 fA=>?_
 refine aj (tM ·) ?_
 refine aX rfl (fun ht=>?_) (fun ht=>?_)
 ·have aA:i<p.ag.length:=by simp at ht;omega
  have rp:=OW h aA
  have hle:=Qo h i hi
  have m1:=OX aA
  refine bB (fA _ _ ?_)
  refine aH fun K7 de=>?_
  refine aW ?_
  refine aj (EH ·) ?_
  refine aW ?_
  refine c9 hp (fun τ' H' mm=>∃(k:Nat),(k≤(nth p.ag i).w)∧mm=(nth p.ag i).w - k∧H'=[.cells (au (aD p)),.cells (au ((eW p i++bK 1 i k).flatMap cn))]∧τ'=aG [(1,.op 0 0),(3,.os 3 1 0 ((eW p i).length+k)),(4,.d (iD i)),(5,.d (iD k))]) ((nth p.ag i).w) ?_ ⟨0,cy _,rfl,rfl,rfl⟩ ?_
  ·refine xx ?_
   first|rfl|(simp[bK];done)|(simp[bK];rfl)
  rintro τ' H' mm ⟨k,hk,rfl,rfl,rfl⟩
  refine aH fun K9 cJ=>?_
  refine aj (Yt m1 ·) ?_
  refine aX rfl (fun ht=>?_) (fun ht=>?_)
  ·have ll:k<(nth p.ag i).w:=by simp at ht;omega
   refine bB (cJ _ _ ?_)
   refine aH fun lz cm=>?_
   refine aW ?_
   refine jX (tM ·) (cm _ _ ?_)
   refine bA hp ax hc rfl fun rN dQ=>?_
   refine tM ?_
   refine dQ _ _ ⟨_,_,_,?_,⟨k+1,by omega,rfl,rfl,rfl⟩,?_⟩
   ·first|omega|(simp only[List.length_cons];omega)|(dsimp only;omega)
   ·refine Gp [0,3] ?_
    refine xx ?_
    refine Ke ?_;simp[xh,cn,iD,sD,aD,au]
  ·have cf:k=(nth p.ag i).w:=by simp at ht;omega
   subst cf
   refine cL (de _ _ ?_)
   refine bA hp ax hc rfl fun rM dI=>?_
   refine tM ?_
   refine dI _ _ ⟨_,_,_,?_,⟨i+1,by omega,rfl,rfl,rfl⟩,?_⟩
   ·first|omega|(simp only[List.length_cons];omega)|(dsimp only;omega)
   ·refine Gp [0,1] ?_
    refine xx ?_
    exact Gn
 ·have jI:i=p.ag.length:=by simp at ht;omega
  subst jI
  refine cL (bS _ _ ?_)
  refine aH fun tG ea=>?_
  refine aj (EH ·) ?_
  refine aW ?_
  refine c9 hp (fun τ' H' mm=>∃(i:Nat),(i≤p.ae.length)∧mm=p.ae.length - i∧H'=[.cells (au (aD p)),.cells (au ((eJ p i).flatMap cn))]∧τ'=aG [(1,.op 0 0),(3,.os 3 1 0 (eJ p i).length),(6,.d (iD i))]) (p.ae.length) ?_ ⟨0,cy _,rfl,rfl,rfl⟩ ?_
  ·refine xx ?_
   exact Gn
  rintro τ' H' mm ⟨i,hi,rfl,rfl,rfl⟩
  refine aH fun tF eh=>?_
  refine aj (tM ·) ?_
  refine aX rfl (fun ht=>?_) (fun ht=>?_)
  ·have aA:i<p.ae.length:=by simp at ht;omega
   have rp:=Yv h aA
   have hle:=Qn h i hi
   have m1:=yks aA
   refine bB (eh _ _ ?_)
   refine aH fun wT fC=>?_
   refine aW ?_
   refine aH fun uK eG=>?_
   refine aj (EH ·) ?_
   refine aW ?_
   refine c9 hp (fun τ' H' mm=>∃(k:Nat),(k≤(nth p.ae i).w)∧mm=(nth p.ae i).w - k∧H'=[.cells (au (aD p)),.cells (au ((eJ p i++bK 2 i k).flatMap cn))]∧τ'=aG [(1,.op 0 0),(3,.os 3 1 0 ((eJ p i).length+k)),(6,.d (iD i)),(7,.d (iD k))]) ((nth p.ae i).w) ?_ ⟨0,cy _,rfl,rfl,rfl⟩ ?_
   ·refine xx ?_
    first|rfl|(simp[bK];done)|(simp[bK];rfl)
   rintro τ' H' mm ⟨k,hk,rfl,rfl,rfl⟩
   refine aH fun wS fB=>?_
   refine aj (Yt m1 ·) ?_
   refine aX rfl (fun ht=>?_) (fun ht=>?_)
   ·have ll:k<(nth p.ae i).w:=by simp at ht;omega
    refine bB (fB _ _ ?_)
    refine aH fun BL iF=>?_
    refine aW ?_
    refine jX (tM ·) (iF _ _ ?_)
    refine bA hp ax hc rfl fun I0 iV=>?_
    refine tM ?_
    refine iV _ _ ⟨_,_,_,?_,⟨k+1,by omega,rfl,rfl,rfl⟩,?_⟩
    ·first|omega|(simp only[List.length_cons];omega)|(dsimp only;omega)
    ·refine Gp [0,3] ?_
     refine xx ?_
     refine Ke ?_;simp[xh,cn,iD,sD,aD,au]
   ·have cf:k=(nth p.ae i).w:=by simp at ht;omega
    subst cf
    refine cL (eG _ _ ?_)
    refine jX (tM ·) (fC _ _ ?_)
    refine bA hp ax hc rfl fun Aa iU=>?_
    refine tM ?_
    refine iU _ _ ⟨_,_,_,?_,⟨i+1,by omega,rfl,rfl,rfl⟩,?_⟩
    ·first|omega|(simp only[List.length_cons];omega)|(dsimp only;omega)
    ·refine Gp [0,3] ?_
     refine xx ?_
     refine Ke ?_;simp[eJ,Yu,cn,iD,sD,aD,au]
  ·have jI:i=p.ae.length:=by simp at ht;omega
   subst jI
   refine cL (ea _ _ ?_)
   refine aH fun BJ iT=>?_
   refine aj (EH ·) ?_
   refine aW ?_
   refine c9 hp (fun τ' H' mm=>∃(i:Nat),(i≤p.ao.length)∧mm=p.ao.length - i∧H'=[.cells (au (aD p)),.cells (au ((fq p i).flatMap cn))]∧τ'=aG [(1,.op 0 0),(3,.os 3 1 0 (fq p i).length),(8,.d (iD i))]) (p.ao.length) ?_ ⟨0,cy _,rfl,rfl,rfl⟩ ?_
   ·refine xx ?_
    exact Gn
   rintro τ' H' mm ⟨i,hi,rfl,rfl,rfl⟩
   refine aH fun IX l6=>?_
   refine aj (tM ·) ?_
   refine aX rfl (fun ht=>?_) (fun ht=>?_)
   ·have aA:i<p.ao.length:=by simp at ht;omega
    have hle:=jls h i hi
    refine bB (l6 _ _ ?_)
    refine aH fun IW nc=>?_
    refine aW ?_
    refine jX (tM ·) (nc _ _ ?_)
    refine bA hp ax hc rfl fun Dm jT=>?_
    refine tM ?_
    refine jT _ _ ⟨_,_,_,?_,⟨i+1,by omega,rfl,rfl,rfl⟩,?_⟩
    ·first|omega|(simp only[List.length_cons];omega)|(dsimp only;omega)
    ·refine Gp [0,3] ?_
     refine xx ?_
     refine Ke ?_;simp[fq,Yu,cn,iD,sD,aD,au]
   ·have jI:i=p.ao.length:=by simp at ht;omega
    subst jI
    refine cL (iT _ _ ?_)
    refine bI hp (τ':=aG [(3,.d (.fs ((fq p p.ao.length).flatMap cn) (fq p p.ao.length).length))]) (H':=[.cells (au (aD p)),.dead]) ?_ ?_
    ·refine Rt.trans (Rt.fz (id:=1) (l:=((fq p p.ao.length).flatMap cn)) rfl) ?_
     refine Rt.trans (Rt.slot 3 (qL (iN aT))) ?_
     refine xx ?_
     exact Gn
    refine aj (EH ·) ?_
    refine bh ?_
    show aC _ _=_
    simp (disch:=first|assumption|omega|(simp only[aK,aT,cX]<;>omega)|decide) only[gF,Nat.reduceAdd,D.fix,↓reduceIte,Nat.reduceEqDiff,cv,aD,sD,cH]
    rfl
end
theorem ypy:(type_of% @jsj):=@jsj
theorem ypz:(type_of% @zg):=@zg
theorem yp0:(type_of% @LN):=@LN
theorem MH{p:Pr}(h:bJ p):∀i,i≤p.ag.length→(eL p i).out.length≤8*i
 |0,_=>by simp[eL]
 |i+1,hi=>by
  have ih:=MH h i (by omega)
  have hs:=(yp h (show i<p.ag.length by omega) (xg h i (by omega))).b.wid
  have:=OW h (i:=i) (by omega)
  rw[eL];simp only[List.length_append,cX,hs];omega
theorem MF{p:Pr}(h:bJ p):∀i,i≤p.ae.length→(jU p i).out.length≤800+i
 |0,_=>by have:=MH h _ (bm _);have:=h.rl;rw[jU];omega
 |i+1,hi=>by
  have ih:=MF h i (by omega)
  rw[jU];simp only[List.length_append,List.length_cons,List.length_nil];omega
theorem yp1:(type_of% @zg):=@zg
theorem ME{p:Pr}(h:bJ p):∀i,i≤p.ao.length→(jq p i).out.length≤900+9*i
 |0,_=>by have:=MF h _ (bm _);have:=h.tl;rw[jq];omega
 |i+1,hi=>by
  have ih:=ME h i (by omega)
  have hs:=(zb h (show i<p.ao.length by omega) (yu h i (by omega))).hb.wid
  have:=(h.qb i (by omega)).2
  rw[jq];simp only[List.length_append,List.length_cons,List.length_nil,cX,hs];omega
theorem je1{p:Pr}(h:bJ p):∀i,i≤p.mems.length→(gU p i).out.length≤1800+12*i
 |0,_=>by have:=ME h _ (bm _);have:=h.ql;rw[gU];omega
 |i+1,hi=>by
  have ih:=je1 h i (by omega)
  have hs:=(za h (show i<p.mems.length by omega) (uT h i (by omega)) rfl rfl rfl rfl).hw.wid
  have em:nth (aI p).mems i=((nth p.mems i).words,(nth p.mems i).w):=lQ (by omega)
  have HX:=h.ct.m i (by simp[aI];omega)
  rw[em]at HX
  simp only at HX
  rw[gU];simp only[List.length_append,List.length_cons,List.length_nil,cX,hs];omega
section
section
variable {p:Pr}
theorem Ys(h:fD p):∀i,i≤p.ag.length→(eL p i).out.length≤3*i
 |0,_=>by simp[eL]
 |i+1,hi=>by
  have ih:=Ys h i (by omega)
  have hs:=(yp h.ok (show i<p.ag.length by omega) (xg h.ok i (by omega))).b.wid
  have:=(h.rw i (by omega)).2
  rw[eL];simp only[List.length_append,cX,hs];omega
theorem YE(h:fD p):∀i,i≤p.ae.length→(jU p i).out.length≤9+i
 |0,_=>by have:=Ys h _ (bm _);have:=h.r3;rw[jU];omega
 |i+1,hi=>by
  have ih:=YE h i (by omega)
  rw[jU];simp only[List.length_append,List.length_cons,List.length_nil];omega
theorem YD(h:fD p):∀i,i≤p.ao.length→(jq p i).out.length≤11+3*i
 |0,_=>by have:=YE h _ (bm _);have:=h.t2;rw[jq];omega
 |i+1,hi=>by
  have ih:=YD h i (by omega)
  have hs:=(zb h.ok (show i<p.ao.length by omega) (yu h.ok i (by omega))).hb.wid
  have:=(h.qw i (by omega)).2
  rw[jq];simp only[List.length_append,List.length_cons,List.length_nil,cX,hs];omega
theorem YC(h:fD p):∀i,i≤p.mems.length→(gU p i).out.length≤17+6*i
 |0,_=>by have:=YD h _ (bm _);have:=h.q2;rw[gU];omega
 |i+1,hi=>by
  have ih:=YC h i (by omega)
  have hs:=(za h.ok (show i<p.mems.length by omega) (uT h.ok i (by omega)) rfl rfl rfl rfl).hw.wid
  have:=(h.mw i (by omega)).2.1
  rw[gU];simp only[List.length_append,List.length_cons,List.length_nil,cX,hs];omega
theorem sH{α:Type}{P:α→Prop}{l m:List α}(h:∀x∈l,P x)(h':∀x∈m,P x):∀x∈l++m,P x:=fun x hx=>by
 rcases pr.1 hx with hx|hx
 ·exact h x hx
 ·exact h' x hx
theorem vW{P:aB→Prop}{kind i:Int}{w:Nat}(h:∀k,k<w→P ⟨kind,i,(k:Int)⟩):∀x∈bK kind i w,P x:=fun x hx=>by
 obtain⟨k,hk,rfl⟩:=kV.1 hx
 exact h k (qk.1 hk)
theorem WU(h:fD p):∀i,i≤p.ag.length→∀w∈eW p i,nh w
 |0,_=>by intro w hw;simp[eW]at hw
 |i+1,hi=>by
  rw[eW]
  have:=(h.rw i (by omega)).2;have:=h.r3
  exact sH (WU h i (by omega)) (vW fun k hk=>⟨by simp,by simp,by simp,by simp,by simp only;omega,by simp only;omega⟩)
theorem WS(h:fD p):∀i,i≤p.ae.length→∀w∈eJ p i,nh w
 |0,_=>WU h _ (bm _)
 |i+1,hi=>by
  rw[eJ]
  have:=(h.tw i (by omega)).2;have:=h.t2
  exact sH (sH (WS h i (by omega)) (vW fun k hk=>⟨by simp,by simp,by simp,by simp,by simp only;omega,by simp only;omega⟩)) (vW fun k hk=>⟨by simp,by simp,by simp,by simp,by simp only;omega,by simp only;omega⟩)
theorem WR(h:fD p):∀i,i≤p.ao.length→∀w∈fq p i,nh w
 |0,_=>WS h _ (bm _)
 |i+1,hi=>by
  rw[fq]
  have:=h.q2
  exact sH (WR h i (by omega)) (vW fun k hk=>⟨by simp,by simp,by simp,by simp,by simp only;omega,by simp only;omega⟩)
theorem Pw{P:aB→Prop}{x:aB}(h:P x):∀w∈[x],P w:=fun w hw=>by rw[sa.1 hw];exact h
theorem WQ(h:fD p):∀i,i≤p.ag.length→∀w∈(eL p i).out,jJ w
 |0,_=>by intro w hw;simp[eL]at hw
 |i+1,hi=>by
  have hs:=(yp h.ok (show i<p.ag.length by omega) (xg h.ok i (by omega))).b.wid
  rw[eL];simp only[hs]
  have:=(h.rw i (by omega)).2;have:=h.r3
  exact sH (WQ h i (by omega)) (vW fun k hk=>⟨by simp,by simp,by simp,by simp only;omega,by simp only;omega⟩)
theorem WO(h:fD p):∀i,i≤p.ae.length→∀w∈(jU p i).out,jJ w
 |0,_=>WQ h _ (bm _)
 |i+1,hi=>by
  rw[jU];simp only
  have:=h.t2
  exact sH (WO h i (by omega)) (Pw ⟨by simp,by simp,by simp,by simp,by simp only;omega⟩)
theorem WN(h:fD p):∀i,i≤p.ao.length→∀w∈(jq p i).out,jJ w
 |0,_=>WO h _ (bm _)
 |i+1,hi=>by
  have hs:=(zb h.ok (show i<p.ao.length by omega) (yu h.ok i (by omega))).hb.wid
  rw[jq];simp only[hs]
  have:=(h.qw i (by omega)).2;have:=h.q2
  exact sH (sH (WN h i (by omega)) (Pw ⟨by simp,by simp,by simp,by simp,by simp only;omega⟩)) (vW fun k hk=>⟨by simp,by simp,by simp,by simp only;omega,by simp only;omega⟩)
theorem WM(h:fD p):∀i,i≤p.mems.length→∀w∈(gU p i).out,jJ w
 |0,_=>WN h _ (bm _)
 |i+1,hi=>by
  have hs:=(za h.ok (show i<p.mems.length by omega) (uT h.ok i (by omega)) rfl rfl rfl rfl).hw.wid
  rw[gU];simp only[hs]
  have:=(h.mw i (by omega)).2.1;have:=h.m1
  exact sH (sH (sH (WM h i (by omega)) (Pw ⟨by simp,by simp,by simp,by simp,by simp only;omega⟩)) (vW fun k hk=>⟨by simp,by simp,by simp,by simp only;omega,by simp only;omega⟩)) (vW fun k hk=>⟨by simp,by simp,by simp,by simp only;omega,by simp only;omega⟩)
theorem OV(h:fD p):R0 (eV p):=by
 have ho:=uT h.ok _ (bm _)
 have h1:=ho.len;have h2:=h.cost;have h3:=h.ins
 have h4:=YC h _ (bm _);have h5:=h.m1
 have hc:wQ p p.mems.length=qB p:=rfl
 refine⟨by show(dN p).length≤_;omega,by show(gU p p.mems.length).gs.length≤_;omega,by show(gU p p.mems.length).out.length≤_;omega,ho.ol,fun k hk=>?_,?_,WR h _ (bm _),WM h _ (bm _)⟩
 ·have:=ho.gi.rg k hk
  exact⟨this.o1,this.o2,this.a0,this.a1,this.b0,this.b1,this.c0,this.c1,this.n0,Int.lt_of_lt_of_le this.n1 (by decide)⟩
 ·exact fun k hk=>ho.dn k hk
end
end
section
structure IS (p:Pr) (s:im):Prop where
 rl:s.ag.length=p.ag.length
 rv:∀i,i<p.ag.length→0≤nth s.ag i∧nth s.ag i<2^(nth p.ag i).w
 ml:s.mems.length=p.mems.length
 mw:∀i,i<p.mems.length→(nth s.mems i).length=(nth p.mems i).words
 mv:∀i,i<p.mems.length→∀k,k<(nth p.mems i).words→0≤nth (nth s.mems i) k∧nth (nth s.mems i) k<2^(nth p.mems i).w
structure InS (p:Pr) (heads:List Head) (rooms:List Bool):Prop where
 hl:heads.length=p.ae.length
 hv:∀i,i<p.ae.length→0≤(nth heads i).v∧(nth heads i).v<2^(nth p.ae i).w
 ol:rooms.length=p.ao.length
section
variable {p:Pr} {s:im} {heads:List Head} {rooms:List Bool}
theorem ykt(hs:IS p s)(hi:InS p heads rooms):qt p s heads rooms:=⟨hs.rl,hs.rv,hs.ml,hs.mw,hs.mv,hi.hl,hi.hv,hi.ol⟩
theorem qt.st(h:qt p s heads rooms):IS p s:=⟨h.rl,h.rv,h.ml,h.mw,h.mv⟩
theorem Qm(hp:fD p):∀k,k<(aI p).mems.length→(nth (aI p).mems k).1=1∨(nth (aI p).mems k).1=2∨(nth (aI p).mems k).1=4∨(nth (aI p).mems k).1=8:=fun k hk=>by
 have oz:k<p.mems.length:=by simpa[aI]using hk
 rw[Fz oz]
 have:=(hp.mw k oz).2.2
 simp only;omega
theorem Ql{x w:Nat}(h:x<2^w):(0:Int)≤(x:Int)∧(x:Int)<2^w:=by
 have e:((2^w:Nat):Int)=(2:Int)^w:=by simp
 omega
theorem jwf(hp:fD p)(hs:qt p s heads rooms):IS p (qF p s heads rooms).st:=by
 by_cases hf:jM p s heads rooms=true
 ·rw[qF,if_pos hf]
  refine⟨by simp,fun i hi=>?_,by simp,fun i hi=>?_,fun i hi k hk=>?_⟩
  ·show 0≤nth ((List.range p.ag.length).map _:List Int) i∧nth ((List.range p.ag.length).map _:List Int) i<_
   rw[tZ hi]
   have:=Yw hp.ok hs hi
   rw[if_pos hf]at this
   exact Ql this
  ·show(nth (((List.range p.mems.length).map _:List (List Int))) i).length=_
   rw[tZ hi]
   split
   ·rw[List.length_set];exact hs.mw i hi
   ·exact hs.mw i hi
  ·show 0≤nth (nth (((List.range p.mems.length).map _:List (List Int))) i) k∧nth (nth (((List.range p.mems.length).map _:List (List Int))) i) k<_
   rw[tZ hi]
   have hx:=Lp hp.ok hs (Qm hp) hi
   have hm:=hs.mv i hi k hk
   split
   ·by_cases e:jt p s heads (nth p.mems i).ad % (nth p.mems i).words=k
    ·rw[e,AJ (by rw[hs.mw i hi];exact hk)]
     exact Ql hx.2.2
    ·rw[F4 (fun h=>e h)];exact hm
   ·exact hm
 ·rw[qF,if_neg hf];exact hs.st
theorem ud:(qF p s heads rooms).ot.length=p.ae.length∧(qF p s heads rooms).ao.length=p.ao.length:=by
 unfold qF
 split<;>simp
end
end
end Go.Proofs.YtapjobndmmkanaaGreat
