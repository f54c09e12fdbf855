/- Processes that bytes describe, as processes. -/
import Derived.Test.YtapjobndmmkanaaGreatVi
import Derived.Test.YtapjobndmmkanaaGreatOk
import Derived.Test.YtapjobndmmkanaaGreatVb
import Derived.Test.YtapjobndmmkanaaGreatOe
import Derived.Test.YtapjobndmmkanaaGreatVd
import Derived.Test.YtapjobndmmkanaaGreatQr
import Derived.Test.YtapjobndmmkanaaGreatVa
set_option linter.unusedVariables false
set_option linter.unusedSimpArgs false
namespace Go.Proofs.YtapjobndmmkanaaGreat
open Go.Proofs.Tryz
open Go Go.RowKit
section
def nf(r:mf):List D:=[sD r.name,iD r.w,iD r.init]++(bR r.next++[iD r.rk,sD r.rf,iD r.rn])
def pb(m:lJ):List D:=[sD m.name,iD m.w,iD m.words]++(bR m.en++(bR m.ad++(bR m.da++[iD m.rk,sD m.rf,iD m.rn])))
def qJ(t:kg):List D:=[iD t.chan,iD t.w]++bR t.wh
def rO(q:mg):List D:=[iD q.chan,iD q.w]++(bR q.wh++bR q.da)
def aK(p:Pr):List D:=[sD p.name,sD p.clock,.fs (p.aC.flatMap nf) p.aC.length,.fs (p.au.flatMap pb) p.au.length,.fs (p.ag.flatMap qJ) p.ag.length,.fs (p.aE.flatMap rO) p.aE.length]
def dI(p:Pr):D:=.agg (aK p)
theorem lg(e:Ex):(bR e).length=7:=by cases e<;>rfl
theorem qk(r:mf):(nf r).length=13:=by simp[nf,lg]
theorem qj(m:lJ):(pb m).length=27:=by simp[pb,lg]
theorem r8(t:kg):(qJ t).length=9:=by simp[qJ,lg]
theorem mS(q:mg):(rO q).length=16:=by simp[rO,lg]
theorem lP{l:List mf}:(l.flatMap nf).length=l.length*13:=o9 qk l
theorem u9{l:List lJ}:(l.flatMap pb).length=l.length*27:=o9 qj l
theorem mW{l:List kg}:(l.flatMap qJ).length=l.length*9:=o9 r8 l
theorem mV{l:List mg}:(l.flatMap rO).length=l.length*16:=o9 mS l
def Ds(r:RG):mf:=⟨r.name,r.w,r.init,r.nx.getD default,r.rk,r.rf,r.rn⟩
def yJ(m:MG):lJ:=⟨m.name,m.w,m.words,m.en.getD default,m.ad.getD default,m.da.getD default,m.rk,m.rf,m.rn⟩
def FN(t:TG):kg:=⟨t.chan,t.w,t.wh.getD default⟩
def toQ(q:QG):mg:=⟨q.chan,q.w,q.wh.getD default,q.da.getD default⟩
theorem Fh{α β:Type}[Inhabited α]{f:α→List D}{g:β→List D}{t:α→β}:∀{l:List α},(∀k,k<l.length→f (nth l k)=g (t (nth l k)))→l.flatMap f=(l.map t).flatMap g
 |[],_=>rfl
 |a::l,h=>by
  rw[List.flatMap_cons,List.map_cons,List.flatMap_cons,Fh (l:=l) (fun k hk=>h (k+1) (by simpa using hk))]
  exact congrArg (·++_) (h 0 (by simp))
structure jL (p:Pr):Prop where
 ok:cB p
 cost:oG p≤491
 ins:(aU p).length≤17
 r1:1≤p.aC.length
 r3:p.aC.length≤3
 t2:p.ag.length≤2
 q2:p.aE.length≤2
 m1:p.au.length≤1
 rw:∀i,i<p.aC.length→1≤(nth p.aC i).w∧(nth p.aC i).w≤3
 tw:∀i,i<p.ag.length→1≤(nth p.ag i).w∧(nth p.ag i).w≤2
 qw:∀i,i<p.aE.length→1≤(nth p.aE i).w∧(nth p.aE i).w≤2
 mw:∀i,i<p.au.length→1≤(nth p.au i).w∧(nth p.au i).w≤2∧((nth p.au i).words=1∨(nth p.au i).words=2∨(nth p.au i).words=4)
 rn:∀i,i<p.aC.length→(nth p.aC i).name.size≤9
 mn:∀i,i<p.au.length→(nth p.au i).name.size≤9
def vl(rs:List RG)(ms:List MG)(ts:List TG)(qs:List QG):Pr:=⟨⟨#[112]⟩,⟨#[97]⟩,rs.map Ds,ms.map yJ,ts.map FN,qs.map toQ⟩
section
variable {rw tw:List Nat} {mw:List (Nat × Nat)} {rs:List RG} {ms:List MG} {ts:List TG} {qs:List QG}
theorem Oc(h:uT rw tw mw rs ms ts qs):aR (vl rs ms ts qs)=kH rw tw mw:=by
 unfold aR vl kH
 simp only[List.map_map]
 rw[←h.rl,←h.tl,←h.ml]
 rfl
theorem jl4(h:uT rw tw mw rs ms ts qs):NJ rs ms ts qs=aK (vl rs ms ts qs):=by
 unfold NJ aK vl
 simp only[List.length_map]
 rw[Fh (l:=rs) (g:=nf) (t:=Ds) fun k hk=>by
   obtain⟨e,he,_⟩:=h.r k hk
   simp[iH,nf,Ds,he,kG],
  Fh (l:=ms) (g:=pb) (t:=yJ) fun k hk=>by
   obtain⟨e,a,d,h1,h2,h3,_⟩:=h.m k hk
   simp[jU,pb,yJ,h1,h2,h3,kG],
  Fh (l:=ts) (g:=qJ) (t:=FN) fun k hk=>by
   obtain⟨e,he,_⟩:=h.t k hk
   simp[jh,qJ,FN,he,kG],
  Fh (l:=qs) (g:=rO) (t:=toQ) fun k hk=>by
   obtain⟨e,d,h1,h2,_⟩:=h.q k hk
   simp[ji,rO,toQ,h1,h2,kG]]
theorem No(h:uT rw tw mw rs ms ts qs){i:Nat}(hi:i<rs.length):Fit (kH rw tw mw) true (Ds (nth rs i)).w (if i=0 then 128 else 32) (Ds (nth rs i)).next:=by
 obtain⟨e,he,hf⟩:=h.r i hi
 unfold Ds
 rw[he];exact hf
theorem Nn(h:uT rw tw mw rs ms ts qs){i:Nat}(hi:i<ts.length):Fit (kH rw tw mw) false 1 32 (FN (nth ts i)).wh:=by
 obtain⟨e,he,hf⟩:=h.t i hi
 unfold FN
 rw[he];exact hf
theorem DS(h:uT rw tw mw rs ms ts qs){i:Nat}(hi:i<qs.length):Fit (kH rw tw mw) true 1 32 (toQ (nth qs i)).wh∧Fit (kH rw tw mw) true (toQ (nth qs i)).w 32 (toQ (nth qs i)).da:=by
 obtain⟨e,d,h1,h2,h3,h4⟩:=h.q i hi
 unfold toQ
 rw[h1,h2];exact⟨h3,h4⟩
theorem DR(h:uT rw tw mw rs ms ts qs){i:Nat}(hi:i<ms.length):Fit (kH rw tw mw) true 1 32 (yJ (nth ms i)).en∧(WT (kH rw tw mw) true (yJ (nth ms i)).ad∧cf (kH rw tw mw) (yJ (nth ms i)).ad=0)∧Fit (kH rw tw mw) true (yJ (nth ms i)).w 32 (yJ (nth ms i)).da:=by
 obtain⟨e,a,d,h1,h2,h3,h4,h5,h6,h7⟩:=h.m i hi
 unfold yJ
 rw[h1,h2,h3];exact⟨h4,⟨h5,h6⟩,h7⟩
theorem jsg(h:uT rw tw mw rs ms ts qs):1≤rs.length∧rs.length≤3∧ts.length≤2∧qs.length≤2∧ms.length≤1:=by
 have e1:=congrArg List.length h.rl;have e2:=congrArg List.length h.tl;have e3:=congrArg List.length h.ml
 simp only[List.length_map]at e1 e2 e3
 have:=h.wd.r1;have:=h.wd.r3;have:=h.wd.t2;have:=h.wd.m1;have:=h.q2
 omega
theorem XY(h:uT rw tw mw rs ms ts qs){i:Nat}(hi:i<rs.length):1≤(nth rs i).w∧(nth rs i).w≤3:=by
 have:=EZ h.rl hi
 rw[←this.2];exact h.wd.r _ (ll this.1)
theorem XX(h:uT rw tw mw rs ms ts qs){i:Nat}(hi:i<ts.length):1≤(nth ts i).w∧(nth ts i).w≤2:=by
 have:=EZ h.tl hi
 rw[←this.2];exact h.wd.t _ (ll this.1)
theorem ye9(h:uT rw tw mw rs ms ts qs){i:Nat}(hi:i<ms.length):1≤(nth ms i).w∧(nth ms i).w≤2∧((nth ms i).words=1∨(nth ms i).words=2∨(nth ms i).words=4):=by
 have h1:i<mw.length∧nth mw i=((nth ms i).words,(nth ms i).w):=by rw[←h.ml];exact⟨by simpa using hi,BL hi⟩
 have:=h.wd.m _ (ll h1.1)
 rw[h1.2]at this
 exact⟨this.2.1,this.2.2,this.1⟩
structure Bd (p:Pr):Prop where
 t:∀i,i<p.ag.length→cf (aR p) (nth p.ag i).wh≤32∧(nth p.ag i).w≤2
 q:∀i,i<p.aE.length→cf (aR p) (nth p.aE i).wh≤32∧cf (aR p) (nth p.aE i).da≤32∧(nth p.aE i).w≤2
 r:∀i,i<p.aC.length→cf (aR p) (nth p.aC i).next≤(if i=0 then 128 else 32)∧(nth p.aC i).w≤3
 m:∀i,i<p.au.length→cf (aR p) (nth p.au i).en≤32∧cf (aR p) (nth p.au i).ad=0∧cf (aR p) (nth p.au i).da≤32
theorem Wi{p:Pr}(h:Bd p):∀k,k≤p.ag.length→vx p k≤34*k
 |0,_=>by simp[vx]
 |k+1,hk=>by have:=Wi h k (by omega);have:=h.t k (by omega);rw[vx];omega
theorem Nc{p:Pr}(h:Bd p):∀k,k≤p.aE.length→uP p k≤34*p.ag.length+32*k
 |0,_=>by have:=Wi h _ (bJ _);rw[uP];omega
 |k+1,hk=>by have:=Nc h k (by omega);have:=h.q k (by omega);rw[uP];omega
theorem Wh{p:Pr}(h:Bd p):∀k,k≤p.aC.length→oT p k≤37*p.ag.length+35*p.aE.length+38*k+96
 |0,_=>by have:=Nc h _ (bJ _);rw[oT];omega
 |k+1,hk=>by
  have:=Wh h k (by omega);have h2:=h.r k (by omega);rw[oT]
  by_cases e:k=0
  ·subst e
   have:=Nc h _ (bJ _)
   rw[if_pos rfl]at h2;rw[oT];omega
  ·rw[if_neg e]at h2;omega
theorem Wg{p:Pr}(h:Bd p):∀k,k≤p.aE.length→tR p k≤38*p.ag.length+35*p.aE.length+38*p.aC.length+96+35*k
 |0,_=>by have:=Wh h _ (bJ _);rw[tR];omega
 |k+1,hk=>by have:=Wg h k (by omega);have:=h.q k (by omega);rw[tR];omega
theorem Wf{p:Pr}(h:Bd p):∀k,k≤p.au.length→tS p k≤38*p.ag.length+70*p.aE.length+38*p.aC.length+96+65*k
 |0,_=>by have:=Wg h _ (bJ _);rw[tS];omega
 |k+1,hk=>by have:=Wf h k (by omega);have:=h.m k (by omega);rw[tS];omega
theorem We{p:Pr}(h:Bd p):∀k,k≤p.aC.length→(gW p k).length≤3*k
 |0,_=>by simp[gW]
 |k+1,hk=>by have:=We h k (by omega);have:=h.r k (by omega);rw[gW,List.length_append,dD];omega
theorem Wd{p:Pr}(h:Bd p):∀k,k≤p.ag.length→(gM p k).length≤3*p.aC.length+3*k
 |0,_=>by have:=We h _ (bJ _);rw[gM];omega
 |k+1,hk=>by have:=Wd h k (by omega);have:=h.t k (by omega);rw[gM,List.length_append,List.length_append,dD,dD];omega
theorem WN{p:Pr}(h:Bd p):∀k,k≤p.aE.length→(iN p k).length≤3*p.aC.length+3*p.ag.length+k
 |0,_=>by have:=Wd h _ (bJ _);rw[iN];omega
 |k+1,hk=>by have:=WN h k (by omega);rw[iN,List.length_append,dD];omega
theorem yfb(h:uT rw tw mw rs ms ts qs):Bd (vl rs ms ts qs):=by
 refine⟨fun i hi=>?_,fun i hi=>?_,fun i hi=>?_,fun i hi=>?_⟩<;>rw[Oc h]<;>simp only[vl,List.length_map]at hi ⊢<;>rw[BL hi]
 ·exact⟨(Nn h hi).n,(XX h hi).2⟩
 ·exact⟨(DS h hi).1.n,(DS h hi).2.n,(h.qw i hi).2⟩
 ·exact⟨(No h hi).n,(XY h hi).2⟩
 ·have:=DR h hi
  exact⟨this.1.n,this.2.1.2,this.2.2.n⟩
theorem jsh(h:uT rw tw mw rs ms ts qs):jL (vl rs ms ts qs):=by
 obtain⟨l1,l2,l3,l4,l5⟩:=jsg h
 have hb:=yfb h
 have hc:oG (vl rs ms ts qs)≤491:=by
  have:=Wf hb _ (bJ _)
  unfold oG
  simp only[vl,List.length_map]at this ⊢
  omega
 refine⟨⟨by rw[Oc h];exact h.wd.ct,fun i hi=>?_,fun i hi=>?_,fun i hi=>?_,fun i hi=>?_,fun i hi=>?_,fun i hi=>?_,fun i hi=>?_,fun i hi=>?_,?_,?_,?_,by omega⟩,hc,?_,?_,?_,?_,?_,?_,fun i hi=>?_,fun i hi=>?_,fun i hi=>?_,fun i hi=>?_,fun i hi=>?_,fun i hi=>?_⟩
 any_goals rw[Oc h]
 any_goals (simp only[vl,List.length_map]at hi ⊢;rw[BL hi])
 any_goals (simp only[vl,List.length_map];omega)
 ·exact⟨(Nn h hi).t,(Nn h hi).w⟩
 ·exact⟨(No h hi).t,(No h hi).w⟩
 ·exact⟨(DS h hi).1.t,(DS h hi).1.w⟩
 ·exact⟨(DS h hi).2.t,(DS h hi).2.w⟩
 ·have:=h.qw i hi
  exact⟨this.1,by show(nth qs i).w≤8;omega⟩
 ·exact⟨(DR h hi).1.t,(DR h hi).1.w⟩
 ·exact(DR h hi).2.1.1
 ·exact⟨(DR h hi).2.2.t,(DR h hi).2.2.w⟩
 ·have:=WN hb _ (bJ _)
  unfold aU
  simp only[vl,List.length_map]at this ⊢
  omega
 ·exact XY h hi
 ·exact XX h hi
 ·exact h.qw i hi
 ·exact ye9 h hi
 ·exact h.nr _ (mF.2 ⟨_,ll hi,rfl⟩)
 ·exact h.nm _ (mF.2 ⟨_,ll hi,rfl⟩)
end
theorem zyz{P:Program}{f:FuncId}{ds:List D}{Q Q':AV→Prop}(h:tq P f ds Q)(hq:∀r,Q r→Q' r):tq P f ds Q':=
 ⟨h.1,fun w O vals h1 h2 h3=>(h.2 w O vals h1 h2 h3).mono fun e w' ⟨v,r,he,hr,h4,h5⟩=>⟨v,r,he,hq r hr,h4,h5⟩⟩
theorem jsi(b:List Int)(hb:rJ b)(hl:b.length≤maxLen):tq prog 9 [.agg [aI b]] fun r=>∃p,jL p∧r= .d (dI p):=
 zyz (jse b hb hl) fun r ⟨rw,tw,mw,rs,ms,ts,qs,h,e⟩=>⟨_,jsh h,by rw[e,jl4 h];rfl⟩
section
variable {P:Program} {fn:Func} {Q:AV→av→Prop} {τ:Fr} {H:av}
theorem Mq{l:List ResultVar}(h:fn.results.toList=l)(hq:qm P τ H l fun xs=>Q (uh xs) H):rI P fn Q .ret τ H:=by
 show qm P τ H fn.results.toList _
 rw[h];exact hq
theorem zW{t:Tmp}{l:List ResultVar}{K:List AV→Prop}(h:qm P τ H l fun xs=>K (τ t::xs)):qm P τ H (.tmp t::l) K:=h
theorem jzd{t:Tmp}{ty:TypeId}{l:List ResultVar}{K:List AV→Prop}(h:oK (fS P H.length H ty (τ t)) (tg fun x=>qm P τ H l fun xs=>K (x::xs))):qm P τ H (.cell t ty::l) K:=by
 obtain⟨x,h1,h2⟩:=h
 exact⟨x,BR h1,h2⟩
end
end
section
structure QO (p:Pr) (s:EF) (jA:List Head) (kN:List Bool):Prop where
 rl:s.aC.length=p.aC.length
 rv:∀i,i<p.aC.length→0≤nth s.aC i∧nth s.aC i<2^(nth p.aC i).w
 ml:s.au.length=p.au.length
 mw:∀i,i<p.au.length→(nth s.au i).length=(nth p.au i).words
 mv:∀i,i<p.au.length→∀k,k<(nth p.au i).words→0≤nth (nth s.au i) k∧nth (nth s.au i) k<2^(nth p.au i).w
 hl:jA.length=p.ag.length
 hv:∀i,i<p.ag.length→0≤(nth jA i).v∧(nth jA i).v<2^(nth p.ag i).w
 ol:kN.length=p.aE.length
section
variable {p:Pr} {s:EF} {jA:List Head} {kN:List Bool}
end
section
variable {p:Pr} {s:EF} {jA:List Head} {kN:List Bool}
variable (h:cB p) (hs:QO p s jA kN)
include h hs
variable (AS:∀k,k<(aR p).au.length→(nth (aR p).au k).1=1∨(nth (aR p).au k).1=2∨(nth (aR p).au k).1=4∨(nth (aR p).au k).1=8)
include AS
end
end
section
section
variable {p:Pr} {s:EF} {jA:List Head} {kN:List Bool}
variable (h:cB p) (hs:QO p s jA kN)
 (AS:∀k,k<(aR p).au.length→(nth (aR p).au k).1=1∨(nth (aR p).au k).1=2∨(nth (aR p).au k).1=4∨(nth (aR p).au k).1=8)
include h hs AS
end
end
section
section
variable {p:Pr}
end
section
variable {p:Pr} {s:EF} {jA:List Head} {kN:List Bool}
variable (h:cB p) (hs:QO p s jA kN)
include h hs
variable (AS:∀k,k<(aR p).au.length→(nth (aR p).au k).1=1∨(nth (aR p).au k).1=2∨(nth (aR p).au k).1=4∨(nth (aR p).au k).1=8)
include AS
end
set_option maxRecDepth 100000
set_option maxHeartbeats 4000000
end
theorem yj6:(type_of% @vN):=@vN
structure QS (n:Net):Prop where
 il:n.ins.length≤1000
 gl:n.gates.length≤1000
 ol:n.out.length≤1000
 od:n.out.length=n.aP.length
 g:Iu (2+n.ins.length) n.gates
 d:Ly (2+n.ins.length+n.gates.length) n.aP
 wi:∀w∈n.ins,nB w
 wo:∀w∈n.out,jQ w
def cN(n:Nat)(gs:Gs):List D:=[iD n,bt gs]
def dG(n:Nat)(r:Re):List D:=[iD n,bt r.1,iD r.2]
def dy(n:Nat)(r:Re):D:=.agg (dG n r)
theorem jh9{α:Type}[Inhabited α]{l:List α}{g:α}(h:∀j,j<l.length→nth l j≠g):¬g∈l:=fun hm=>by
 obtain⟨j,hj,e⟩:=List.mem_iff_getElem.1 hm
 exact h j hj (by rw[o7 hj];exact e)
theorem jcy(a b:aT):(a.kind==b.kind&&(a.i==b.i&&a.bit==b.bit))=decide (a=b):=by
 rw[Bool.eq_iff_iff];cases a;cases b;simp
theorem jcz(a b:Gate):(a.op==b.op&&(a.a==b.a&&(a.b==b.b&&(a.c==b.c&&a.n==b.n))))=decide (a=b):=by
 rw[Bool.eq_iff_iff];cases a;cases b;simp
theorem Ob{p q:Prop}(hq:q)(h:p=q:=by
 conv=>lhs;simp -dsimp -implicitDefEqProofs (disch:=first|assumption|omega|(simp only[aH,aQ]<;>omega)|decide) only[aN,↓reduceIte,Nat.reduceEqDiff,Nat.reduceAdd,D.fix,Int.reduceToNat,Nat.reduceMul,Nat.reduceBNe,Nat.reduceBEq,bQ,vd,rL,cr,mY,bw]):p:=h.mpr hq
theorem XW{p q:Prop}(hq:q)(h:p=q:=by
 conv=>lhs;simp -dsimp -implicitDefEqProofs (disch:=first|assumption|omega|(simp only[aH,aQ]<;>omega)|decide) only[aN,↓reduceIte,Nat.reduceEqDiff,Nat.reduceAdd,D.fix,Int.reduceToNat,Nat.reduceMul,Nat.reduceBNe,Nat.reduceBEq,bQ,vd,rL,cr,mY]):p:=h.mpr hq
theorem WM{m:List Nat}{τ τ':Fr}{H H':av}(h2:H=H')(h:fw τ τ':=by
 repeat (first|exact cw _|refine cg ?_ (by first|rfl|(simp[aX,aQ];done)|simp[aX,aQ, *]))):Rt m τ H τ' H':=Rt.end h h2
theorem WL{p:Prop}(h:p:=by
 first|rfl|(simp only[cP,Nat.reduceAdd,↓reduceIte,Nat.reduceEqDiff,bQ,vd,rL,cr,mY];first|done|rfl)):p:=h
theorem E2(l:List aT)(w:aT)(hl:l.length≤1000000)(hw:w∈l):dq prog 114 [bQ l,.agg (cr w)] (.d (iD (kL w l))):=by
 refine fh (fn:=f114) (by kernel_rfl) func114 rfl (cn rfl) fun c hc hp=>?_
 refine dY (τ':=aF [(0,.d (bQ l)),(1,.d (.agg (cr w)))]) (by repeat (first|exact cw _|refine cg ?_ (by first|rfl|(simp[aX,aQ];done)|simp[aX,aQ, *]))) ?_
 refine ah (Ob ·) ?_
 refine aD fun K2 bS=>?_
 refine ah (XW ·) ?_
 refine aW ?_
 refine cU hp (fun τ' H' mm=>∃(k:Nat),(k≤l.length∧∀j,j<k→nth l j≠w)∧mm=l.length - k∧H'=[.cells (ak (cr w))]∧τ'=aF [(0,.d (bQ l)),(3,.op 0 0),(5,.d (iD k))]) (l.length) ?_ ⟨0,⟨cF _,fun j hj=>by omega⟩,rfl,rfl,rfl⟩ ?_
 ·refine WM ?_
  exact WL
 rintro τ' H' mm ⟨k,⟨hk,gq⟩,rfl,rfl,rfl⟩
 refine aD fun K4 dE=>?_
 refine ah (Ob ·) ?_
 refine bf rfl (fun ht=>?_) (fun ht=>?_)
 ·have aA:k<l.length:=by simp at ht;omega
  refine bg (dE _ _ ?_)
  refine aD fun K6 cK=>?_
  refine aW ?_
  refine dO ax hc mixed rfl (q:=0) (by kernel_rfl) (by kernel_rfl) fun K7 cL=>?_
  simp -dsimp -implicitDefEqProofs (disch:=first|assumption|omega|(simp only[aH,aQ]<;>omega)|decide) only[aN,↓reduceIte,Nat.reduceEqDiff,Nat.reduceAdd,D.fix,Int.reduceToNat,Nat.reduceMul,Nat.reduceBNe,Nat.reduceBEq,bQ,vd,rL,cr,mY,bw,z7 KR,z7 KR]
  refine cL _ _ ?_
  refine bf rfl (fun ht=>?_) (fun ht=>?_)
  ·rw[jcy]at ht
   have e:=of_decide_eq_true ht
   refine ah (XW ·) ?_
   refine aM ?_
   show ai _ _=_
   simp (disch:=first|assumption|omega|(simp only[aH,aQ]<;>omega)|decide) only[fA,Nat.reduceAdd,D.fix,↓reduceIte,Nat.reduceEqDiff,bQ,vd,rL,cr,mY]
   rw[jhr aA gq e]
  ·rw[jcy]at ht
   have e:=of_decide_eq_false ht
   refine bg (cK _ _ ?_)
   refine bT hp ax hc rfl fun K9 cX=>?_
   refine Ob ?_
   refine cX _ _ ⟨_,_,_,?_,⟨k+1,⟨by omega,fun j hj=>by rcases(show j<k∨j=k by omega)with h|h;exact gq j h;subst h;exact e⟩,rfl,rfl,rfl⟩,?_⟩
   ·first|omega|(simp only[List.length_cons];omega)|(dsimp only;omega)
   ·refine Rt.trans (Rt.gc (keep:=[0]) (by decide) (by decide) (by simp[eJ,dg])) ?_
    refine WM ?_
    exact WL
 ·exact absurd hw (jh9 fun j hj=>gq j (by simp at ht;omega))
theorem Mi{N:Nat}{al:List Nat}{k id off n:Nat}(h:al.contains (id - N)=true):rM N al (.os k id off n)=true:=by
 unfold rM;simp only[h,Bool.or_true]
theorem jsk{g:Gate}{gs:Gs}{k:Nat}(hk:k<gs.length)(h:∀j,j<k→nth gs j≠g)(e:nth gs k=g){n:Nat}:gw (2+n) gs g=(gs,((2+n+k:Nat):Int)):=by
 unfold gw
 have hm:g∈gs:=by rw[←e];exact ll hk
 rw[if_pos hm,jhn (x:=g) hk h e]
theorem jsl{g:Gate}{gs:Gs}(h:∀j,j<gs.length→nth gs j≠g){n:Nat}:gw (2+n) gs g=(gs++[g],((2+n+gs.length:Nat):Int)):=by
 unfold gw
 rw[if_neg (jh9 h)]
theorem Gw{p q:Prop}(hq:q)(h:p=q:=by
 conv=>lhs;simp -dsimp -implicitDefEqProofs (disch:=first|assumption|omega|(simp only[aH,bc]<;>omega)|decide) only[aN,↓reduceIte,Nat.reduceEqDiff,Nat.reduceAdd,D.fix,Int.reduceToNat,Nat.reduceMul,Nat.reduceBNe,Nat.reduceBEq,cN,bt,ve,qA,aY,mY,bw]):p:=h.mpr hq
theorem WK{m:List Nat}{τ τ':Fr}{H H':av}(h2:H=H')(h:fw τ τ':=by
 repeat (first|exact cw _|refine cg ?_ (by first|rfl|(simp[aX,bc];done)|simp[aX,bc, *]))):Rt m τ H τ' H':=Rt.end h h2
theorem XV{p q:Prop}(hq:q)(h:p=q:=by
 conv=>lhs;simp -dsimp -implicitDefEqProofs (disch:=first|assumption|omega|(simp only[aH,bc]<;>omega)|decide) only[aN,↓reduceIte,Nat.reduceEqDiff,Nat.reduceAdd,D.fix,Int.reduceToNat,Nat.reduceMul,Nat.reduceBNe,Nat.reduceBEq,cN,bt,ve,qA,aY,mY,BZ,Bz]):p:=h.mpr hq
theorem WJ{p:Prop}(h:p:=by
 first|rfl|(simp only[cP,Nat.reduceAdd,↓reduceIte,Nat.reduceEqDiff,cN,bt,ve,qA,aY,mY];first|done|rfl)):p:=h
theorem WI{p q:Prop}(hq:q)(h:p=q:=by
 conv=>lhs;simp (disch:=first|assumption|omega|(simp only[aH,bc]<;>omega)|decide) only[fA,Nat.reduceAdd,D.fix,↓reduceIte,Nat.reduceEqDiff,cN,bt,ve,qA,aY,mY]):p:=h.mpr hq
theorem BI(n:Nat)(gs:Gs)(g:Gate)(hn:n≤1000000)(hl:gs.length≤1000000):dq prog 119 [.agg (cN n gs),.agg (aY g)] (.d (dy n (gw (2+n) gs g))):=by
 refine fh (fn:=f119) (by kernel_rfl) func119 rfl (cn rfl) fun c hc hp=>?_
 refine dY (τ':=aF [(0,.d (.agg (cN n gs))),(1,.d (.agg (aY g)))]) (by repeat (first|exact cw _|refine cg ?_ (by first|rfl|(simp[aX,bc];done)|simp[aX,bc, *]))) ?_
 refine ah (Gw ·) ?_
 refine aD fun K2 bS=>?_
 refine aZ hp ax hc rfl fun K3 cm=>?_
 simp -dsimp -implicitDefEqProofs (disch:=first|assumption|omega|(simp only[aH,bc]<;>omega)|decide) only[aN,↓reduceIte,Nat.reduceEqDiff,Nat.reduceAdd,D.fix,Int.reduceToNat,Nat.reduceMul,Nat.reduceBNe,Nat.reduceBEq,cN,bt,ve,qA,aY,mY]
 refine cm _ _ ?_
 refine aW ?_
 refine cU hp (fun τ' H' mm=>∃(k:Nat),(k≤gs.length∧∀j,j<k→nth gs j≠g)∧mm=gs.length - k∧H'=[.cells (ak (cN n gs)),.cells (ak (aY g)),.cells [.d (iD 0),.d (.val (.slice none 0 0)),.d (iD 0)]]∧τ'=aF [(2,.op 0 0),(3,.op 1 0),(4,.op 2 0),(5,.d (iD k))]) (gs.length) ?_ ⟨0,⟨cF _,fun j hj=>by omega⟩,rfl,rfl,rfl⟩ ?_
 ·refine WK ?_
  exact WJ
 rintro τ' H' mm ⟨k,⟨hk,gq⟩,rfl,rfl,rfl⟩
 refine aD fun K4 dE=>?_
 refine ah (Gw ·) ?_
 refine bf rfl (fun ht=>?_) (fun ht=>?_)
 ·have aA:k<gs.length:=by simp at ht;omega
  refine bg (dE _ _ ?_)
  refine aD fun K6 cK=>?_
  refine aW ?_
  refine dO ax hc mixed rfl (q:=0) (by kernel_rfl) (by kernel_rfl) fun K7 cL=>?_
  simp -dsimp -implicitDefEqProofs (disch:=first|assumption|omega|(simp only[aH,bc]<;>omega)|decide) only[aN,↓reduceIte,Nat.reduceEqDiff,Nat.reduceAdd,D.fix,Int.reduceToNat,Nat.reduceMul,Nat.reduceBNe,Nat.reduceBEq,cN,bt,ve,qA,aY,mY,bw,z7 KQ,z7 KQ]
  refine cL _ _ ?_
  refine bf rfl (fun ht=>?_) (fun ht=>?_)
  ·rw[jcz]at ht
   have e:=of_decide_eq_true ht
   refine ah (Gw ·) ?_
   refine aM ?_
   try dsimp only[cC,cI]
   refine cS rfl ?_
   refine XV ?_
   show ai _ _=_
   refine WI ?_
   have e2:(2:Int)+n+k=((2+n+k:Nat):Int):=by omega
   rw[jsk aA gq e,e2];rfl
  ·rw[jcz]at ht
   have e:=of_decide_eq_false ht
   refine bg (cK _ _ ?_)
   refine bT hp ax hc rfl fun K9 cX=>?_
   refine Gw ?_
   refine cX _ _ ⟨_,_,_,?_,⟨k+1,⟨by omega,fun j hj=>by rcases(show j<k∨j=k by omega)with h|h;exact gq j h;subst h;exact e⟩,rfl,rfl,rfl⟩,?_⟩
   ·first|omega|(simp only[List.length_cons];omega)|(dsimp only;omega)
   ·refine Rt.trans (Rt.gc (keep:=[0,1,2]) (by decide) (by decide) (by simp[eJ,dg])) ?_
    refine WK ?_
    exact WJ
 ·have bM:k=gs.length:=by simp at ht;omega
  subst bM
  refine cJ (bS _ _ ?_)
  refine dO ax hc mixed rfl (q:=4) (by kernel_rfl) (by kernel_rfl) fun j4 bW=>?_
  simp -dsimp -implicitDefEqProofs (disch:=first|assumption|omega|(simp only[aH,bc]<;>omega)|decide) only[aN,↓reduceIte,Nat.reduceEqDiff,Nat.reduceAdd,D.fix,Int.reduceToNat,Nat.reduceMul,Nat.reduceBNe,Nat.reduceBEq,cN,bt,ve,qA,aY,mY,Mi,List.filterMap_cons,bw]
  refine bW _ _ ?_
  refine ah (Gw ·) ?_
  refine aM ?_
  try dsimp only[cC,cI]
  refine cS rfl ?_
  refine XV ?_
  show ai _ _=_
  refine WI ?_
  have e1:(gs.flatMap aY++[iD g.op]++[iD g.a]++[iD g.b]++[iD g.c]++[iD g.n]).map D.fix=(gs++[g]).flatMap aY:=by
   rw[←L6 (gs++[g])];simp[aY]
  have e2:(1:Int)+n+((gs.length+1:Nat):Int)=((2+n+gs.length:Nat):Int):=by omega
  rw[jsl gq,e2]
  unfold dy dG bt
  rw[←e1,List.length_append];rfl
theorem XU{p q:Prop}(hq:q)(h:p=q:=by
 conv=>lhs;simp -dsimp -implicitDefEqProofs (disch:=first|assumption|omega|(simp only[aH,bc]<;>omega)|decide) only[aN,↓reduceIte,Nat.reduceEqDiff,Nat.reduceAdd,D.fix,Int.reduceToNat,Nat.reduceMul,Nat.reduceBNe,Nat.reduceBEq,cN,bt,EX,EW,aY,bw]):p:=h.mpr hq
theorem Ks{p q r:Prop}(e:r)(hq:q)(h:r→p=q:=by
 intro hY
 conv=>lhs;simp -dsimp -implicitDefEqProofs (disch:=first|assumption|omega|(simp only[aH,bc]<;>omega)|decide) only[aN,↓reduceIte,Nat.reduceEqDiff,Nat.reduceAdd,D.fix,Int.reduceToNat,Nat.reduceMul,Nat.reduceBNe,Nat.reduceBEq,cN,bt,EX,EW,aY,bw,hY]):p:=(h e).mpr hq
theorem XT{p q:Prop}(hq:q)(h:p=q:=by
 conv=>lhs;simp -dsimp -implicitDefEqProofs (disch:=first|assumption|omega|(simp only[aH,bc]<;>omega)|decide) only[aN,↓reduceIte,Nat.reduceEqDiff,Nat.reduceAdd,D.fix,Int.reduceToNat,Nat.reduceMul,Nat.reduceBNe,Nat.reduceBEq,cN,bt,EX,EW,aY]):p:=h.mpr hq
theorem Nb{p q:Prop}(hq:q)(h:p=q:=by
 conv=>lhs;simp (disch:=first|assumption|omega|(simp only[aH,bc]<;>omega)|decide) only[fA,Nat.reduceAdd,D.fix,↓reduceIte,Nat.reduceEqDiff,cN,bt,EX,EW,aY]):p:=h.mpr hq
theorem Me(n:Nat)(gs:Gs)(x:Int)(hn:n≤1000000)(hl:gs.length≤1000000)(h0:0≤x)(hx:x<((2+n:Nat):Int)+gs.length):dq prog 169 [.agg (cN n gs),iD x] (.d (iD (fV (2+n) gs x))):=by
 refine fh (fn:=f169) (by kernel_rfl) func169 rfl (cn rfl) fun c hc hp=>?_
 refine dY (τ':=aF [(0,.d (.agg (cN n gs))),(1,.d (iD x))]) (by repeat (first|exact cw _|refine cg ?_ (by first|rfl|(simp[aX,bc];done)|simp[aX,bc, *]))) ?_
 refine ah (XU ·) ?_
 refine aZ hp ax hc rfl fun K2 bS=>?_
 by_cases hg:((2+n:Nat):Int)≤x
 ·obtain⟨k,hk⟩:∃k:Nat,x - 2 - (n:Int)=(k:Int):=⟨(x - 2 - n).toNat,by omega⟩
  have aA:k<gs.length:=by omega
  have q:decide ((k:Int)≥0)=true:=decide_eq_true (by omega)
  have bM:(x - ((2+n:Nat):Int)).toNat=k:=by omega
  have fk:fV (2+n) gs x=if(nth gs k).op=1 then(nth gs k).a else -1:=by
   unfold fV;rw[bM]
   by_cases h1:(nth gs k).op=1
   ·rw[if_pos ⟨hg,h1⟩,if_pos h1]
   ·rw[if_neg (fun e=>h1 e.2),if_neg h1]
  refine Ks hk ?_
  refine bS _ _ ?_
  refine aD fun K3 cm=>?_
  refine ah (Ks q ·) ?_
  refine bf rfl (fun ht=>?_) (fun ht=>?_)
  ·refine ah (XU ·) ?_
   refine aM ?_
   show ai _ _=_
   refine Nb ?_
   have Pq:(nth gs k).op=1:=by simpa using ht
   rw[fk,if_pos Pq]
  ·refine bg (cm _ _ ?_)
   refine ah (XT ·) ?_
   refine aM ?_
   show ai _ _=_
   refine Nb ?_
   have Pq:¬(nth gs k).op=1:=by simpa using ht
   rw[fk,if_neg Pq]
 ·have fk:fV (2+n) gs x= -1:=by
   unfold fV;rw[if_neg (fun e=>hg e.1)]
  have aA:x - 2 - (n:Int)<0:=by omega
  have q:decide (x - 2 - (n:Int)≥0)=false:=decide_eq_false (by omega)
  have hk:True:=trivial
  refine Ks hk ?_
  refine bS _ _ ?_
  refine aD fun K7 cL=>?_
  refine ah (Ks q ·) ?_
  refine bA ?_
  refine bg (cL _ _ ?_)
  refine ah (XT ·) ?_
  refine aM ?_
  show ai _ _=_
  refine Nb ?_
  rw[fk]
theorem Gv{p q r:Prop}(e:r)(hq:q)(h:r→p=q:=by
 intro hY
 conv=>lhs;simp -dsimp -implicitDefEqProofs (disch:=first|assumption|omega|(simp only[aH]<;>omega)|decide) only[aN,↓reduceIte,Nat.reduceEqDiff,Nat.reduceAdd,D.fix,Int.reduceToNat,Nat.reduceMul,Nat.reduceBNe,Nat.reduceBEq,cN,bt,bw,hY]):p:=(h e).mpr hq
theorem WH{p q:Prop}(hq:q)(h:p=q:=by
 conv=>lhs;simp (disch:=first|assumption|omega|(simp only[aH]<;>omega)|decide) only[fA,Nat.reduceAdd,D.fix,↓reduceIte,Nat.reduceEqDiff,cN,bt]):p:=h.mpr hq
theorem OJ(n:Nat)(gs:Gs)(x y:Int)(hn:n≤1000000)(hl:gs.length≤1000000)(hx:bm (2+n) gs x)(hy:bm (2+n) gs y):dq prog 118 [.agg (cN n gs),iD x,iD y] (.d (oD (jo (2+n) gs x y))):=by
 have c1:=Me n gs x hn hl hx.1 hx.2
 have c2:=Me n gs y hn hl hy.1 hy.2
 refine fh (fn:=f118) (by kernel_rfl) func118 rfl (cn rfl) fun c hc hp=>?_
 refine dY (τ':=aF [(0,.d (.agg (cN n gs))),(1,.d (iD x)),(2,.d (iD y))]) (by repeat (first|exact cw _|refine cg ?_ (by first|rfl|(simp[aX];done)|simp[aX, *]))) ?_
 refine aZ hp ax hc rfl fun K1 nw=>?_
 simp -dsimp -implicitDefEqProofs (disch:=first|assumption|omega|(simp only[aH]<;>omega)|decide) only[aN,↓reduceIte,Nat.reduceEqDiff,Nat.reduceAdd,D.fix,Int.reduceToNat,Nat.reduceMul,Nat.reduceBNe,Nat.reduceBEq,cN,bt,bw]
 refine nw _ _ ?_
 refine aZ hp ax hc rfl fun K2 bS=>?_
 by_cases hg:fV (2+n) gs x=y
 ·have q:(fV (2+n) gs x==y)=true:=by simpa using hg
  have e:jo (2+n) gs x y=true:=by unfold jo;simp[hg]
  refine Gv q ?_
  refine bx (c1) rfl ?_
  refine Gv q ?_
  refine bS _ _ ?_
  refine aM ?_
  show ai _ _=_
  refine WH ?_
  rw[e]
 ·have q:(fV (2+n) gs x==y)=false:=by simpa using hg
  have e:jo (2+n) gs x y=(fV (2+n) gs y==x):=by
   unfold jo;rw[Bool.eq_iff_iff];simp[hg]
  refine Gv q ?_
  refine bx (c1) rfl ?_
  refine Gv q ?_
  refine bx (c2) rfl ?_
  refine Gv q ?_
  refine bS _ _ ?_
  refine aM ?_
  show ai _ _=_
  refine WH ?_
  rw[e]
theorem yu{p q:Prop}(hq:q)(h:p=q:=by
 conv=>lhs;simp -dsimp -implicitDefEqProofs (disch:=first|assumption|omega|(simp only[aH]<;>omega)|decide) only[aN,↓reduceIte,Nat.reduceEqDiff,Nat.reduceAdd,D.fix,Int.reduceToNat,Nat.reduceMul,Nat.reduceBNe,Nat.reduceBEq,cN,bt,dy,dG,bw]):p:=h.mpr hq
theorem OI{p q:Prop}(hq:q)(h:p=q:=by
 conv=>lhs;simp -dsimp -implicitDefEqProofs (disch:=first|assumption|omega|(simp only[aH]<;>omega)|decide) only[aN,↓reduceIte,Nat.reduceEqDiff,Nat.reduceAdd,D.fix,Int.reduceToNat,Nat.reduceMul,Nat.reduceBNe,Nat.reduceBEq,cN,bt,dy,dG,BZ,Bz]):p:=h.mpr hq
theorem Na{p q:Prop}(hq:q)(h:p=q:=by
 conv=>lhs;simp (disch:=first|assumption|omega|(simp only[aH]<;>omega)|decide) only[fA,Nat.reduceAdd,D.fix,↓reduceIte,Nat.reduceEqDiff,cN,bt,dy,dG]):p:=h.mpr hq
theorem zV(n:Nat)(gs:Gs)(x:Int)(hn:n≤1000000)(hl:gs.length≤900000)(hx:bm (2+n) gs x):dq prog 115 [.agg (cN n gs),iD x] (.d (dy n (dH (2+n) gs x))):=by
 have h0:=hx.1;have h1:=hx.2
 have c1:=Me n gs x hn (by omega) hx.1 hx.2
 have c2:=BI n gs ⟨1,x,0,0,0⟩ hn (by omega)
 refine fh (fn:=f115) (by kernel_rfl) func115 rfl (cn rfl) fun c hc hp=>?_
 refine dY (τ':=aF [(0,.d (.agg (cN n gs))),(1,.d (iD x))]) (by repeat (first|exact cw _|refine cg ?_ (by first|rfl|(simp[aX];done)|simp[aX, *]))) ?_
 refine ah (yu ·) ?_
 refine aD fun K2 bS=>?_
 refine ah (yu ·) ?_
 refine bf rfl (fun ht=>?_) (fun ht=>?_)
 ·have n2:x<2:=by simpa using ht
  refine ah (yu ·) ?_
  refine aM ?_
  try dsimp only[cC,cI]
  refine cS rfl ?_
  refine OI ?_
  show ai _ _=_
  refine Na ?_
  simp only[dH,if_pos n2]
 ·have n2:¬x<2:=by simpa using ht
  refine bg (bS _ _ ?_)
  refine aD fun K5 dx=>?_
  refine aZ hp ax hc rfl fun K6 cK=>?_
  refine yu ?_
  refine bx (c1) rfl ?_
  refine yu ?_
  refine cK _ _ ?_
  refine bf rfl (fun ht=>?_) (fun ht=>?_)
  ·have n3:0≤fV (2+n) gs x:=by simpa using ht
   refine dO ax hc mixed rfl (q:=0) (by kernel_rfl) (by kernel_rfl) fun K7 cL=>?_
   refine yu ?_
   refine bx (c1) rfl ?_
   refine yu ?_
   refine cL _ _ ?_
   refine aM ?_
   try dsimp only[cC,cI]
   refine cS rfl ?_
   refine OI ?_
   show ai _ _=_
   refine Na ?_
   simp only[dH,if_neg n2,if_pos n3]
  ·have n3:¬0≤fV (2+n) gs x:=by simpa using ht
   refine bg (dx _ _ ?_)
   refine aZ hp ax hc rfl fun K8 dP=>?_
   refine yu ?_
   refine bx (c2) rfl ?_
   refine yu ?_
   refine dP _ _ ?_
   refine aM ?_
   try dsimp only[cC,cI]
   refine cS rfl ?_
   refine OI ?_
   show ai _ _=_
   refine Na ?_
   simp only[dH,if_neg n2,if_neg n3]
theorem jl6{n:Nat}{gs:Gs}(h:GI (2+n) gs){y:Int}(hy:bm (2+n) gs y):jo (2+n) gs 0 y=false:=by
 have y0:=hy.1;have y1:=hy.2
 unfold jo
 have e1:fV (2+n) gs 0≠y:=by
  unfold fV;rw[if_neg (fun e=>by have:=e.1;omega)];omega
 have e2:fV (2+n) gs y≠0:=by
  unfold fV
  split
  ·rename_i e
   have hk:(y - ((2+n:Nat):Int)).toNat<gs.length:=by have:=e.1;omega
   have:=((h.no _ hk).nt e.2).1
   omega
  ·omega
 simp[e1,e2]
theorem uW{p q:Prop}(hq:q)(h:p=q:=by
 conv=>lhs;simp -dsimp -implicitDefEqProofs (disch:=first|assumption|omega|(simp only[aH]<;>omega)|decide) only[aN,↓reduceIte,Nat.reduceEqDiff,Nat.reduceAdd,D.fix,Int.reduceToNat,Nat.reduceMul,Nat.reduceBNe,Nat.reduceBEq,cN,bt,dy,dG,bw]):p:=h.mpr hq
theorem Gu{p q r:Prop}(e:r)(hq:q)(h:r→p=q:=by
 intro hY
 conv=>lhs;simp -dsimp -implicitDefEqProofs (disch:=first|assumption|omega|(simp only[aH]<;>omega)|decide) only[aN,↓reduceIte,Nat.reduceEqDiff,Nat.reduceAdd,D.fix,Int.reduceToNat,Nat.reduceMul,Nat.reduceBNe,Nat.reduceBEq,cN,bt,dy,dG,bw,hY]):p:=(h e).mpr hq
theorem Ea{p q:Prop}(hq:q)(h:p=q:=by
 conv=>lhs;simp -dsimp -implicitDefEqProofs (disch:=first|assumption|omega|(simp only[aH]<;>omega)|decide) only[aN,↓reduceIte,Nat.reduceEqDiff,Nat.reduceAdd,D.fix,Int.reduceToNat,Nat.reduceMul,Nat.reduceBNe,Nat.reduceBEq,cN,bt,dy,dG,BZ,Bz]):p:=h.mpr hq
theorem F3{p q:Prop}(hq:q)(h:p=q:=by
 conv=>lhs;simp (disch:=first|assumption|omega|(simp only[aH]<;>omega)|decide) only[fA,Nat.reduceAdd,D.fix,↓reduceIte,Nat.reduceEqDiff,cN,bt,dy,dG]):p:=h.mpr hq
theorem Zz(n:Nat)(gs:Gs)(x y:Int)(hn:n≤1000000)(hl:gs.length≤900000)(iV:GI (2+n) gs)(hx:bm (2+n) gs x)(hy:bm (2+n) gs y)(mJ:x≤y):dq prog 60 [.agg (cN n gs),iD x,iD y] (.d (dy n (dj (2+n) gs x y))):=by
 have x0:=hx.1;have x1:=hx.2;have y0:=hy.1;have y1:=hy.2
 have wH:=OJ n gs x y hn (by omega) hx hy
 have sL:=BI n gs ⟨2,x,y,0,0⟩ hn (by omega)
 have mn:min x y=x:=by omega
 have mx:max x y=y:=by omega
 refine fh (fn:=f60) (by kernel_rfl) func60 rfl (cn rfl) fun c hc hp=>?_
 refine dY (τ':=aF [(0,.d (.agg (cN n gs))),(1,.d (iD x)),(2,.d (iD y))]) (by repeat (first|exact cw _|refine cg ?_ (by first|rfl|(simp[aX];done)|simp[aX, *]))) ?_
 refine ah (uW ·) ?_
 refine aD fun K2 bS=>?_
 refine ah (uW ·) ?_
 refine bf rfl (fun ht=>?_) (fun ht=>?_)
 ·exact absurd (of_decide_eq_true ht) (by omega)
 ·refine bg (bS _ _ ?_)
  refine aD fun K4 dE=>?_
  refine aZ hp ax hc rfl fun K5 dx=>?_
  by_cases hg:x=0
  ·have q:(x==0)=true:=by simp[hg]
   refine Gu q ?_
   refine dx _ _ ?_
   refine dh ?_
   refine ah (uW ·) ?_
   refine aM ?_
   try dsimp only[cC,cI]
   refine cS rfl ?_
   refine Ea ?_
   show ai _ _=_
   refine F3 ?_
   simp only[dj,yW,mn,mx,if_pos (Or.inl hg:x=0∨jo (2+n) gs x y=true)]
  ·have q:(x==0)=false:=by simp[hg]
   refine Gu q ?_
   refine bx (wH) rfl ?_
   refine Gu q ?_
   refine dx _ _ ?_
   refine bf rfl (fun ht=>?_) (fun ht=>?_)
   ·have ho:x=0∨jo (2+n) gs x y=true:=.inr ht
    refine ah (uW ·) ?_
    refine aM ?_
    try dsimp only[cC,cI]
    refine cS rfl ?_
    refine Ea ?_
    show ai _ _=_
    refine F3 ?_
    simp only[dj,yW,mn,mx,if_pos ho]
   ·have ho:¬(x=0∨jo (2+n) gs x y=true):=fun e=>by rcases e with e|e;exact hg e;rw[ht]at e;cases e
    refine bg (dE _ _ ?_)
    refine aD fun K8 dP=>?_
    refine aZ hp ax hc rfl fun K9 cX=>?_
    by_cases hg:x=1
    ·have q5:(x==1)=true:=by simp[hg]
     refine Gu q5 ?_
     refine cX _ _ ?_
     refine dh ?_
     refine ah (uW ·) ?_
     refine aM ?_
     try dsimp only[cC,cI]
     refine cS rfl ?_
     refine Ea ?_
     show ai _ _=_
     refine F3 ?_
     simp only[dj,yW,mn,mx,if_neg ho,if_pos (Or.inl hg:x=1∨x=y)]
    ·have q5:(x==1)=false:=by simp[hg]
     refine Gu q5 ?_
     refine cX _ _ ?_
     refine bf rfl (fun ht=>?_) (fun ht=>?_)
     ·have h2:x=1∨x=y:=.inr (by simpa using ht)
      refine ah (uW ·) ?_
      refine aM ?_
      try dsimp only[cC,cI]
      refine cS rfl ?_
      refine Ea ?_
      show ai _ _=_
      refine F3 ?_
      simp only[dj,yW,mn,mx,if_neg ho,if_pos h2]
     ·have h2:¬(x=1∨x=y):=fun e=>by rcases e with e|e;exact hg e;simp[e]at ht
      refine bg (dP _ _ ?_)
      refine aZ hp ax hc rfl fun lK bN=>?_
      refine uW ?_
      refine bx (sL) rfl ?_
      refine uW ?_
      refine bN _ _ ?_
      refine aM ?_
      try dsimp only[cC,cI]
      refine cS rfl ?_
      refine Ea ?_
      show ai _ _=_
      refine F3 ?_
      simp only[dj,yW,mn,mx,if_neg ho,if_neg h2]
theorem jzk(n:Nat)(gs:Gs)(x y:Int)(hn:n≤1000000)(hl:gs.length≤900000)(iV:GI (2+n) gs)(hx:bm (2+n) gs x)(hy:bm (2+n) gs y)(mJ:y<x):dq prog 60 [.agg (cN n gs),iD x,iD y] (.d (dy n (dj (2+n) gs x y))):=by
 have hs:=Zz n gs y x hn hl iV hy hx (by omega)
 have e:dj (2+n) gs y x=dj (2+n) gs x y:=by unfold dj;rw[Int.min_comm,Int.max_comm]
 rw[e]at hs
 refine fh (fn:=f60) (by kernel_rfl) func60 rfl (cn rfl) fun c hc hp=>?_
 refine dY (τ':=aF [(0,.d (.agg (cN n gs))),(1,.d (iD x)),(2,.d (iD y))]) (by repeat (first|exact cw _|refine cg ?_ (by first|rfl|(simp[aX];done)|simp[aX, *]))) ?_
 refine ah (uW ·) ?_
 refine aD fun K2 bS=>?_
 refine ah (uW ·) ?_
 refine bf rfl (fun ht=>?_) (fun ht=>?_)
 ·refine aZ hp ax hc rfl fun K4 dE=>?_
  refine uW ?_
  refine bx (hs) rfl ?_
  refine uW ?_
  refine dE _ _ ?_
  refine aM ?_
  try dsimp only[cC,cI]
  refine cS rfl ?_
  refine Ea ?_
  show ai _ _=_
  simp (disch:=first|assumption|omega|(simp only[aH]<;>omega)|decide) only[fA,Nat.reduceAdd,D.fix,↓reduceIte,Nat.reduceEqDiff,cN,bt,dy,dG]
 ·exact absurd mJ (of_decide_eq_false ht)
theorem u4(n:Nat)(gs:Gs)(x y:Int)(hn:n≤1000000)(hl:gs.length≤900000)(iV:GI (2+n) gs)(hx:bm (2+n) gs x)(hy:bm (2+n) gs y):dq prog 60 [.agg (cN n gs),iD x,iD y] (.d (dy n (dj (2+n) gs x y))):=by
 by_cases h:x≤y
 ·exact Zz n gs x y hn hl iV hx hy h
 ·exact jzk n gs x y hn hl iV hx hy (by omega)
theorem fy{p q:Prop}(hq:q)(h:p=q:=by
 conv=>lhs;simp -dsimp -implicitDefEqProofs (disch:=first|assumption|omega|(simp only[aH]<;>omega)|decide) only[aN,↓reduceIte,Nat.reduceEqDiff,Nat.reduceAdd,D.fix,Int.reduceToNat,Nat.reduceMul,Nat.reduceBNe,Nat.reduceBEq,cN,bt,dy,dG,bw]):p:=h.mpr hq
theorem zS{p q r:Prop}(e:r)(hq:q)(h:r→p=q:=by
 intro hY
 conv=>lhs;simp -dsimp -implicitDefEqProofs (disch:=first|assumption|omega|(simp only[aH]<;>omega)|decide) only[aN,↓reduceIte,Nat.reduceEqDiff,Nat.reduceAdd,D.fix,Int.reduceToNat,Nat.reduceMul,Nat.reduceBNe,Nat.reduceBEq,cN,bt,dy,dG,bw,hY]):p:=(h e).mpr hq
theorem oF{p q:Prop}(hq:q)(h:p=q:=by
 conv=>lhs;simp -dsimp -implicitDefEqProofs (disch:=first|assumption|omega|(simp only[aH]<;>omega)|decide) only[aN,↓reduceIte,Nat.reduceEqDiff,Nat.reduceAdd,D.fix,Int.reduceToNat,Nat.reduceMul,Nat.reduceBNe,Nat.reduceBEq,cN,bt,dy,dG,BZ,Bz]):p:=h.mpr hq
theorem pK{p q:Prop}(hq:q)(h:p=q:=by
 conv=>lhs;simp (disch:=first|assumption|omega|(simp only[aH]<;>omega)|decide) only[fA,Nat.reduceAdd,D.fix,↓reduceIte,Nat.reduceEqDiff,cN,bt,dy,dG]):p:=h.mpr hq
theorem XS(n:Nat)(gs:Gs)(x y:Int)(hn:n≤1000000)(hl:gs.length≤900000)(iV:GI (2+n) gs)(hx:bm (2+n) gs x)(hy:bm (2+n) gs y)(mJ:x≤y):dq prog 116 [.agg (cN n gs),iD x,iD y] (.d (dy n (iM (2+n) gs x y))):=by
 have x0:=hx.1;have x1:=hx.2;have y0:=hy.1;have y1:=hy.2
 have wH:=OJ n gs x y hn (by omega) hx hy
 have sL:=BI n gs ⟨3,x,y,0,0⟩ hn (by omega)
 have mn:min x y=x:=by omega
 have mx:max x y=y:=by omega
 refine fh (fn:=f116) (by kernel_rfl) func116 rfl (cn rfl) fun c hc hp=>?_
 refine dY (τ':=aF [(0,.d (.agg (cN n gs))),(1,.d (iD x)),(2,.d (iD y))]) (by repeat (first|exact cw _|refine cg ?_ (by first|rfl|(simp[aX];done)|simp[aX, *]))) ?_
 refine ah (fy ·) ?_
 refine aD fun K2 bS=>?_
 refine ah (fy ·) ?_
 refine bf rfl (fun ht=>?_) (fun ht=>?_)
 ·exact absurd (of_decide_eq_true ht) (by omega)
 ·refine bg (bS _ _ ?_)
  refine aD fun K4 dE=>?_
  refine aZ hp ax hc rfl fun K5 dx=>?_
  rcases(show x=1∨x=0∨(x≠1∧0<x) by omega)with hg|hg|⟨hg,mL⟩
  ·have q:(x==1)=true:=by simp[hg]
   have q':True:=trivial
   refine zS (aw q q') ?_
   refine dx _ _ ?_
   refine dh ?_
   refine ah (fy ·) ?_
   refine aM ?_
   try dsimp only[cC,cI]
   refine cS rfl ?_
   refine oF ?_
   show ai _ _=_
   refine pK ?_
   simp only[iM,yK,mn,mx,if_pos (Or.inl hg:x=1∨jo (2+n) gs x y=true)]
  ·have q:(x==1)=false:=by simp[hg]
   have q':decide (x>0)=false:=decide_eq_false (by omega)
   refine zS (aw q q') ?_
   refine dx _ _ ?_
   refine bA ?_
   have ho:¬(x=1∨jo (2+n) gs x y=true):=fun e=>by rcases e with e|e;omega;rw[hg,jl6 iV hy]at e;cases e
   have q5:(x==0)=true:=by simp[hg]
   refine bg (dE _ _ ?_)
   refine aD fun K7 cL=>?_
   refine ah (zS q5 ·) ?_
   refine dh ?_
   refine ah (fy ·) ?_
   refine aM ?_
   try dsimp only[cC,cI]
   refine cS rfl ?_
   refine oF ?_
   show ai _ _=_
   refine pK ?_
   simp only[iM,yK,mn,mx,if_neg ho,if_pos (Or.inl hg:x=0∨x=y)]
  ·have q:(x==1)=false:=by simp[hg]
   have q':decide (x>0)=true:=decide_eq_true (by omega)
   refine zS (aw q q') ?_
   refine bx (wH) rfl ?_
   refine zS (aw q q') ?_
   refine dx _ _ ?_
   refine bf rfl (fun ht=>?_) (fun ht=>?_)
   ·have ho:x=1∨jo (2+n) gs x y=true:=.inr ht
    refine ah (fy ·) ?_
    refine aM ?_
    try dsimp only[cC,cI]
    refine cS rfl ?_
    refine oF ?_
    show ai _ _=_
    refine pK ?_
    simp only[iM,yK,mn,mx,if_pos ho]
   ·have ho:¬(x=1∨jo (2+n) gs x y=true):=fun e=>by rcases e with e|e;exact hg e;rw[ht]at e;cases e
    have q5:(x==0)=false:=by simp;omega
    refine bg (dE _ _ ?_)
    refine aD fun mh cQ=>?_
    refine ah (zS q5 ·) ?_
    refine bf rfl (fun ht=>?_) (fun ht=>?_)
    ·have h2:x=0∨x=y:=.inr (by simpa using ht)
     refine ah (fy ·) ?_
     refine aM ?_
     try dsimp only[cC,cI]
     refine cS rfl ?_
     refine oF ?_
     show ai _ _=_
     refine pK ?_
     simp only[iM,yK,mn,mx,if_neg ho,if_pos h2]
    ·have h2:¬(x=0∨x=y):=fun e=>by rcases e with e|e;omega;simp[e]at ht
     refine bg (cQ _ _ ?_)
     refine aZ hp ax hc rfl fun re dT=>?_
     refine fy ?_
     refine bx (sL) rfl ?_
     refine fy ?_
     refine dT _ _ ?_
     refine aM ?_
     try dsimp only[cC,cI]
     refine cS rfl ?_
     refine oF ?_
     show ai _ _=_
     refine pK ?_
     simp only[iM,yK,mn,mx,if_neg ho,if_neg h2]
theorem WG{p:Prop}(h:p:=by
 simp (disch:=first|assumption|omega|(simp only[aH]<;>omega)|decide) only[fA,Nat.reduceAdd,D.fix,↓reduceIte,Nat.reduceEqDiff,cN,bt,dy,dG]):p:=h
theorem yfe(n:Nat)(gs:Gs)(x y:Int)(hn:n≤1000000)(hl:gs.length≤900000)(iV:GI (2+n) gs)(hx:bm (2+n) gs x)(hy:bm (2+n) gs y)(mJ:y<x):dq prog 116 [.agg (cN n gs),iD x,iD y] (.d (dy n (iM (2+n) gs x y))):=by
 have hs:=XS n gs y x hn hl iV hy hx (by omega)
 have e:iM (2+n) gs y x=iM (2+n) gs x y:=by unfold iM;rw[Int.min_comm,Int.max_comm]
 rw[e]at hs
 refine fh (fn:=f116) (by kernel_rfl) func116 rfl (cn rfl) fun c hc hp=>?_
 refine dY (τ':=aF [(0,.d (.agg (cN n gs))),(1,.d (iD x)),(2,.d (iD y))]) (by repeat (first|exact cw _|refine cg ?_ (by first|rfl|(simp[aX];done)|simp[aX, *]))) ?_
 refine ah (fy ·) ?_
 refine aD fun K2 bS=>?_
 refine ah (fy ·) ?_
 refine bf rfl (fun ht=>?_) (fun ht=>?_)
 ·refine aZ hp ax hc rfl fun K4 dE=>?_
  refine fy ?_
  refine bx (hs) rfl ?_
  refine fy ?_
  refine dE _ _ ?_
  refine aM ?_
  try dsimp only[cC,cI]
  refine cS rfl ?_
  refine oF ?_
  show ai _ _=_
  exact WG
 ·exact absurd mJ (of_decide_eq_false ht)
theorem D9(n:Nat)(gs:Gs)(x y:Int)(hn:n≤1000000)(hl:gs.length≤900000)(iV:GI (2+n) gs)(hx:bm (2+n) gs x)(hy:bm (2+n) gs y):dq prog 116 [.agg (cN n gs),iD x,iD y] (.d (dy n (iM (2+n) gs x y))):=by
 by_cases h:x≤y
 ·exact XS n gs x y hn hl iV hx hy h
 ·exact yfe n gs x y hn hl iV hx hy (by omega)
theorem Zy(n:Nat)(gs:Gs)(x y:Int)(hn:n≤1000000)(hl:gs.length≤900000)(iV:GI (2+n) gs)(hx:bm (2+n) gs x)(hy:bm (2+n) gs y)(mJ:x≤y):dq prog 170 [.agg (cN n gs),iD x,iD y] (.d (dy n (fQ (2+n) gs x y))):=by
 have x0:=hx.1;have x1:=hx.2;have y0:=hy.1;have y1:=hy.2
 have wH:=OJ n gs x y hn (by omega) hx hy
 have sL:=BI n gs ⟨4,x,y,0,0⟩ hn (by omega)
 have Cq:=zV n gs y hn hl hy
 have mn:min x y=x:=by omega
 have mx:max x y=y:=by omega
 refine fh (fn:=f170) (by kernel_rfl) func170 rfl (cn rfl) fun c hc hp=>?_
 refine dY (τ':=aF [(0,.d (.agg (cN n gs))),(1,.d (iD x)),(2,.d (iD y))]) (by repeat (first|exact cw _|refine cg ?_ (by first|rfl|(simp[aX];done)|simp[aX, *]))) ?_
 refine ah (fy ·) ?_
 refine aD fun K2 bS=>?_
 refine ah (fy ·) ?_
 refine bf rfl (fun ht=>?_) (fun ht=>?_)
 ·exact absurd (of_decide_eq_true ht) (by omega)
 ·refine bg (bS _ _ ?_)
  refine aD fun K4 dE=>?_
  refine ah (fy ·) ?_
  refine bf rfl (fun ht=>?_) (fun ht=>?_)
  ·have h1:x=0:=by simpa using ht
   refine ah (fy ·) ?_
   refine aM ?_
   try dsimp only[cC,cI]
   refine cS rfl ?_
   refine oF ?_
   show ai _ _=_
   refine pK ?_
   simp only[fQ,yV,mn,mx,if_pos h1]
  ·have h1:¬x=0:=by simpa using ht
   refine bg (dE _ _ ?_)
   refine aD fun K7 cL=>?_
   refine ah (fy ·) ?_
   refine bf rfl (fun ht=>?_) (fun ht=>?_)
   ·have h2:x=1:=by simpa using ht
    refine aZ hp ax hc rfl fun K9 cX=>?_
    refine fy ?_
    refine bx (Cq) rfl ?_
    refine fy ?_
    refine cX _ _ ?_
    refine aM ?_
    try dsimp only[cC,cI]
    refine cS rfl ?_
    refine oF ?_
    show ai _ _=_
    refine pK ?_
    simp only[fQ,yV,mn,mx,if_neg h1,if_pos h2]
   ·have h2:¬x=1:=by simpa using ht
    refine bg (cL _ _ ?_)
    refine aD fun j4 bW=>?_
    refine ah (fy ·) ?_
    refine bf rfl (fun ht=>?_) (fun ht=>?_)
    ·have h3:x=y:=by simpa using ht
     refine ah (fy ·) ?_
     refine aM ?_
     try dsimp only[cC,cI]
     refine cS rfl ?_
     refine oF ?_
     show ai _ _=_
     refine pK ?_
     simp only[fQ,yV,mn,mx,if_neg h1,if_neg h2,if_pos h3]
    ·have h3:¬x=y:=by simpa using ht
     refine bg (bW _ _ ?_)
     refine aD fun nV df=>?_
     refine aZ hp ax hc rfl fun re dT=>?_
     refine fy ?_
     refine bx (wH) rfl ?_
     refine fy ?_
     refine dT _ _ ?_
     refine bf rfl (fun ht=>?_) (fun ht=>?_)
     ·refine ah (fy ·) ?_
      refine aM ?_
      try dsimp only[cC,cI]
      refine cS rfl ?_
      refine oF ?_
      show ai _ _=_
      refine pK ?_
      simp only[fQ,yV,mn,mx,if_neg h1,if_neg h2,if_neg h3,if_pos ht]
     ·have h4:¬jo (2+n) gs x y=true:=by rw[ht];simp
      refine bg (df _ _ ?_)
      refine aZ hp ax hc rfl fun pE dB=>?_
      refine fy ?_
      refine bx (sL) rfl ?_
      refine fy ?_
      refine dB _ _ ?_
      refine aM ?_
      try dsimp only[cC,cI]
      refine cS rfl ?_
      refine oF ?_
      show ai _ _=_
      refine pK ?_
      simp only[fQ,yV,mn,mx,if_neg h1,if_neg h2,if_neg h3,if_neg h4]
theorem jzn(n:Nat)(gs:Gs)(x y:Int)(hn:n≤1000000)(hl:gs.length≤900000)(iV:GI (2+n) gs)(hx:bm (2+n) gs x)(hy:bm (2+n) gs y)(mJ:y<x):dq prog 170 [.agg (cN n gs),iD x,iD y] (.d (dy n (fQ (2+n) gs x y))):=by
 have hs:=Zy n gs y x hn hl iV hy hx (by omega)
 have e:fQ (2+n) gs y x=fQ (2+n) gs x y:=by unfold fQ;rw[Int.min_comm,Int.max_comm]
 rw[e]at hs
 refine fh (fn:=f170) (by kernel_rfl) func170 rfl (cn rfl) fun c hc hp=>?_
 refine dY (τ':=aF [(0,.d (.agg (cN n gs))),(1,.d (iD x)),(2,.d (iD y))]) (by repeat (first|exact cw _|refine cg ?_ (by first|rfl|(simp[aX];done)|simp[aX, *]))) ?_
 refine ah (fy ·) ?_
 refine aD fun K2 bS=>?_
 refine ah (fy ·) ?_
 refine bf rfl (fun ht=>?_) (fun ht=>?_)
 ·refine aZ hp ax hc rfl fun K4 dE=>?_
  refine fy ?_
  refine bx (hs) rfl ?_
  refine fy ?_
  refine dE _ _ ?_
  refine aM ?_
  try dsimp only[cC,cI]
  refine cS rfl ?_
  refine oF ?_
  show ai _ _=_
  exact WG
 ·exact absurd mJ (of_decide_eq_false ht)
theorem KP(n:Nat)(gs:Gs)(x y:Int)(hn:n≤1000000)(hl:gs.length≤900000)(iV:GI (2+n) gs)(hx:bm (2+n) gs x)(hy:bm (2+n) gs y):dq prog 170 [.agg (cN n gs),iD x,iD y] (.d (dy n (fQ (2+n) gs x y))):=by
 by_cases h:x≤y
 ·exact Zy n gs x y hn hl iV hx hy h
 ·exact jzn n gs x y hn hl iV hx hy (by omega)
theorem Zx(n:Nat)(gs:Gs)(x y z:Int)(hn:n≤1000000)(hl:gs.length≤800000)(iV:GI (2+n) gs)(hx:bm (2+n) gs x)(hy:bm (2+n) gs y)(hz:bm (2+n) gs z):dq prog 117 [.agg (cN n gs),.agg [iD x,iD y,iD z]] (.d (dy n (hU (2+n) gs x y z))):=by
 have x0:=hx.1;have x1:=hx.2;have y0:=hy.1;have y1:=hy.2;have z0:=hz.1;have z1:=hz.2
 have sL:=BI n gs ⟨5,x,y,z,0⟩ hn (by omega)
 have ho:=D9 n gs x z hn (by omega) iV hx hz
 have ha:=u4 n gs x y hn (by omega) iV hx hy
 have Cq:=zV n gs x hn (by omega) hx
 have hr:=oH (m:=2+n) (by omega) iV hx
 obtain⟨t,GU⟩:∃t,t=dH (2+n) gs x:=⟨_,rfl⟩
 rw[←GU]at Cq hr
 have aA:=hr.len
 have ha2:=u4 n t.1 t.2 z hn (by omega) hr.gi hr.nd (hz.pre hr.pre)
 have PD:=D9 n t.1 t.2 y hn (by omega) hr.gi hr.nd (hy.pre hr.pre)
 refine fh (fn:=f117) (by kernel_rfl) func117 rfl (cn rfl) fun c hc hp=>?_
 refine dY (τ':=aF [(0,.d (.agg (cN n gs))),(1,.d (.agg [iD x,iD y,iD z]))]) (by repeat (first|exact cw _|refine cg ?_ (by first|rfl|(simp[aX];done)|simp[aX, *]))) ?_
 refine ah (fy ·) ?_
 refine dO ax hc mixed rfl (q:=0) (by kernel_rfl) (by kernel_rfl) fun K2 bS=>?_
 refine fy ?_
 refine bS _ _ ?_
 refine aD fun K3 cm=>?_
 refine ah (fy ·) ?_
 refine bf rfl (fun ht=>?_) (fun ht=>?_)
 ·have h1:x=0:=by simpa using ht
  refine ah (fy ·) ?_
  refine aM ?_
  try dsimp only[cC,cI]
  refine cS rfl ?_
  refine oF ?_
  show ai _ _=_
  refine pK ?_
  simp only[hU,if_pos h1]
 ·have h1:¬x=0:=by simpa using ht
  refine bg (cm _ _ ?_)
  refine aD fun K6 cK=>?_
  refine aZ hp ax hc rfl fun K7 cL=>?_
  by_cases hg:x=1
  ·have q:(x==1)=true:=by simp[hg]
   refine zS q ?_
   refine cL _ _ ?_
   refine dh ?_
   refine ah (fy ·) ?_
   refine aM ?_
   try dsimp only[cC,cI]
   refine cS rfl ?_
   refine oF ?_
   show ai _ _=_
   refine pK ?_
   simp only[hU,if_neg h1,if_pos (Or.inl hg:x=1∨y=z)]
  ·have q:(x==1)=false:=by simp[hg]
   refine zS q ?_
   refine cL _ _ ?_
   refine bf rfl (fun ht=>?_) (fun ht=>?_)
   ·have h2:x=1∨y=z:=.inr (by simpa using ht)
    refine ah (fy ·) ?_
    refine aM ?_
    try dsimp only[cC,cI]
    refine cS rfl ?_
    refine oF ?_
    show ai _ _=_
    refine pK ?_
    simp only[hU,if_neg h1,if_pos h2]
   ·have h2:¬(x=1∨y=z):=fun e=>by rcases e with e|e;exact hg e;simp[e]at ht
    refine bg (cK _ _ ?_)
    refine aD fun j4 bW=>?_
    refine ah (fy ·) ?_
    refine bf rfl (fun ht=>?_) (fun ht=>?_)
    ·have h3:y=1:=by simpa using ht
     refine aZ hp ax hc rfl fun lK bN=>?_
     refine fy ?_
     refine bx (ho) rfl ?_
     refine fy ?_
     refine bN _ _ ?_
     refine aM ?_
     try dsimp only[cC,cI]
     refine cS rfl ?_
     refine oF ?_
     show ai _ _=_
     refine pK ?_
     simp only[hU,if_neg h1,if_neg h2,if_pos h3]
    ·have h3:¬y=1:=by simpa using ht
     refine bg (bW _ _ ?_)
     refine aD fun nV df=>?_
     refine ah (fy ·) ?_
     refine bf rfl (fun ht=>?_) (fun ht=>?_)
     ·have h4:z=0:=by simpa using ht
      refine aZ hp ax hc rfl fun sY eG=>?_
      refine fy ?_
      refine bx (ha) rfl ?_
      refine fy ?_
      refine eG _ _ ?_
      refine aM ?_
      try dsimp only[cC,cI]
      refine cS rfl ?_
      refine oF ?_
      show ai _ _=_
      refine pK ?_
      simp only[hU,if_neg h1,if_neg h2,if_neg h3,if_pos h4]
     ·have h4:¬z=0:=by simpa using ht
      refine bg (df _ _ ?_)
      refine aD fun pE dB=>?_
      refine ah (fy ·) ?_
      refine bf rfl (fun ht=>?_) (fun ht=>?_)
      ·have h5:y=0:=by simpa using ht
       refine aZ hp ax hc rfl fun zD iW=>?_
       refine fy ?_
       refine bx (Cq) rfl ?_
       refine fy ?_
       refine iW _ _ ?_
       refine aZ hp ax hc rfl fun rY eN=>?_
       refine fy ?_
       refine bx (ha2) rfl ?_
       refine fy ?_
       refine eN _ _ ?_
       refine aM ?_
       try dsimp only[cC,cI]
       refine cS rfl ?_
       refine oF ?_
       show ai _ _=_
       refine pK ?_
       simp only[hU,if_neg h1,if_neg h2,if_neg h3,if_neg h4,if_pos h5,←GU]
      ·have h5:¬y=0:=by simpa using ht
       refine bg (dB _ _ ?_)
       refine aD fun sX fa=>?_
       refine ah (fy ·) ?_
       refine bf rfl (fun ht=>?_) (fun ht=>?_)
       ·have h6:z=1:=by simpa using ht
        refine aZ hp ax hc rfl fun yi ik=>?_
        refine fy ?_
        refine bx (Cq) rfl ?_
        refine fy ?_
        refine ik _ _ ?_
        refine aZ hp ax hc rfl fun vA fM=>?_
        refine fy ?_
        refine bx (PD) rfl ?_
        refine fy ?_
        refine fM _ _ ?_
        refine aM ?_
        try dsimp only[cC,cI]
        refine cS rfl ?_
        refine oF ?_
        show ai _ _=_
        refine pK ?_
        simp only[hU,if_neg h1,if_neg h2,if_neg h3,if_neg h4,if_neg h5,if_pos h6,←GU]
       ·have h6:¬z=1:=by simpa using ht
        refine bg (fa _ _ ?_)
        refine aZ hp ax hc rfl fun yh fG=>?_
        refine fy ?_
        refine bx (sL) rfl ?_
        refine fy ?_
        refine fG _ _ ?_
        refine aM ?_
        try dsimp only[cC,cI]
        refine cS rfl ?_
        refine oF ?_
        show ai _ _=_
        refine pK ?_
        simp only[hU,if_neg h1,if_neg h2,if_neg h3,if_neg h4,if_neg h5,if_neg h6]
def cM(n:Nat)(r:Gs × List Int):List D:=[iD n,bt r.1,ae r.2]
def gI(n:Nat)(r:Gs × List Int):D:=.agg (cM n r)
theorem yff{m:Nat}{gs:Gs}{x y z:Int}(hx:bm m gs x)(hy:bm m gs y)(hz:bm m gs z):bm m gs (xV x y z)∧bm m gs (x+y+z - xV x y z - uF x y z)∧bm m gs (uF x y z):=by
 unfold bm xV uF at *
 refine⟨⟨?_,?_⟩,⟨?_,?_⟩,⟨?_,?_⟩⟩<;>omega
theorem oE{p q:Prop}(hq:q)(h:p=q:=by
 conv=>lhs;simp -dsimp -implicitDefEqProofs (disch:=first|assumption|omega|(simp only[aH]<;>omega)|decide) only[aN,↓reduceIte,Nat.reduceEqDiff,Nat.reduceAdd,D.fix,Int.reduceToNat,Nat.reduceMul,Nat.reduceBNe,Nat.reduceBEq,cN,bt,dy,dG,bw]):p:=h.mpr hq
theorem Kr{p q r:Prop}(e:r)(hq:q)(h:r→p=q:=by
 intro hY
 conv=>lhs;simp -dsimp -implicitDefEqProofs (disch:=first|assumption|omega|(simp only[aH]<;>omega)|decide) only[aN,↓reduceIte,Nat.reduceEqDiff,Nat.reduceAdd,D.fix,Int.reduceToNat,Nat.reduceMul,Nat.reduceBNe,Nat.reduceBEq,cN,bt,dy,dG,bw,hY]):p:=(h e).mpr hq
theorem zR{p q:Prop}(hq:q)(h:p=q:=by
 conv=>lhs;simp -dsimp -implicitDefEqProofs (disch:=first|assumption|omega|(simp only[aH]<;>omega)|decide) only[aN,↓reduceIte,Nat.reduceEqDiff,Nat.reduceAdd,D.fix,Int.reduceToNat,Nat.reduceMul,Nat.reduceBNe,Nat.reduceBEq,cN,bt,dy,dG,BZ,Bz]):p:=h.mpr hq
theorem AI{p q:Prop}(hq:q)(h:p=q:=by
 conv=>lhs;simp (disch:=first|assumption|omega|(simp only[aH]<;>omega)|decide) only[fA,Nat.reduceAdd,D.fix,↓reduceIte,Nat.reduceEqDiff,cN,bt,dy,dG]):p:=h.mpr hq
theorem Zw(n:Nat)(gs:Gs)(x y z:Int)(hn:n≤1000000)(hl:gs.length≤800000)(iV:GI (2+n) gs)(hx:bm (2+n) gs x)(hy:bm (2+n) gs y)(hz:bm (2+n) gs z):dq prog 171 [.agg (cN n gs),.agg [iD x,iD y,iD z]] (.d (dy n (tF (2+n) gs x y z))):=by
 have x0:=hx.1;have x1:=hx.2;have y0:=hy.1;have y1:=hy.2;have z0:=hz.1;have z1:=hz.2
 obtain⟨ha,hb,zp⟩:=yff hx hy hz
 obtain⟨a,ea⟩:∃a,a=xV x y z:=⟨_,rfl⟩
 obtain⟨b,eb⟩:∃b,b=x+y+z - xV x y z - uF x y z:=⟨_,rfl⟩
 obtain⟨d,ed⟩:∃d,d=uF x y z:=⟨_,rfl⟩
 have em:tF (2+n) gs x y z=x3 (2+n) gs a b d:=by rw[ea,eb,ed];rfl
 rw[←ea]at ha;rw[←eb]at hb;rw[←ed]at zp
 have q1:min (min x y) z=a:=ea.symm
 have q2:max (max x y) z=d:=ed.symm
 have q3:x+y+z - a - d=b:=by rw[ea,ed,eb]
 have a0:=ha.1;have a1:=ha.2;have b0:=hb.1;have b1:=hb.2;have d0:=zp.1;have d1:=zp.2
 have sL:=BI n gs ⟨6,a,b,d,0⟩ hn (by omega)
 have ho:=D9 n gs b d hn (by omega) iV hb zp
 have nO:=u4 n gs b d hn (by omega) iV hb zp
 refine fh (fn:=f171) (by kernel_rfl) func171 rfl (cn rfl) fun c hc hp=>?_
 refine dY (τ':=aF [(0,.d (.agg (cN n gs))),(1,.d (.agg [iD x,iD y,iD z]))]) (by repeat (first|exact cw _|refine cg ?_ (by first|rfl|(simp[aX];done)|simp[aX, *]))) ?_
 refine ah (oE ·) ?_
 refine dO ax hc mixed rfl (q:=0) (by kernel_rfl) (by kernel_rfl) fun K2 bS=>?_
 refine Kr (aw q1 q2) ?_
 refine bS _ _ ?_
 refine ah (Kr q3 ·) ?_
 refine aD fun K4 dE=>?_
 refine ah (oE ·) ?_
 refine bf rfl (fun ht=>?_) (fun ht=>?_)
 ·have h1:a=0:=by simpa using ht
  refine aZ hp ax hc rfl fun K6 cK=>?_
  refine oE ?_
  refine bx (nO) rfl ?_
  refine oE ?_
  refine cK _ _ ?_
  refine aM ?_
  try dsimp only[cC,cI]
  refine cS rfl ?_
  refine zR ?_
  show ai _ _=_
  refine AI ?_
  simp only[em,x3,if_pos h1]
 ·have h1:¬a=0:=by simpa using ht
  refine bg (dE _ _ ?_)
  refine aD fun K7 cL=>?_
  refine ah (oE ·) ?_
  refine bf rfl (fun ht=>?_) (fun ht=>?_)
  ·have h2:a=1:=by simpa using ht
   refine aZ hp ax hc rfl fun K9 cX=>?_
   refine oE ?_
   refine bx (ho) rfl ?_
   refine oE ?_
   refine cX _ _ ?_
   refine aM ?_
   try dsimp only[cC,cI]
   refine cS rfl ?_
   refine zR ?_
   show ai _ _=_
   refine AI ?_
   simp only[em,x3,if_neg h1,if_pos h2]
  ·have h2:¬a=1:=by simpa using ht
   refine bg (cL _ _ ?_)
   refine aD fun j4 bW=>?_
   refine aZ hp ax hc rfl fun mh cQ=>?_
   by_cases hg:a=b
   ·have q:(a==b)=true:=by simpa using hg
    refine Kr q ?_
    refine cQ _ _ ?_
    refine dh ?_
    refine ah (oE ·) ?_
    refine aM ?_
    try dsimp only[cC,cI]
    refine cS rfl ?_
    refine zR ?_
    show ai _ _=_
    refine AI ?_
    simp only[em,x3,if_neg h1,if_neg h2,if_pos (Or.inl hg:a=b∨b=d)]
   ·have q:(a==b)=false:=by simpa using hg
    refine Kr q ?_
    refine cQ _ _ ?_
    refine bf rfl (fun ht=>?_) (fun ht=>?_)
    ·have h3:a=b∨b=d:=.inr (by simpa using ht)
     refine ah (oE ·) ?_
     refine aM ?_
     try dsimp only[cC,cI]
     refine cS rfl ?_
     refine zR ?_
     show ai _ _=_
     refine AI ?_
     simp only[em,x3,if_neg h1,if_neg h2,if_pos h3]
    ·have h3:¬(a=b∨b=d):=fun e=>by rcases e with e|e;exact hg e;simp[e]at ht
     refine bg (bW _ _ ?_)
     refine aZ hp ax hc rfl fun re dT=>?_
     refine oE ?_
     refine bx (sL) rfl ?_
     refine oE ?_
     refine dT _ _ ?_
     refine aM ?_
     try dsimp only[cC,cI]
     refine cS rfl ?_
     refine zR ?_
     show ai _ _=_
     refine AI ?_
     simp only[em,x3,if_neg h1,if_neg h2,if_neg h3]
theorem OH(n:Nat)(gs:Gs)(o x y:Int)(hn:n≤1000000)(hl:gs.length≤800000)(iV:GI (2+n) gs)(hx:bm (2+n) gs x)(hy:bm (2+n) gs y):dq prog 121 [.agg (cN n gs),iD o,.agg [iD x,iD y]] (.d (dy n (uj o (2+n) gs x y))):=by
 have ha:=u4 n gs x y hn (by omega) iV hx hy
 have ho:=D9 n gs x y hn (by omega) iV hx hy
 have lz:=KP n gs x y hn (by omega) iV hx hy
 refine fh (fn:=f121) (by kernel_rfl) func121 rfl (cn rfl) fun c hc hp=>?_
 refine dY (τ':=aF [(0,.d (.agg (cN n gs))),(1,.d (iD o)),(2,.d (.agg [iD x,iD y]))]) (by repeat (first|exact cw _|refine cg ?_ (by first|rfl|(simp[aX];done)|simp[aX, *]))) ?_
 refine ah (oE ·) ?_
 refine aD fun K2 bS=>?_
 refine aZ hp ax hc rfl fun K3 cm=>?_
 simp -dsimp -implicitDefEqProofs (disch:=first|assumption|omega|(simp only[aH]<;>omega)|decide) only[aN,↓reduceIte,Nat.reduceEqDiff,Nat.reduceAdd,D.fix,Int.reduceToNat,Nat.reduceMul,Nat.reduceBNe,Nat.reduceBEq,cN,bt,dy,dG]
 refine cm _ _ ?_
 refine aW ?_
 refine ah (oE ·) ?_
 refine bf rfl (fun ht=>?_) (fun ht=>?_)
 ·have h1:o=3:=by simpa using ht
  refine aZ hp ax hc rfl fun K5 dx=>?_
  refine oE ?_
  refine bx (ha) rfl ?_
  refine oE ?_
  refine dx _ _ ?_
  refine aM ?_
  try dsimp only[cC,cI]
  refine cS rfl ?_
  refine zR ?_
  show ai _ _=_
  refine AI ?_
  simp only[uj,if_pos h1]
 ·have h1:¬o=3:=by simpa using ht
  refine ah (oE ·) ?_
  refine bf rfl (fun ht=>?_) (fun ht=>?_)
  ·have h2:o=4:=by simpa using ht
   refine aZ hp ax hc rfl fun K7 cL=>?_
   refine oE ?_
   refine bx (ho) rfl ?_
   refine oE ?_
   refine cL _ _ ?_
   refine aM ?_
   try dsimp only[cC,cI]
   refine cS rfl ?_
   refine zR ?_
   show ai _ _=_
   refine AI ?_
   simp only[uj,if_neg h1,if_pos h2]
  ·have h2:¬o=4:=by simpa using ht
   refine bg (bS _ _ ?_)
   refine aZ hp ax hc rfl fun K8 dP=>?_
   refine oE ?_
   refine bx (lz) rfl ?_
   refine oE ?_
   refine dP _ _ ?_
   refine aM ?_
   try dsimp only[cC,cI]
   refine cS rfl ?_
   refine zR ?_
   show ai _ _=_
   refine AI ?_
   simp only[uj,if_neg h1,if_neg h2]
theorem yt{p q:Prop}(hq:q)(h:p=q:=by
 conv=>lhs;simp -dsimp -implicitDefEqProofs (disch:=first|assumption|omega|(simp only[aH]<;>omega)|decide) only[aN,↓reduceIte,Nat.reduceEqDiff,Nat.reduceAdd,D.fix,Int.reduceToNat,Nat.reduceMul,Nat.reduceBNe,Nat.reduceBEq,cM,cN,bt,dy,dG,bw]):p:=h.mpr hq
theorem M9{m:List Nat}{τ τ':Fr}{H H':av}(h2:H=H')(h:fw τ τ':=by
 repeat (first|exact cw _|refine cg ?_ (by first|rfl|(simp[aX];done)|simp[aX, *]))):Rt m τ H τ' H':=Rt.end h h2
theorem F2(k:List Nat){m:List Nat}{τ τ1:Fr}{H H1:av}(h:Rt m (fun t=>du k (τ t)) (dg k H) τ1 H1)(a:∀i∈m,k[i]? =some i:=by decide)(b:k.Nodup:=by decide)(c:∀i∈k,i<H.length:=by
 simp[eJ,dg]):Rt m τ H τ1 H1:=Rt.trans (Rt.gc a b c) h
theorem jig(n:Nat)(gs:Gs)(l:List Int)(hn:n≤1000000)(hl:gs.length≤700000)(ke:l.length≤100)(iV:GI (2+n) gs)(hx:∀i,i<l.length→bm (2+n) gs (nth l i)):dq prog 120 [.agg (cM n (gs,l))] (.d (gI n (bL (fun gs i=>dH (2+n) gs (nth l i)) gs l.length))):=by
 obtain⟨st,cd⟩:∃st:Gs→Nat→Re,st=fun gs i=>dH (2+n) gs (nth l i):=⟨_,rfl⟩
 rw[←cd]
 have jB:∀k,k≤l.length→Bs (2+n) (1*k) k gs (bL st gs k):=fun k hk=>kz iV fun i hi fH hp mL=>by rw[cd];exact oH (by omega) mL ((hx i (by omega)).pre hp)
 refine fh (fn:=f120) (by kernel_rfl) func120 rfl (cn rfl) fun c hc hp=>?_
 refine dY (τ':=aF [(0,.d (.agg (cM n (gs,l))))]) (by repeat (first|exact cw _|refine cg ?_ (by first|rfl|(simp[aX];done)|simp[aX, *]))) ?_
 refine ah (yt ·) ?_
 refine ah (yt ·) ?_
 refine aD fun K3 cm=>?_
 refine aZ hp ax hc rfl fun K4 dE=>?_
 simp -dsimp -implicitDefEqProofs (disch:=first|assumption|omega|(simp only[aH]<;>omega)|decide) only[aN,↓reduceIte,Nat.reduceEqDiff,Nat.reduceAdd,D.fix,Int.reduceToNat,Nat.reduceMul,Nat.reduceBNe,Nat.reduceBEq,cM,cN,bt,dy,dG]
 refine dE _ _ ?_
 refine aW ?_
 refine cU hp (fun τ' H' mm=>∃(k:Nat),(k≤l.length)∧mm=l.length - k∧H'=[.cells (ak (cM n (gs,l))),.cells [.d (iD 0),.d (.val (.slice none 0 0)),.d (.val (.slice none 0 0))],.cells [.d (iD n),.d (bt (bL st gs k).1),.os 1 3 0 k],.cells (ak ((bL st gs k).2.map iD))]∧τ'=aF [(1,.op 0 0),(2,.op 1 0),(3,.op 2 0),(4,.d (iD k))]) (l.length) ?_ ⟨0,cF _,rfl,rfl,rfl⟩ ?_
 ·refine Rt.trans (Rt.fm 2 2 1 rfl rfl) ?_
  refine M9 ?_
  first|rfl|(simp only[cP,Nat.reduceAdd,↓reduceIte,Nat.reduceEqDiff,cM,cN,bt,dy,dG];first|done|rfl)
 rintro τ' H' mm ⟨k,hk,rfl,rfl,rfl⟩
 refine aD fun K5 dx=>?_
 refine ah (yt ·) ?_
 refine bf rfl (fun ht=>?_) (fun ht=>?_)
 ·have aA:k<l.length:=by simp at ht;omega
  have hb:=jB k hk
  have hlen:=hb.len
  have gf:=hb.wid
  have c8:=zV n (bL st gs k).1 (nth l k) hn (by omega) ((hx k aA).pre hb.pre)
  rw[show dH (2+n) (bL st gs k).1 (nth l k)=st (bL st gs k).1 k by rw[cd]]at c8
  refine bg (dx _ _ ?_)
  refine aD fun K7 cL=>?_
  refine aW ?_
  refine dO ax hc mixed rfl (q:=1) (by kernel_rfl) (by kernel_rfl) fun K8 dP=>?_
  refine yt ?_
  refine bx (c8) rfl ?_
  refine yt ?_
  refine dP _ _ ?_
  refine ah (yt ·) ?_
  refine fj (yt ·) (cL _ _ ?_)
  refine bT hp ax hc rfl fun mh cQ=>?_
  refine yt ?_
  refine cQ _ _ ⟨_,_,_,?_,⟨k+1,by omega,rfl,rfl,rfl⟩,?_⟩
  ·first|omega|(simp only[List.length_cons];omega)|(dsimp only;omega)
  ·refine F2 [0,1,2,6] ?_
   refine M9 ?_
   simp only[cP,Nat.reduceAdd,↓reduceIte,Nat.reduceEqDiff,cM,cN,bt,dy,dG];simp[bL,iD]
 ·have bM:k=l.length:=by simp at ht;omega
  subst bM
  have gf:=(jB _ (bJ _)).wid
  refine cJ (cm _ _ ?_)
  refine bC hp (τ':=aF [(2,.op 1 0),(3,.op 2 0)]) (H':=[.cells (ak (cM n (gs,l))),.cells [.d (iD 0),.d (.val (.slice none 0 0)),.d (.val (.slice none 0 0))],.cells (ak (cM n (bL st gs l.length))),.dead]) ?_ ?_
  ·refine Rt.trans (Rt.fz (id:=3) (l:=((bL st gs l.length).2.map iD)) rfl) ?_
   refine M9 ?_
   simp only[cP,Nat.reduceAdd,↓reduceIte,Nat.reduceEqDiff,cM,cN,bt,dy,dG];simp[fE,gf,cM,ae,ak,iD]
  refine ah (yt ·) ?_
  refine aM ?_
  try dsimp only[cC,cI]
  refine cS rfl ?_
  simp -dsimp -implicitDefEqProofs (disch:=first|assumption|omega|(simp only[aH]<;>omega)|decide) only[aN,↓reduceIte,Nat.reduceEqDiff,Nat.reduceAdd,D.fix,Int.reduceToNat,Nat.reduceMul,Nat.reduceBNe,Nat.reduceBEq,cM,cN,bt,dy,dG,Fs,E4]
  show ai _ _=_
  simp (disch:=first|assumption|omega|(simp only[aH]<;>omega)|decide) only[fA,Nat.reduceAdd,D.fix,↓reduceIte,Nat.reduceEqDiff,cM,cN,bt,dy,dG]
  rfl
theorem ib{p q:Prop}(hq:q)(h:p=q:=by
 conv=>lhs;simp -dsimp -implicitDefEqProofs (disch:=first|assumption|omega|(simp only[aH]<;>omega)|decide) only[aN,↓reduceIte,Nat.reduceEqDiff,Nat.reduceAdd,D.fix,Int.reduceToNat,Nat.reduceMul,Nat.reduceBNe,Nat.reduceBEq,cM,cN,bt,dy,dG,ae,bw]):p:=h.mpr hq
theorem Oa{p q:Prop}(hq:q)(h:p=q:=by
 conv=>lhs;simp -dsimp -implicitDefEqProofs (disch:=first|assumption|omega|(simp only[aH]<;>omega)|decide) only[aN,↓reduceIte,Nat.reduceEqDiff,Nat.reduceAdd,D.fix,Int.reduceToNat,Nat.reduceMul,Nat.reduceBNe,Nat.reduceBEq,cM,cN,bt,dy,dG,ae]):p:=h.mpr hq
theorem AH{m:List Nat}{τ τ':Fr}{H H':av}(h2:H=H')(h:fw τ τ':=by
 repeat (first|exact cw _|refine cg ?_ (by first|rfl|(simp[aX,fD,j6,jt];done)|simp[aX,fD,j6,jt, *]))):Rt m τ H τ' H':=Rt.end h h2
theorem N9{p q:Prop}(hq:q)(h:p=q:=by
 conv=>lhs;simp -dsimp -implicitDefEqProofs (disch:=first|assumption|omega|(simp only[aH]<;>omega)|decide) only[aN,↓reduceIte,Nat.reduceEqDiff,Nat.reduceAdd,D.fix,Int.reduceToNat,Nat.reduceMul,Nat.reduceBNe,Nat.reduceBEq,cM,cN,bt,dy,dG,ae,Fs,E4]):p:=h.mpr hq
theorem DQ{p q:Prop}(hq:q)(h:p=q:=by
 conv=>lhs;simp only[cP,Nat.reduceAdd,↓reduceIte,Nat.reduceEqDiff,cM,cN,bt,dy,dG,ae]):p:=h.mpr hq
theorem M8{p q:Prop}(hq:q)(h:p=q:=by
 conv=>lhs;simp (disch:=first|assumption|omega|(simp only[aH]<;>omega)|decide) only[fA,Nat.reduceAdd,D.fix,↓reduceIte,Nat.reduceEqDiff,cM,cN,bt,dy,dG,ae]):p:=h.mpr hq
theorem Zv(n:Nat)(gs:Gs)(l y:List Int)(c0:Int)(hn:n≤1000000)(hl:gs.length≤700000)(ke:l.length≤100)(hly:y.length=l.length)(iV:GI (2+n) gs)(hx:∀i,i<l.length→bm (2+n) gs (nth l i))(hy:∀i,i<l.length→bm (2+n) gs (nth y i))(fK:bm (2+n) gs c0):dq prog 122 [.agg (cM n (gs,l)),ae y,iD c0] (.d (gI n ((fD (2+n) gs l y c0 l.length).gs,(fD (2+n) gs l y c0 l.length).l))):=by
 obtain⟨S,hS⟩:∃S:Nat→Sm,S=fD (2+n) gs l y c0:=⟨_,rfl⟩
 rw[←hS]
 have hS0:(S 0).c=c0:=by rw[hS];rfl
 have jB:∀k,k≤l.length→Ss (2+n) (3*k) k gs (S k):=fun k hk=>by rw[hS];exact EV (by omega) iV hx hy fK k hk
 refine fh (fn:=f122) (by kernel_rfl) func122 rfl (cn rfl) fun c hc hp=>?_
 refine dY (τ':=aF [(0,.d (.agg (cM n (gs,l)))),(1,.d (ae y)),(2,.d (iD c0))]) (by repeat (first|exact cw _|refine cg ?_ (by first|rfl|(simp[aX,fD,j6,jt];done)|simp[aX,fD,j6,jt, *]))) ?_
 refine ah (ib ·) ?_
 refine ah (ib ·) ?_
 refine aD fun K3 cm=>?_
 refine ah (Oa ·) ?_
 refine aW ?_
 refine cU hp (fun τ' H' mm=>∃(k:Nat),(k≤l.length)∧mm=l.length - k∧H'=[.cells (ak (cM n (gs,l))),.cells [.d (iD 0),.d (.val (.slice none 0 0)),.d (.val (.slice none 0 0))],.cells [.d (iD n),.d (bt (S k).gs),.os 1 3 0 k],.cells (ak ((S k).l.map iD))]∧τ'=aF [(1,.d (ae y)),(2,.d (iD (S k).c)),(3,.op 0 0),(6,.op 1 0),(7,.op 2 0),(8,.d (iD k))]) (l.length) ?_ ⟨0,cF _,rfl,rfl,rfl⟩ ?_
 ·refine Rt.trans (Rt.fm 2 2 1 rfl rfl) ?_
  refine AH ?_
  refine DQ ?_;simp[hS,fD,ak,cM,bt,ae,iD]
 rintro τ' H' mm ⟨k,hk,rfl,rfl,rfl⟩
 refine aD fun K5 dx=>?_
 refine ah (ib ·) ?_
 refine bf rfl (fun ht=>?_) (fun ht=>?_)
 ·have aA:k<l.length:=by simp at ht;omega
  have hb:=(jB k hk).bs;have rW:=(jB k hk).c
  have hlen:=hb.len
  have gf:(S k).l.length=k:=hb.wid
  simp only at hlen
  obtain⟨A,hA⟩:∃A,A=fQ (2+n) (S k).gs (nth l k) (nth y k):=⟨_,rfl⟩
  have ra:=vJ (m:=2+n) (by omega) hb.gi ((hx k aA).pre hb.pre) ((hy k aA).pre hb.pre)
  have c1:=KP n (S k).gs (nth l k) (nth y k) hn (by omega) hb.gi ((hx k aA).pre hb.pre) ((hy k aA).pre hb.pre)
  simp only at ra
  rw[←hA]at ra c1
  have la:=ra.len
  obtain⟨B,hB⟩:∃B,B=fQ (2+n) A.1 A.2 (S k).c:=⟨_,rfl⟩
  have rb:=vJ (m:=2+n) (by omega) ra.gi ra.nd (rW.pre ra.pre)
  have c2:=KP n A.1 A.2 (S k).c hn (by omega) ra.gi ra.nd (rW.pre ra.pre)
  rw[←hB]at rb c2
  have lb:=rb.len
  have Er:gs<+:B.1:=hb.pre.trans (ra.pre.trans rb.pre)
  obtain⟨M,hM⟩:∃M,M=tF (2+n) B.1 (nth l k) (nth y k) (S k).c:=⟨_,rfl⟩
  have c3:=Zw n B.1 (nth l k) (nth y k) (S k).c hn (by omega) rb.gi ((hx k aA).pre Er) ((hy k aA).pre Er) (rW.pre (ra.pre.trans rb.pre))
  rw[←hM]at c3
  have eS:k+1<l.length→S (k+1)=⟨M.1,M.2,(S k).l++[B.2]⟩:=fun h=>by rw[hM,hB,hA,hS,fD];simp only[if_pos h]
  have eS':¬k+1<l.length→S (k+1)=⟨B.1,(S k).c,(S k).l++[B.2]⟩:=fun h=>by rw[hB,hA,hS,fD];simp only[if_neg h]
  clear hS hM hB hA
  refine bg (dx _ _ ?_)
  refine aD fun K7 cL=>?_
  refine aW ?_
  refine dO ax hc mixed rfl (q:=1) (by kernel_rfl) (by kernel_rfl) fun K8 dP=>?_
  refine ib ?_
  refine bx (c1) rfl ?_
  refine ib ?_
  refine dP _ _ ?_
  refine aZ hp ax hc rfl fun K9 cX=>?_
  refine ib ?_
  refine bx (c2) rfl ?_
  refine ib ?_
  refine cX _ _ ?_
  refine ah (ib ·) ?_
  refine ah (ib ·) ?_
  refine ah (ib ·) ?_
  refine bf rfl (fun ht=>?_) (fun ht=>?_)
  ·have e:=eS (by simp at ht;omega)
   refine dO ax hc mixed rfl (q:=1) (by kernel_rfl) (by kernel_rfl) fun nV df=>?_
   refine ib ?_
   refine bx (c3) rfl ?_
   refine ib ?_
   refine df _ _ ?_
   refine ah (ib ·) ?_
   refine fj (ib ·) (cL _ _ ?_)
   refine bT hp ax hc rfl fun pE dB=>?_
   refine ib ?_
   refine dB _ _ ⟨_,_,_,?_,⟨k+1,by omega,rfl,rfl,rfl⟩,?_⟩
   ·first|omega|(simp only[List.length_cons];omega)|(dsimp only;omega)
   ·refine F2 [0,1,2,7] ?_
    refine AH ?_
    refine DQ ?_;simp[e,iD]
  ·have e:=eS' (by simp at ht;omega)
   refine bg (cL _ _ ?_)
   refine bT hp ax hc rfl fun rZ ey=>?_
   refine ib ?_
   refine ey _ _ ⟨_,_,_,?_,⟨k+1,by omega,rfl,rfl,rfl⟩,?_⟩
   ·first|omega|(simp only[List.length_cons];omega)|(dsimp only;omega)
   ·refine F2 [0,1,2,7] ?_
    refine AH ?_
    refine DQ ?_;simp[e,iD]
 ·have bM:k=l.length:=by simp at ht;omega
  subst bM
  have gf:(S l.length).l.length=l.length:=(jB _ (bJ _)).bs.wid
  refine cJ (cm _ _ ?_)
  refine bC hp (τ':=aF [(6,.op 1 0),(7,.op 2 0)]) (H':=[.cells (ak (cM n (gs,l))),.cells [.d (iD 0),.d (.val (.slice none 0 0)),.d (.val (.slice none 0 0))],.cells (ak (cM n ((S l.length).gs,(S l.length).l))),.dead]) ?_ ?_
  ·refine Rt.trans (Rt.fz (id:=3) (l:=((S l.length).l.map iD)) rfl) ?_
   refine AH ?_
   refine DQ ?_;simp[fE,gf,cM,ae,ak,iD]
  refine ah (ib ·) ?_
  refine aM ?_
  try dsimp only[cC,cI]
  refine cS rfl ?_
  refine N9 ?_
  show ai _ _=_
  refine M8 ?_
  rfl
theorem WE{p:Prop}(h:p:=by
 first|rfl|(simp only[cP,Nat.reduceAdd,↓reduceIte,Nat.reduceEqDiff,cM,cN,bt,dy,dG,ae];first|done|rfl)):p:=h
theorem jzp(n:Nat)(gs:Gs)(l y:List Int)(hn:n≤1000000)(hl:gs.length≤700000)(ke:l.length≤100)(hly:y.length=l.length)(iV:GI (2+n) gs)(hx:∀i,i<l.length→bm (2+n) gs (nth l i))(hy:∀i,i<l.length→bm (2+n) gs (nth y i)):dq prog 123 [.agg (cM n (gs,l)),ae y] (.d (gI n ((j6 (2+n) gs l y l.length).1,[(j6 (2+n) gs l y l.length).2]))):=by
 obtain⟨S,hS⟩:∃S:Nat→Re,S=j6 (2+n) gs l y:=⟨_,rfl⟩
 rw[←hS]
 have hS0:(S 0).2=1:=by rw[hS];rfl
 have jB:∀k,k≤l.length→Rs (2+n) (3*k) gs (S k):=fun k hk=>by rw[hS];exact Kn (by omega) iV hx hy k hk
 refine fh (fn:=f123) (by kernel_rfl) func123 rfl (cn rfl) fun c hc hp=>?_
 refine dY (τ':=aF [(0,.d (.agg (cM n (gs,l)))),(1,.d (ae y))]) (by repeat (first|exact cw _|refine cg ?_ (by first|rfl|(simp[aX,fD,j6,jt];done)|simp[aX,fD,j6,jt, *]))) ?_
 refine ah (ib ·) ?_
 refine ah (ib ·) ?_
 refine aD fun K3 cm=>?_
 refine ah (Oa ·) ?_
 refine aW ?_
 refine cU hp (fun τ' H' mm=>∃(k:Nat),(k≤l.length)∧mm=l.length - k∧H'=[.cells (ak (cM n (gs,l))),.cells [.d (iD 0),.d (.val (.slice none 0 0)),.d (.val (.slice none 0 0))],.cells [.d (iD n),.d (bt (S k).1)]]∧τ'=aF [(1,.d (ae y)),(2,.op 0 0),(4,.op 1 0),(5,.op 2 0),(6,.d (iD (S k).2)),(7,.d (iD k))]) (l.length) ?_ ⟨0,cF _,rfl,rfl,rfl⟩ ?_
 ·refine AH ?_
  refine DQ ?_;simp[hS,j6,ak,cM,bt,ae,iD]
 rintro τ' H' mm ⟨k,hk,rfl,rfl,rfl⟩
 refine aD fun K5 dx=>?_
 refine ah (ib ·) ?_
 refine bf rfl (fun ht=>?_) (fun ht=>?_)
 ·have aA:k<l.length:=by simp at ht;omega
  have hb:=jB k hk
  have hlen:=hb.len
  obtain⟨A,hA⟩:∃A,A=fQ (2+n) (S k).1 (nth l k) (nth y k):=⟨_,rfl⟩
  have ra:=vJ (m:=2+n) (by omega) hb.gi ((hx k aA).pre hb.pre) ((hy k aA).pre hb.pre)
  have c1:=KP n (S k).1 (nth l k) (nth y k) hn (by omega) hb.gi ((hx k aA).pre hb.pre) ((hy k aA).pre hb.pre)
  rw[←hA]at ra c1
  have la:=ra.len
  obtain⟨B,hB⟩:∃B,B=dH (2+n) A.1 A.2:=⟨_,rfl⟩
  have rb:=oH (m:=2+n) (by omega) ra.gi ra.nd
  have c2:=zV n A.1 A.2 hn (by omega) ra.nd
  rw[←hB]at rb c2
  have lb:=rb.len
  have c3:=u4 n B.1 (S k).2 B.2 hn (by omega) rb.gi (hb.nd.pre (ra.pre.trans rb.pre)) rb.nd
  have e:S (k+1)=dj (2+n) B.1 (S k).2 B.2:=by rw[hB,hA,hS,j6]
  rw[←e]at c3
  clear hS hB hA
  refine bg (dx _ _ ?_)
  refine aD fun K7 cL=>?_
  refine aW ?_
  refine dO ax hc mixed rfl (q:=1) (by kernel_rfl) (by kernel_rfl) fun K8 dP=>?_
  refine ib ?_
  refine bx (c1) rfl ?_
  refine ib ?_
  refine dP _ _ ?_
  refine aZ hp ax hc rfl fun K9 cX=>?_
  refine ib ?_
  refine bx (c2) rfl ?_
  refine ib ?_
  refine cX _ _ ?_
  refine aZ hp ax hc rfl fun j4 bW=>?_
  refine ib ?_
  refine bx (c3) rfl ?_
  refine ib ?_
  refine bW _ _ ?_
  refine ah (ib ·) ?_
  refine fj (ib ·) (cL _ _ ?_)
  refine bT hp ax hc rfl fun nV df=>?_
  refine ib ?_
  refine df _ _ ⟨_,_,_,?_,⟨k+1,by omega,rfl,rfl,rfl⟩,?_⟩
  ·first|omega|(simp only[List.length_cons];omega)|(dsimp only;omega)
  ·refine F2 [0,1,2] ?_
   refine AH ?_
   exact WE
 ·have bM:k=l.length:=by simp at ht;omega
  subst bM
  refine cJ (cm _ _ ?_)
  refine ah (ib ·) ?_
  refine aM ?_
  try dsimp only[cC,cI]
  refine cS rfl ?_
  refine N9 ?_
  show ai _ _=_
  refine M8 ?_
  rfl
theorem yfi(n:Nat)(gs:Gs)(l y:List Int)(hn:n≤1000000)(hl:gs.length≤700000)(ke:l.length≤100)(hly:y.length=l.length)(iV:GI (2+n) gs)(hx:∀i,i<l.length→bm (2+n) gs (nth l i))(hy:∀i,i<l.length→bm (2+n) gs (nth y i)):dq prog 124 [.agg (cM n (gs,l)),ae y] (.d (gI n ((dH (2+n) (jt (2+n) gs l y l.length).1 (jt (2+n) gs l y l.length).2).1,[(dH (2+n) (jt (2+n) gs l y l.length).1 (jt (2+n) gs l y l.length).2).2]))):=by
 obtain⟨S,hS⟩:∃S:Nat→Re,S=jt (2+n) gs l y:=⟨_,rfl⟩
 rw[←hS]
 have hS0:(S 0).2=1:=by rw[hS];rfl
 have jB:∀k,k≤l.length→Rs (2+n) (2*k) gs (S k):=fun k hk=>by rw[hS];exact Km (by omega) iV hx hy k hk
 refine fh (fn:=f124) (by kernel_rfl) func124 rfl (cn rfl) fun c hc hp=>?_
 refine dY (τ':=aF [(0,.d (.agg (cM n (gs,l)))),(1,.d (ae y))]) (by repeat (first|exact cw _|refine cg ?_ (by first|rfl|(simp[aX,fD,j6,jt];done)|simp[aX,fD,j6,jt, *]))) ?_
 refine ah (ib ·) ?_
 refine ah (ib ·) ?_
 refine aD fun K3 cm=>?_
 refine ah (Oa ·) ?_
 refine aW ?_
 refine cU hp (fun τ' H' mm=>∃(k:Nat),(k≤l.length)∧mm=l.length - k∧H'=[.cells (ak (cM n (gs,l))),.cells [.d (iD 0),.d (.val (.slice none 0 0)),.d (.val (.slice none 0 0))],.cells [.d (iD n),.d (bt (S k).1)]]∧τ'=aF [(1,.d (ae y)),(2,.op 0 0),(4,.op 1 0),(5,.op 2 0),(6,.d (iD (S k).2)),(7,.d (iD k))]) (l.length) ?_ ⟨0,cF _,rfl,rfl,rfl⟩ ?_
 ·refine AH ?_
  refine DQ ?_;simp[hS,jt,ak,cM,bt,ae,iD]
 rintro τ' H' mm ⟨k,hk,rfl,rfl,rfl⟩
 refine aD fun K5 dx=>?_
 refine ah (ib ·) ?_
 refine bf rfl (fun ht=>?_) (fun ht=>?_)
 ·have aA:k<l.length:=by simp at ht;omega
  have hb:=jB k hk
  have hlen:=hb.len
  obtain⟨A,hA⟩:∃A,A=dH (2+n) (S k).1 (nth y k):=⟨_,rfl⟩
  have ra:=oH (m:=2+n) (by omega) hb.gi ((hy k aA).pre hb.pre)
  have c1:=zV n (S k).1 (nth y k) hn (by omega) ((hy k aA).pre hb.pre)
  rw[←hA]at ra c1
  have la:=ra.len
  have c2:=Zw n A.1 (nth l k) A.2 (S k).2 hn (by omega) ra.gi ((hx k aA).pre (hb.pre.trans ra.pre)) ra.nd (hb.nd.pre ra.pre)
  have e:S (k+1)=tF (2+n) A.1 (nth l k) A.2 (S k).2:=by rw[hA,hS,jt]
  rw[←e]at c2
  clear hS hA
  refine bg (dx _ _ ?_)
  refine aD fun K7 cL=>?_
  refine aW ?_
  refine dO ax hc mixed rfl (q:=1) (by kernel_rfl) (by kernel_rfl) fun K8 dP=>?_
  refine ib ?_
  refine bx (c1) rfl ?_
  refine ib ?_
  refine dP _ _ ?_
  refine dO ax hc mixed rfl (q:=1) (by kernel_rfl) (by kernel_rfl) fun K9 cX=>?_
  refine ib ?_
  refine bx (c2) rfl ?_
  refine ib ?_
  refine cX _ _ ?_
  refine ah (ib ·) ?_
  refine fj (ib ·) (cL _ _ ?_)
  refine bT hp ax hc rfl fun lK bN=>?_
  refine ib ?_
  refine bN _ _ ⟨_,_,_,?_,⟨k+1,by omega,rfl,rfl,rfl⟩,?_⟩
  ·first|omega|(simp only[List.length_cons];omega)|(dsimp only;omega)
  ·refine F2 [0,1,2] ?_
   refine AH ?_
   exact WE
 ·have bM:k=l.length:=by simp at ht;omega
  subst bM
  have hb:=jB l.length (bJ _)
  have hlen:=hb.len
  have c3:=zV n (S l.length).1 (S l.length).2 hn (by omega) hb.nd
  refine cJ (cm _ _ ?_)
  refine aZ hp ax hc rfl fun nV df=>?_
  refine ib ?_
  refine bx (c3) rfl ?_
  refine ib ?_
  refine df _ _ ?_
  refine ah (ib ·) ?_
  refine aM ?_
  try dsimp only[cC,cI]
  refine cS rfl ?_
  refine N9 ?_
  show ai _ _=_
  refine M8 ?_
  rfl
def kT(l:List Int)(k:Nat):List Int:=[if 0<k then nth l 0 else 0,if 1<k then nth l 1 else 0,if 2<k then nth l 2 else 0]
theorem sj{l:List Int}{w k:Nat}(hk:k≤3)(h:∀j,j<k→j<l.length∧2^j<w)(he:¬(k<3∧k<l.length∧2^k<w)):kT l k=jg l w:=by
 have hn:∀j,k≤j→j<3→¬(j<l.length∧2^j<w):=fun j h1 h2 h3=>he ⟨by omega,by omega,by
  have:=Nat.pow_le_pow_right (show 0<2 by decide) h1
  omega⟩
 have key:∀j,j<3→(if j<k then nth l j else 0)=(if j<l.length∧2^j<w then nth l j else 0):=fun j hj=>by
  by_cases h1:j<k
  ·rw[if_pos h1,if_pos (h j h1)]
  ·rw[if_neg h1,if_neg (hn j (by omega) hj)]
 show[_,_,_]=[_,_,_]
 rw[key 0 (by decide),key 1 (by decide),key 2 (by decide)]
theorem p4{l:List Int}{k:Nat}:(kT l k).length=3:=rfl
theorem yr{p q:Prop}(hq:q)(h:p=q:=by
 conv=>lhs;simp -dsimp -implicitDefEqProofs (disch:=first|assumption|omega|(simp only[aH,p4]<;>omega)|decide) only[aN,↓reduceIte,Nat.reduceEqDiff,Nat.reduceAdd,D.fix,Int.reduceToNat,Nat.reduceMul,Nat.reduceBNe,Nat.reduceBEq,ae,db,Int.toNat_natCast]):p:=h.mpr hq
theorem Bu{p q:Prop}(hq:q)(h:p=q:=by
 conv=>lhs;simp -dsimp -implicitDefEqProofs (disch:=first|assumption|omega|(simp only[aH,p4]<;>omega)|decide) only[aN,↓reduceIte,Nat.reduceEqDiff,Nat.reduceAdd,D.fix,Int.reduceToNat,Nat.reduceMul,Nat.reduceBNe,Nat.reduceBEq,ae,db,Int.toNat_natCast,bw]):p:=h.mpr hq
theorem we{m:List Nat}{τ τ':Fr}{H H':av}(h2:H=H')(h:fw τ τ':=by
 repeat (first|exact cw _|refine cg ?_ (by first|rfl|(simp[aX,p4];done)|simp[aX,p4, *]))):Rt m τ H τ' H':=Rt.end h h2
theorem xx{p q r:Prop}(e:r)(hq:q)(h:r→p=q:=by
 intro hY
 conv=>lhs;simp -dsimp -implicitDefEqProofs (disch:=first|assumption|omega|(simp only[aH,p4]<;>omega)|decide) only[aN,↓reduceIte,Nat.reduceEqDiff,Nat.reduceAdd,D.fix,Int.reduceToNat,Nat.reduceMul,Nat.reduceBNe,Nat.reduceBEq,ae,db,Int.toNat_natCast,bw,hY]):p:=(h e).mpr hq
theorem Cc{p:Prop}(h:p:=by
 first|rfl|(simp only[cP,Nat.reduceAdd,↓reduceIte,Nat.reduceEqDiff,ae,db,Int.toNat_natCast];first|done|rfl)):p:=h
theorem Cb{p q:Prop}(hq:q)(h:p=q:=by
 conv=>lhs;simp (disch:=first|assumption|omega|(simp only[aH,p4]<;>omega)|decide) only[fA,Nat.reduceAdd,D.fix,↓reduceIte,Nat.reduceEqDiff,ae,db,Int.toNat_natCast]):p:=h.mpr hq
theorem M7{p q:Prop}(hq:q)(h:p=q:=by
 conv=>lhs;simp only[cP,Nat.reduceAdd,↓reduceIte,Nat.reduceEqDiff,ae,db,Int.toNat_natCast]):p:=h.mpr hq
theorem jii(l:List Int)(w:Nat)(hl:l.length≤100)(hw:w≤1000):dq prog 63 [ae l,iD w] (.d (ae (jg l w))):=by
 refine fh (fn:=f63) (by kernel_rfl) func63 rfl (cn rfl) fun c hc hp=>?_
 refine dY (τ':=aF [(0,.d (ae l)),(1,.d (iD w))]) (by repeat (first|exact cw _|refine cg ?_ (by first|rfl|(simp[aX,p4];done)|simp[aX,p4, *]))) ?_
 refine ah (yr ·) ?_
 refine ah (Bu ·) ?_
 refine aD fun K3 cm=>?_
 refine ah (yr ·) ?_
 refine aW ?_
 refine cU hp (fun τ' H' mm=>∃(k:Nat),(k≤3∧∀j,j<k→j<l.length∧2^j<w)∧mm=3 - k∧H'=[.cells (ak ((kT l k).map iD))]∧τ'=aF [(0,.d (ae l)),(1,.d (iD w)),(5,.os 1 0 0 3),(6,.d (iD k))]) (3) ?_ ⟨0,⟨by omega,fun j hj=>by omega⟩,rfl,rfl,rfl⟩ ?_
 ·refine we ?_
  rfl
 rintro τ' H' mm ⟨k,⟨hk,fK⟩,rfl,rfl,rfl⟩
 refine aD fun K5 dx=>?_
 refine aZ hp ax hc rfl fun K6 cK=>?_
 have Pt:(k=0∧l.length≤0)∨(k=0∧0<l.length∧w≤1)∨(k=0∧0<l.length∧1<w)∨(k=1∧l.length≤1)∨(k=1∧1<l.length∧w≤2)∨(k=1∧1<l.length∧2<w)∨(k=2∧l.length≤2)∨(k=2∧2<l.length∧w≤4)∨(k=2∧2<l.length∧4<w)∨(k=3):=by omega
 rcases Pt with⟨rfl,h1⟩|⟨rfl,h1,h2⟩|⟨rfl,h1,h2⟩|⟨rfl,h1⟩|⟨rfl,h1,h2⟩|⟨rfl,h1,h2⟩|⟨rfl,h1⟩|⟨rfl,h1,h2⟩|⟨rfl,h1,h2⟩|rfl
 ·have qa:decide (((0:Nat):Int)<3)=true:=by decide
  have qb:decide (((0:Nat):Int)<l.length)=false:=decide_eq_false (by omega)
  have hu:IntKind.u64.wrap ((0:Nat):Int)=((0:Nat):Int):=by decide
  have hs:IntKind.i64.wrap (1*2^min (0:Nat) 64)=((1:Nat):Int):=by decide
  have qc:=qb
  refine xx (aw qa (aw qb (aw hu (aw hs qc)))) ?_
  refine cK _ _ ?_
  refine bA ?_
  have e:=sj (l:=l) (w:=w) (k:=0) (by omega) fK (fun e=>by have e1:=e.1;have e2:=e.2.1;have e3:=e.2.2;simp only[Nat.reducePow]at e3;omega)
  refine cJ (cm _ _ ?_)
  refine bC hp (τ':=aF [(5,.d (.fs ((kT l 0).map iD) 3))]) (H':=[.dead]) ?_ ?_
  ·refine Rt.trans (Rt.fz (id:=0) (l:=((kT l 0).map iD)) rfl) ?_
   refine Rt.trans (Rt.slot 5 (mU (fE (by first|rfl|simp)))) ?_
   refine we ?_
   exact Cc
  refine ah (yr ·) ?_
  refine aM ?_
  show ai _ _=_
  refine Cb ?_
  rw[←e];rfl
 ·have qa:decide (((0:Nat):Int)<3)=true:=by decide
  have qb:decide (((0:Nat):Int)<l.length)=true:=decide_eq_true (by omega)
  have hu:IntKind.u64.wrap ((0:Nat):Int)=((0:Nat):Int):=by decide
  have hs:IntKind.i64.wrap (1*2^min (0:Nat) 64)=((1:Nat):Int):=by decide
  have qc:decide (((1:Nat):Int)<(w:Int))=false:=decide_eq_false (by omega)
  refine xx (aw qa (aw qb (aw hu (aw hs qc)))) ?_
  refine cK _ _ ?_
  refine bA ?_
  have e:=sj (l:=l) (w:=w) (k:=0) (by omega) fK (fun e=>by have e1:=e.1;have e2:=e.2.1;have e3:=e.2.2;simp only[Nat.reducePow]at e3;omega)
  refine cJ (cm _ _ ?_)
  refine bC hp (τ':=aF [(5,.d (.fs ((kT l 0).map iD) 3))]) (H':=[.dead]) ?_ ?_
  ·refine Rt.trans (Rt.fz (id:=0) (l:=((kT l 0).map iD)) rfl) ?_
   refine Rt.trans (Rt.slot 5 (mU (fE (by first|rfl|simp)))) ?_
   refine we ?_
   exact Cc
  refine ah (yr ·) ?_
  refine aM ?_
  show ai _ _=_
  refine Cb ?_
  rw[←e];rfl
 ·have qa:decide (((0:Nat):Int)<3)=true:=by decide
  have qb:decide (((0:Nat):Int)<l.length)=true:=decide_eq_true (by omega)
  have hu:IntKind.u64.wrap ((0:Nat):Int)=((0:Nat):Int):=by decide
  have hs:IntKind.i64.wrap (1*2^min (0:Nat) 64)=((1:Nat):Int):=by decide
  have qc:decide (((1:Nat):Int)<(w:Int))=true:=decide_eq_true (by omega)
  refine xx (aw qa (aw qb (aw hu (aw hs qc)))) ?_
  refine cK _ _ ?_
  refine dh ?_
  refine bg (dx _ _ ?_)
  refine aD fun K9 cX=>?_
  refine aW ?_
  refine fj (Bu ·) (cX _ _ ?_)
  refine bT hp ax hc rfl fun mh cQ=>?_
  refine Bu ?_
  refine cQ _ _ ⟨_,_,_,?_,⟨0+1,⟨by omega,fun j hj=>by rcases(show j<0∨j=0 by omega)with h|h;exact fK j h;subst h;exact⟨h1,h2⟩⟩,rfl,rfl,rfl⟩,?_⟩
  ·first|omega|(simp only[List.length_cons];omega)|(dsimp only;omega)
  ·refine Rt.trans (Rt.gc (keep:=[0]) (by decide) (by decide) (by simp[eJ,dg])) ?_
   refine we ?_
   refine M7 ?_;simp[kT,iD]
 ·have qa:decide (((1:Nat):Int)<3)=true:=by decide
  have qb:decide (((1:Nat):Int)<l.length)=false:=decide_eq_false (by omega)
  have hu:IntKind.u64.wrap ((1:Nat):Int)=((1:Nat):Int):=by decide
  have hs:IntKind.i64.wrap (1*2^min (1:Nat) 64)=((2:Nat):Int):=by decide
  have qc:=qb
  refine xx (aw qa (aw qb (aw hu (aw hs qc)))) ?_
  refine cK _ _ ?_
  refine bA ?_
  have e:=sj (l:=l) (w:=w) (k:=1) (by omega) fK (fun e=>by have e1:=e.1;have e2:=e.2.1;have e3:=e.2.2;simp only[Nat.reducePow]at e3;omega)
  refine cJ (cm _ _ ?_)
  refine bC hp (τ':=aF [(5,.d (.fs ((kT l 1).map iD) 3))]) (H':=[.dead]) ?_ ?_
  ·refine Rt.trans (Rt.fz (id:=0) (l:=((kT l 1).map iD)) rfl) ?_
   refine Rt.trans (Rt.slot 5 (mU (fE (by first|rfl|simp)))) ?_
   refine we ?_
   exact Cc
  refine ah (yr ·) ?_
  refine aM ?_
  show ai _ _=_
  refine Cb ?_
  rw[←e];rfl
 ·have qa:decide (((1:Nat):Int)<3)=true:=by decide
  have qb:decide (((1:Nat):Int)<l.length)=true:=decide_eq_true (by omega)
  have hu:IntKind.u64.wrap ((1:Nat):Int)=((1:Nat):Int):=by decide
  have hs:IntKind.i64.wrap (1*2^min (1:Nat) 64)=((2:Nat):Int):=by decide
  have qc:decide (((2:Nat):Int)<(w:Int))=false:=decide_eq_false (by omega)
  refine xx (aw qa (aw qb (aw hu (aw hs qc)))) ?_
  refine cK _ _ ?_
  refine bA ?_
  have e:=sj (l:=l) (w:=w) (k:=1) (by omega) fK (fun e=>by have e1:=e.1;have e2:=e.2.1;have e3:=e.2.2;simp only[Nat.reducePow]at e3;omega)
  refine cJ (cm _ _ ?_)
  refine bC hp (τ':=aF [(5,.d (.fs ((kT l 1).map iD) 3))]) (H':=[.dead]) ?_ ?_
  ·refine Rt.trans (Rt.fz (id:=0) (l:=((kT l 1).map iD)) rfl) ?_
   refine Rt.trans (Rt.slot 5 (mU (fE (by first|rfl|simp)))) ?_
   refine we ?_
   exact Cc
  refine ah (yr ·) ?_
  refine aM ?_
  show ai _ _=_
  refine Cb ?_
  rw[←e];rfl
 ·have qa:decide (((1:Nat):Int)<3)=true:=by decide
  have qb:decide (((1:Nat):Int)<l.length)=true:=decide_eq_true (by omega)
  have hu:IntKind.u64.wrap ((1:Nat):Int)=((1:Nat):Int):=by decide
  have hs:IntKind.i64.wrap (1*2^min (1:Nat) 64)=((2:Nat):Int):=by decide
  have qc:decide (((2:Nat):Int)<(w:Int))=true:=decide_eq_true (by omega)
  refine xx (aw qa (aw qb (aw hu (aw hs qc)))) ?_
  refine cK _ _ ?_
  refine dh ?_
  refine bg (dx _ _ ?_)
  refine aD fun re dT=>?_
  refine aW ?_
  refine fj (Bu ·) (dT _ _ ?_)
  refine bT hp ax hc rfl fun pE dB=>?_
  refine Bu ?_
  refine dB _ _ ⟨_,_,_,?_,⟨1+1,⟨by omega,fun j hj=>by rcases(show j<1∨j=1 by omega)with h|h;exact fK j h;subst h;exact⟨h1,h2⟩⟩,rfl,rfl,rfl⟩,?_⟩
  ·first|omega|(simp only[List.length_cons];omega)|(dsimp only;omega)
  ·refine Rt.trans (Rt.gc (keep:=[0]) (by decide) (by decide) (by simp[eJ,dg])) ?_
   refine we ?_
   refine M7 ?_;simp[kT,iD]
 ·have qa:decide (((2:Nat):Int)<3)=true:=by decide
  have qb:decide (((2:Nat):Int)<l.length)=false:=decide_eq_false (by omega)
  have hu:IntKind.u64.wrap ((2:Nat):Int)=((2:Nat):Int):=by decide
  have hs:IntKind.i64.wrap (1*2^min (2:Nat) 64)=((4:Nat):Int):=by decide
  have qc:=qb
  refine xx (aw qa (aw qb (aw hu (aw hs qc)))) ?_
  refine cK _ _ ?_
  refine bA ?_
  have e:=sj (l:=l) (w:=w) (k:=2) (by omega) fK (fun e=>by have e1:=e.1;have e2:=e.2.1;have e3:=e.2.2;simp only[Nat.reducePow]at e3;omega)
  refine cJ (cm _ _ ?_)
  refine bC hp (τ':=aF [(5,.d (.fs ((kT l 2).map iD) 3))]) (H':=[.dead]) ?_ ?_
  ·refine Rt.trans (Rt.fz (id:=0) (l:=((kT l 2).map iD)) rfl) ?_
   refine Rt.trans (Rt.slot 5 (mU (fE (by first|rfl|simp)))) ?_
   refine we ?_
   exact Cc
  refine ah (yr ·) ?_
  refine aM ?_
  show ai _ _=_
  refine Cb ?_
  rw[←e];rfl
 ·have qa:decide (((2:Nat):Int)<3)=true:=by decide
  have qb:decide (((2:Nat):Int)<l.length)=true:=decide_eq_true (by omega)
  have hu:IntKind.u64.wrap ((2:Nat):Int)=((2:Nat):Int):=by decide
  have hs:IntKind.i64.wrap (1*2^min (2:Nat) 64)=((4:Nat):Int):=by decide
  have qc:decide (((4:Nat):Int)<(w:Int))=false:=decide_eq_false (by omega)
  refine xx (aw qa (aw qb (aw hu (aw hs qc)))) ?_
  refine cK _ _ ?_
  refine bA ?_
  have e:=sj (l:=l) (w:=w) (k:=2) (by omega) fK (fun e=>by have e1:=e.1;have e2:=e.2.1;have e3:=e.2.2;simp only[Nat.reducePow]at e3;omega)
  refine cJ (cm _ _ ?_)
  refine bC hp (τ':=aF [(5,.d (.fs ((kT l 2).map iD) 3))]) (H':=[.dead]) ?_ ?_
  ·refine Rt.trans (Rt.fz (id:=0) (l:=((kT l 2).map iD)) rfl) ?_
   refine Rt.trans (Rt.slot 5 (mU (fE (by first|rfl|simp)))) ?_
   refine we ?_
   exact Cc
  refine ah (yr ·) ?_
  refine aM ?_
  show ai _ _=_
  refine Cb ?_
  rw[←e];rfl
 ·have qa:decide (((2:Nat):Int)<3)=true:=by decide
  have qb:decide (((2:Nat):Int)<l.length)=true:=decide_eq_true (by omega)
  have hu:IntKind.u64.wrap ((2:Nat):Int)=((2:Nat):Int):=by decide
  have hs:IntKind.i64.wrap (1*2^min (2:Nat) 64)=((4:Nat):Int):=by decide
  have qc:decide (((4:Nat):Int)<(w:Int))=true:=decide_eq_true (by omega)
  refine xx (aw qa (aw qb (aw hu (aw hs qc)))) ?_
  refine cK _ _ ?_
  refine dh ?_
  refine bg (dx _ _ ?_)
  refine aD fun rY eN=>?_
  refine aW ?_
  refine fj (Bu ·) (eN _ _ ?_)
  refine bT hp ax hc rfl fun yj im=>?_
  refine Bu ?_
  refine im _ _ ⟨_,_,_,?_,⟨2+1,⟨by omega,fun j hj=>by rcases(show j<2∨j=2 by omega)with h|h;exact fK j h;subst h;exact⟨h1,h2⟩⟩,rfl,rfl,rfl⟩,?_⟩
  ·first|omega|(simp only[List.length_cons];omega)|(dsimp only;omega)
  ·refine Rt.trans (Rt.gc (keep:=[0]) (by decide) (by decide) (by simp[eJ,dg])) ?_
   refine we ?_
   refine M7 ?_;simp[kT,iD]
 ·have qa:decide (((3:Nat):Int)<3)=false:=by decide
  have qb:=qa
  have hu:=qa
  have hs:=qa
  have qc:=qa
  refine xx (aw qa (aw qb (aw hu (aw hs qc)))) ?_
  refine cK _ _ ?_
  refine bA ?_
  have e:=sj (l:=l) (w:=w) (k:=3) (by omega) fK (fun e=>by have e1:=e.1;have e2:=e.2.1;have e3:=e.2.2;simp only[Nat.reducePow]at e3;omega)
  refine cJ (cm _ _ ?_)
  refine bC hp (τ':=aF [(5,.d (.fs ((kT l 3).map iD) 3))]) (H':=[.dead]) ?_ ?_
  ·refine Rt.trans (Rt.fz (id:=0) (l:=((kT l 3).map iD)) rfl) ?_
   refine Rt.trans (Rt.slot 5 (mU (fE (by first|rfl|simp)))) ?_
   refine we ?_
   exact Cc
  refine ah (yr ·) ?_
  refine aM ?_
  show ai _ _=_
  refine Cb ?_
  rw[←e];rfl
end Go.Proofs.YtapjobndmmkanaaGreat
