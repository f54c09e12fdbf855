/- Processes that bytes describe, as processes. -/
import Derived.Test.YtapjobndmmkanaaGreatVi
import Derived.Test.YtapjobndmmkanaaGreatOk
import Derived.Test.YtapjobndmmkanaaGreatVb
import Derived.Test.YtapjobndmmkanaaGreatOe
import Derived.Test.YtapjobndmmkanaaGreatVd
import Derived.Test.YtapjobndmmkanaaGreatQr
import Derived.Test.YtapjobndmmkanaaGreatVa
set_option linter.unusedVariables false
set_option linter.unusedSimpArgs false
namespace Go.Proofs.YtapjobndmmkanaaGreat
open Go.Proofs.Tryz
open Go Go.RowKit
section
def prC(r:PReg):List D:=[sD r.name,iD r.w,iD r.init]++(exC r.next++[iD r.rk,sD r.rf,iD r.rn])
def pmC(m:PMem):List D:=[sD m.name,iD m.w,iD m.words]++(exC m.en++(exC m.ad++(exC m.da++[iD m.rk,sD m.rf,iD m.rn])))
def ptC(t:PTake):List D:=[iD t.chan,iD t.w]++exC t.wh
def pqC(q:PPut):List D:=[iD q.chan,iD q.w]++(exC q.wh++exC q.da)
def zar(p:Pr):List D:=[sD p.name,sD p.clock,.fs (p.regs.flatMap prC) p.regs.length,.fs (p.mems.flatMap pmC) p.mems.length,.fs (p.takes.flatMap ptC) p.takes.length,.fs (p.puts.flatMap pqC) p.puts.length]
def zc4(p:Pr):D:=.agg (zar p)
theorem zzh(e:Ex):(exC e).length=7:=by cases e<;>rfl
theorem zpz(r:PReg):(prC r).length=13:=by simp[prC,zzh]
theorem zsa(m:PMem):(pmC m).length=27:=by simp[pmC,zzh]
theorem zsb(t:PTake):(ptC t).length=9:=by simp[ptC,zzh]
theorem znh(q:PPut):(pqC q).length=16:=by simp[pqC,zzh]
theorem zbt{l:List PReg}:(l.flatMap prC).length=l.length*13:=zc1 zpz l
theorem zb0{l:List PMem}:(l.flatMap pmC).length=l.length*27:=zc1 zsa l
theorem zbr{l:List PTake}:(l.flatMap ptC).length=l.length*9:=zc1 zsb l
theorem zbs{l:List PPut}:(l.flatMap pqC).length=l.length*16:=zc1 znh l
def toR(r:RG):PReg:=⟨r.name,r.w,r.init,r.nx.getD default,r.rk,r.rf,r.rn⟩
def toM(m:MG):PMem:=⟨m.name,m.w,m.words,m.en.getD default,m.ad.getD default,m.da.getD default,m.rk,m.rf,m.rn⟩
def toT(t:TG):PTake:=⟨t.chan,t.w,t.wh.getD default⟩
def toQ(q:QG):PPut:=⟨q.chan,q.w,q.wh.getD default,q.da.getD default⟩
theorem zjw{α β:Type}[Inhabited α]{f:α→List D}{g:β→List D}{t:α→β}:∀{l:List α},(∀k,k<l.length→f (nth l k)=g (t (nth l k)))→l.flatMap f=(l.map t).flatMap g
 |[],_=>rfl
 |a::l,h=>by
  rw[List.flatMap_cons,List.map_cons,List.flatMap_cons,zjw (l:=l) (fun k hk=>h (k+1) (by simpa using hk))]
  exact congrArg (·++_) (h 0 (by simp))
structure Proc (p:Pr):Prop where
 ok:PrOk p
 cost:zoe p≤491
 ins:(zh9 p).length≤17
 r1:1≤p.regs.length
 r3:p.regs.length≤3
 t2:p.takes.length≤2
 q2:p.puts.length≤2
 m1:p.mems.length≤1
 rw:∀i,i<p.regs.length→1≤(nth p.regs i).w∧(nth p.regs i).w≤3
 tw:∀i,i<p.takes.length→1≤(nth p.takes i).w∧(nth p.takes i).w≤2
 qw:∀i,i<p.puts.length→1≤(nth p.puts i).w∧(nth p.puts i).w≤2
 mw:∀i,i<p.mems.length→1≤(nth p.mems i).w∧(nth p.mems i).w≤2∧((nth p.mems i).words=1∨(nth p.mems i).words=2∨(nth p.mems i).words=4)
 rn:∀i,i<p.regs.length→(nth p.regs i).name.size≤9
 mn:∀i,i<p.mems.length→(nth p.mems i).name.size≤9
def mdP(rs:List RG)(ms:List MG)(ts:List TG)(qs:List QG):Pr:=⟨⟨#[112]⟩,⟨#[97]⟩,rs.map toR,ms.map toM,ts.map toT,qs.map toQ⟩
section
variable {rw tw:List Nat} {mw:List (Nat × Nat)} {rs:List RG} {ms:List MG} {ts:List TG} {qs:List QG}
theorem ju7(h:MdR rw tw mw rs ms ts qs):ctP (mdP rs ms ts qs)=ctG rw tw mw:=by
 unfold ctP mdP ctG
 simp only[List.map_map]
 rw[←h.rl,←h.tl,←h.ml]
 rfl
theorem jnv(h:MdR rw tw mw rs ms ts qs):mdC rs ms ts qs=zar (mdP rs ms ts qs):=by
 unfold mdC zar mdP
 simp only[List.length_map]
 rw[zjw (l:=rs) (g:=prC) (t:=toR) fun k hk=>by
   obtain⟨e,he,_⟩:=h.r k hk
   simp[rgC,prC,toR,he,exO],
  zjw (l:=ms) (g:=pmC) (t:=toM) fun k hk=>by
   obtain⟨e,a,d,h1,h2,h3,_⟩:=h.m k hk
   simp[mgC,pmC,toM,h1,h2,h3,exO],
  zjw (l:=ts) (g:=ptC) (t:=toT) fun k hk=>by
   obtain⟨e,he,_⟩:=h.t k hk
   simp[tgC,ptC,toT,he,exO],
  zjw (l:=qs) (g:=pqC) (t:=toQ) fun k hk=>by
   obtain⟨e,d,h1,h2,_⟩:=h.q k hk
   simp[qgC,pqC,toQ,h1,h2,exO]]
theorem yip(h:MdR rw tw mw rs ms ts qs){i:Nat}(hi:i<rs.length):Fit (ctG rw tw mw) true (toR (nth rs i)).w (if i=0 then 128 else 32) (toR (nth rs i)).next:=by
 obtain⟨e,he,hf⟩:=h.r i hi
 unfold toR
 rw[he];exact hf
theorem yiq(h:MdR rw tw mw rs ms ts qs){i:Nat}(hi:i<ts.length):Fit (ctG rw tw mw) false 1 32 (toT (nth ts i)).wh:=by
 obtain⟨e,he,hf⟩:=h.t i hi
 unfold toT
 rw[he];exact hf
theorem jxo(h:MdR rw tw mw rs ms ts qs){i:Nat}(hi:i<qs.length):Fit (ctG rw tw mw) true 1 32 (toQ (nth qs i)).wh∧Fit (ctG rw tw mw) true (toQ (nth qs i)).w 32 (toQ (nth qs i)).da:=by
 obtain⟨e,d,h1,h2,h3,h4⟩:=h.q i hi
 unfold toQ
 rw[h1,h2];exact⟨h3,h4⟩
theorem jxp(h:MdR rw tw mw rs ms ts qs){i:Nat}(hi:i<ms.length):Fit (ctG rw tw mw) true 1 32 (toM (nth ms i)).en∧(WT (ctG rw tw mw) true (toM (nth ms i)).ad∧za8 (ctG rw tw mw) (toM (nth ms i)).ad=0)∧Fit (ctG rw tw mw) true (toM (nth ms i)).w 32 (toM (nth ms i)).da:=by
 obtain⟨e,a,d,h1,h2,h3,h4,h5,h6,h7⟩:=h.m i hi
 unfold toM
 rw[h1,h2,h3];exact⟨h4,⟨h5,h6⟩,h7⟩
theorem ju8(h:MdR rw tw mw rs ms ts qs):1≤rs.length∧rs.length≤3∧ts.length≤2∧qs.length≤2∧ms.length≤1:=by
 have e1:=congrArg List.length h.rl;have e2:=congrArg List.length h.tl;have e3:=congrArg List.length h.ml
 simp only[List.length_map]at e1 e2 e3
 have:=h.wd.r1;have:=h.wd.r3;have:=h.wd.t2;have:=h.wd.m1;have:=h.q2
 omega
theorem yc2(h:MdR rw tw mw rs ms ts qs){i:Nat}(hi:i<rs.length):1≤(nth rs i).w∧(nth rs i).w≤3:=by
 have:=zxg h.rl hi
 rw[←this.2];exact h.wd.r _ (zcb this.1)
theorem yc3(h:MdR rw tw mw rs ms ts qs){i:Nat}(hi:i<ts.length):1≤(nth ts i).w∧(nth ts i).w≤2:=by
 have:=zxg h.tl hi
 rw[←this.2];exact h.wd.t _ (zcb this.1)
theorem yir(h:MdR rw tw mw rs ms ts qs){i:Nat}(hi:i<ms.length):1≤(nth ms i).w∧(nth ms i).w≤2∧((nth ms i).words=1∨(nth ms i).words=2∨(nth ms i).words=4):=by
 have h1:i<mw.length∧nth mw i=((nth ms i).words,(nth ms i).w):=by rw[←h.ml];exact⟨by simpa using hi,zfg hi⟩
 have:=h.wd.m _ (zcb h1.1)
 rw[h1.2]at this
 exact⟨this.2.1,this.2.2,this.1⟩
structure Bd (p:Pr):Prop where
 t:∀i,i<p.takes.length→za8 (ctP p) (nth p.takes i).wh≤32∧(nth p.takes i).w≤2
 q:∀i,i<p.puts.length→za8 (ctP p) (nth p.puts i).wh≤32∧za8 (ctP p) (nth p.puts i).da≤32∧(nth p.puts i).w≤2
 r:∀i,i<p.regs.length→za8 (ctP p) (nth p.regs i).next≤(if i=0 then 128 else 32)∧(nth p.regs i).w≤3
 m:∀i,i<p.mems.length→za8 (ctP p) (nth p.mems i).en≤32∧za8 (ctP p) (nth p.mems i).ad=0∧za8 (ctP p) (nth p.mems i).da≤32
theorem yk6{p:Pr}(h:Bd p):∀k,k≤p.takes.length→cTP p k≤34*k
 |0,_=>by simp[cTP]
 |k+1,hk=>by have:=yk6 h k (by omega);have:=h.t k (by omega);rw[cTP];omega
theorem yis{p:Pr}(h:Bd p):∀k,k≤p.puts.length→cQP p k≤34*p.takes.length+32*k
 |0,_=>by have:=yk6 h _ (qao _);rw[cQP];omega
 |k+1,hk=>by have:=yis h k (by omega);have:=h.q k (by omega);rw[cQP];omega
theorem yk7{p:Pr}(h:Bd p):∀k,k≤p.regs.length→cRP p k≤37*p.takes.length+35*p.puts.length+38*k+96
 |0,_=>by have:=yis h _ (qao _);rw[cRP];omega
 |k+1,hk=>by
  have:=yk7 h k (by omega);have h2:=h.r k (by omega);rw[cRP]
  by_cases e:k=0
  ·subst e
   have:=yis h _ (qao _)
   rw[if_pos rfl]at h2;rw[cRP];omega
  ·rw[if_neg e]at h2;omega
theorem yk8{p:Pr}(h:Bd p):∀k,k≤p.puts.length→cUP p k≤38*p.takes.length+35*p.puts.length+38*p.regs.length+96+35*k
 |0,_=>by have:=yk7 h _ (qao _);rw[cUP];omega
 |k+1,hk=>by have:=yk8 h k (by omega);have:=h.q k (by omega);rw[cUP];omega
theorem yk9{p:Pr}(h:Bd p):∀k,k≤p.mems.length→cMP p k≤38*p.takes.length+70*p.puts.length+38*p.regs.length+96+65*k
 |0,_=>by have:=yk8 h _ (qao _);rw[cMP];omega
 |k+1,hk=>by have:=yk9 h k (by omega);have:=h.m k (by omega);rw[cMP];omega
theorem yla{p:Pr}(h:Bd p):∀k,k≤p.regs.length→(zns p k).length≤3*k
 |0,_=>by simp[zns]
 |k+1,hk=>by have:=yla h k (by omega);have:=h.r k (by omega);rw[zns,List.length_append,zb3];omega
theorem ylb{p:Pr}(h:Bd p):∀k,k≤p.takes.length→(zlg p k).length≤3*p.regs.length+3*k
 |0,_=>by have:=yla h _ (qao _);rw[zlg];omega
 |k+1,hk=>by have:=ylb h k (by omega);have:=h.t k (by omega);rw[zlg,List.length_append,List.length_append,zb3,zb3];omega
theorem ylc{p:Pr}(h:Bd p):∀k,k≤p.puts.length→(zpa p k).length≤3*p.regs.length+3*p.takes.length+k
 |0,_=>by have:=ylb h _ (qao _);rw[zpa];omega
 |k+1,hk=>by have:=ylc h k (by omega);rw[zpa,List.length_append,zb3];omega
theorem yit(h:MdR rw tw mw rs ms ts qs):Bd (mdP rs ms ts qs):=by
 refine⟨fun i hi=>?_,fun i hi=>?_,fun i hi=>?_,fun i hi=>?_⟩<;>rw[ju7 h]<;>simp only[mdP,List.length_map]at hi ⊢<;>rw[zfg hi]
 ·exact⟨(yiq h hi).n,(yc3 h hi).2⟩
 ·exact⟨(jxo h hi).1.n,(jxo h hi).2.n,(h.qw i hi).2⟩
 ·exact⟨(yip h hi).n,(yc2 h hi).2⟩
 ·have:=jxp h hi
  exact⟨this.1.n,this.2.1.2,this.2.2.n⟩
theorem ju9(h:MdR rw tw mw rs ms ts qs):Proc (mdP rs ms ts qs):=by
 obtain⟨l1,l2,l3,l4,l5⟩:=ju8 h
 have hb:=yit h
 have hc:zoe (mdP rs ms ts qs)≤491:=by
  have:=yk9 hb _ (qao _)
  unfold zoe
  simp only[mdP,List.length_map]at this ⊢
  omega
 refine⟨⟨by rw[ju7 h];exact h.wd.ct,fun i hi=>?_,fun i hi=>?_,fun i hi=>?_,fun i hi=>?_,fun i hi=>?_,fun i hi=>?_,fun i hi=>?_,fun i hi=>?_,?_,?_,?_,by omega⟩,hc,?_,?_,?_,?_,?_,?_,fun i hi=>?_,fun i hi=>?_,fun i hi=>?_,fun i hi=>?_,fun i hi=>?_,fun i hi=>?_⟩
 any_goals rw[ju7 h]
 any_goals (simp only[mdP,List.length_map]at hi ⊢;rw[zfg hi])
 any_goals (simp only[mdP,List.length_map];omega)
 ·exact⟨(yiq h hi).t,(yiq h hi).w⟩
 ·exact⟨(yip h hi).t,(yip h hi).w⟩
 ·exact⟨(jxo h hi).1.t,(jxo h hi).1.w⟩
 ·exact⟨(jxo h hi).2.t,(jxo h hi).2.w⟩
 ·have:=h.qw i hi
  exact⟨this.1,by show(nth qs i).w≤8;omega⟩
 ·exact⟨(jxp h hi).1.t,(jxp h hi).1.w⟩
 ·exact(jxp h hi).2.1.1
 ·exact⟨(jxp h hi).2.2.t,(jxp h hi).2.2.w⟩
 ·have:=ylc hb _ (qao _)
  unfold zh9
  simp only[mdP,List.length_map]at this ⊢
  omega
 ·exact yc2 h hi
 ·exact yc3 h hi
 ·exact h.qw i hi
 ·exact yir h hi
 ·exact h.nr _ (qat.2 ⟨_,zcb hi,rfl⟩)
 ·exact h.nm _ (qat.2 ⟨_,zcb hi,rfl⟩)
end
theorem zzi{P:Program}{f:FuncId}{ds:List D}{Q Q':AV→Prop}(h:zg5 P f ds Q)(hq:∀r,Q r→Q' r):zg5 P f ds Q':=
 ⟨h.1,fun w O vals h1 h2 h3=>(h.2 w O vals h1 h2 h3).mono fun e w' ⟨v,r,he,hr,h4,h5⟩=>⟨v,r,he,hq r hr,h4,h5⟩⟩
theorem jva(b:List Int)(hb:zg1 b)(hl:b.length≤maxLen):zg5 prog 9 [.agg [bytesD b]] fun r=>∃p,Proc p∧r= .d (zc4 p):=
 zzi (ju6 b hb hl) fun r ⟨rw,tw,mw,rs,ms,ts,qs,h,e⟩=>⟨_,ju9 h,by rw[e,jnv h];rfl⟩
section
variable {P:Program} {fn:Func} {Q:AV→zad→Prop} {τ:Fr} {H:zad}
theorem zh3{l:List ResultVar}(h:fn.results.toList=l)(hq:zsw P τ H l fun xs=>Q (retV xs) H):zgs P fn Q .ret τ H:=by
 show zsw P τ H fn.results.toList _
 rw[h];exact hq
theorem zix{t:Tmp}{l:List ResultVar}{K:List AV→Prop}(h:zsw P τ H l fun xs=>K (τ t::xs)):zsw P τ H (.tmp t::l) K:=h
theorem jkf{t:Tmp}{ty:TypeId}{l:List ResultVar}{K:List AV→Prop}(h:oK (loadF P H.length H ty (τ t)) (tg fun x=>zsw P τ H l fun xs=>K (x::xs))):zsw P τ H (.cell t ty::l) K:=by
 obtain⟨x,h1,h2⟩:=h
 exact⟨x,zg8 h1,h2⟩
end
end
section
structure StP (p:Pr) (s:PSt) (heads:List Head) (rooms:List Bool):Prop where
 rl:s.regs.length=p.regs.length
 rv:∀i,i<p.regs.length→0≤nth s.regs i∧nth s.regs i<2^(nth p.regs i).w
 ml:s.mems.length=p.mems.length
 mw:∀i,i<p.mems.length→(nth s.mems i).length=(nth p.mems i).words
 mv:∀i,i<p.mems.length→∀k,k<(nth p.mems i).words→0≤nth (nth s.mems i) k∧nth (nth s.mems i) k<2^(nth p.mems i).w
 hl:heads.length=p.takes.length
 hv:∀i,i<p.takes.length→0≤(nth heads i).v∧(nth heads i).v<2^(nth p.takes i).w
 ol:rooms.length=p.puts.length
def rgV(s:PSt):List Nat:=s.regs.map Int.toNat
def zjx(p:Pr)(s:PSt)(i:Nat):Bool:=decide (evE (ctP p) (rgV s) [] s.mems (nth p.takes i).wh=1)
def zzj(p:Pr)(s:PSt)(heads:List Head)(i:Nat):Nat:=if zjx p s i&&(nth heads i).has then(nth heads i).v.toNat else 0
def yc4(p:Pr)(s:PSt)(heads:List Head):List Nat:=(List.range p.takes.length).map (zzj p s heads)
def evP(p:Pr)(s:PSt)(heads:List Head)(e:Ex):Nat:=evE (ctP p) (rgV s) (yc4 p s heads) s.mems e
def zjy(p:Pr)(s:PSt)(heads:List Head)(i:Nat):Bool:=decide (evP p s heads (nth p.puts i).wh=1)
def fTv(p:Pr)(s:PSt)(heads:List Head):Nat→Bool
 |0=>true
 |k+1=>fTv p s heads k&&(!zjx p s k||(nth heads k).has)
def fQv(p:Pr)(s:PSt)(heads:List Head)(rooms:List Bool):Nat→Bool
 |0=>fTv p s heads p.takes.length
 |k+1=>fQv p s heads rooms k&&(!zjy p s heads k||nth rooms k)
def zd6(p:Pr)(s:PSt)(heads:List Head)(rooms:List Bool):Bool:=fQv p s heads rooms p.puts.length
def ouV(p:Pr)(s:PSt)(heads:List Head)(rooms:List Bool)(w:Wire):Bool:=
 if w.kind=1 then(if zd6 p s heads rooms then evP p s heads (nth p.regs w.i.toNat).next else(nth s.regs w.i.toNat).toNat).testBit w.bit.toNat
 else if w.kind=5 then zd6 p s heads rooms&&zjx p s w.i.toNat
 else if w.kind=6 then zd6 p s heads rooms&&zjy p s heads w.i.toNat
 else if w.kind=7 then(if zd6 p s heads rooms&&zjy p s heads w.i.toNat then evP p s heads (nth p.puts w.i.toNat).da else 0).testBit w.bit.toNat
 else if w.kind=8 then zd6 p s heads rooms&&decide (evP p s heads (nth p.mems w.i.toNat).en=1)
 else if w.kind=9 then(evP p s heads (nth p.mems w.i.toNat).ad % (nth p.mems w.i.toNat).words).testBit w.bit.toNat
 else(evP p s heads (nth p.mems w.i.toNat).da).testBit w.bit.toNat
theorem zcl{c:Ct}{r d d':List Nat}{m:List (List Int)}:∀(e:Ex),WT c false e→evE c r d m e=evE c r d' m e
 | .con v w,_=>rfl
 | .reg i,_=>rfl
 | .dat i,h=>by cases h.1
 | .not a,h=>by simp only[evE];rw[zcl a h]
 | .two o a b,h=>by simp only[evE];rw[zcl a h.2.1,zcl b h.2.2.1]
 | .add a b,h=>by simp only[evE];rw[zcl a h.1,zcl b h.2.1]
 | .sub a b,h=>by simp only[evE];rw[zcl a h.1,zcl b h.2.1]
 | .eq a b,h=>by simp only[evE];rw[zcl a h.1,zcl b h.2.1]
 | .lt a b,h=>by simp only[evE];rw[zcl a h.1,zcl b h.2.1]
 | .mux a b c,h=>by simp only[evE];rw[zcl a h.1,zcl b h.2.1,zcl c h.2.2.1]
 | .cat a b,h=>by simp only[evE];rw[zcl a h.1,zcl b h.2.1]
 | .slc k w a,h=>by simp only[evE];rw[zcl a h.1]
 | .ext w a,h=>by simp only[evE];rw[zcl a h.1]
 | .rd k a,h=>by simp only[evE];rw[zcl a h.1]
theorem zvb{kind i:Int}{w k:Nat}(h:k<w):nth (zcr kind i w) k=⟨kind,i,(k:Int)⟩:=zfq h
theorem jvb{x:Nat}(h:x<2^1):x.testBit 0=decide (x=1):=by
 rcases(show x=0∨x=1 by omega)with e|e<;>rw[e]<;>rfl
theorem yiu{b:Bool}{x y k:Nat}:(if b then x else y).testBit k=if b then x.testBit k else y.testBit k:=by cases b<;>rfl
section
variable {p:Pr} {s:PSt} {heads:List Head} {rooms:List Bool}
theorem jkg{i:Nat}(hi:i<p.regs.length):nth (ctP p).regs i=(nth p.regs i).w:=zt4 hi
theorem zxi{i:Nat}(hi:i<p.mems.length):nth (ctP p).mems i=((nth p.mems i).words,(nth p.mems i).w):=zt4 hi
theorem jkh{i:Nat}(hi:i<s.regs.length):nth (rgV s) i=(nth s.regs i).toNat:=zfg hi
theorem jki{i:Nat}(hi:i<p.takes.length):nth (yc4 p s heads) i=zzj p s heads i:=zfq hi
theorem jnw(hs:StP p s heads rooms):StOk (ctP p) (rgV s) (yc4 p s heads) s.mems:=by
 refine⟨fun i hi=>?_,fun i hi=>?_,?_,fun i hi=>?_,fun i hi k hk=>?_⟩
 ·have hi:i<p.regs.length:=by simpa[ctP]using hi
  rw[jkh (by rw[hs.rl];exact hi),jkg hi]
  have:=hs.rv i hi
  have e:((2^(nth p.regs i).w:Nat):Int)=(2:Int)^(nth p.regs i).w:=by simp
  omega
 ·have hi:i<p.takes.length:=by simpa[ctP]using hi
  rw[jki hi,jui hi]
  have:=hs.hv i hi
  have e:((2^(nth p.takes i).w:Nat):Int)=(2:Int)^(nth p.takes i).w:=by simp
  have hp:=Nat.two_pow_pos (nth p.takes i).w
  unfold zzj
  split<;>omega
 ·rw[hs.ml];simp[ctP]
 ·have hi:i<p.mems.length:=by simpa[ctP]using hi
  rw[zxi hi];exact hs.mw i hi
 ·have hi:i<p.mems.length:=by simpa[ctP]using hi
  rw[zxi hi]at hk ⊢;exact hs.mv i hi k hk
end
def v0P(p:Pr)(s:PSt)(heads:List Head)(rooms:List Bool):List Bool:=false::true::zx5 s heads rooms (zh9 p)
section
variable {p:Pr} {s:PSt} {heads:List Head} {rooms:List Bool}
theorem v0_ok:V0 (mP p) (v0P p s heads rooms):=⟨by simp[v0P,zx5,mP];omega,mP2,rfl,rfl⟩
theorem jnx{kind:Int}{i k:Nat}{gs:Gs}(hw:(⟨kind,(i:Int),(k:Int)⟩:Wire)∈zh9 p):vl s.mems (v0P p s heads rooms) gs (inp p kind i k)=inV s heads rooms ⟨kind,i,k⟩:=by
 obtain⟨h1,h2⟩:=zm8 hw
 have e:(inp p kind i k).toNat=2+zqo ⟨kind,(i:Int),(k:Int)⟩ (zh9 p):=by unfold inp;omega
 rw[jjx (by rw[e,(v0_ok (p:=p) (s:=s) (heads:=heads) (rooms:=rooms)).l];unfold mP;omega),e]
 show nth (false::true::zx5 s heads rooms (zh9 p)) (2+_)=_
 rw[Nat.add_comm]
 show nth (zx5 s heads rooms (zh9 p)) (zqo ⟨kind,(i:Int),(k:Int)⟩ (zh9 p))=_
 unfold zx5
 rw[zfg h1,h2]
theorem jso{gs:Gs}{f d x:Int}(hg:GI (mP p) gs)(hf:NdB (mP p) gs f)(hd:NdB (mP p) gs d)(hx:NdB (mP p) gs x):vl s.mems (v0P p s heads rooms) (zu3 (mP p) gs f d x).1 (zu3 (mP p) gs f d x).2=(vl s.mems (v0P p s heads rooms) gs f&&(!vl s.mems (v0P p s heads rooms) gs d||vl s.mems (v0P p s heads rooms) gs x)):=by
 have hn:=zer mP2 hg hd
 have ho:=zw0 mP2 hn.gi hn.nd (hx.pre hn.pre)
 unfold zu3
 simp only
 rw[zrx v0_ok ho.gi (hf.pre (hn.pre.trans ho.pre)) ho.nd,zb1 v0_ok.l (hn.pre.trans ho.pre) hf,ybq v0_ok hn.gi hn.nd (hx.pre hn.pre),zw8 v0_ok hg hd,zb1 v0_ok.l hn.pre hx]
theorem yiv(hs:StP p s heads rooms){i:Nat}{gs:Gs}(hi:i<p.takes.length):vl s.mems (v0P p s heads rooms) gs (inp p 3 i 0)=(nth heads i).has:=by
 rw[jnx (in3 hi)]
 unfold inV
 rw[if_neg (show ¬((3:Int)=1) by decide),if_neg (show ¬((3:Int)=2) by decide),if_pos rfl]
 simp only[Int.toNat_natCast]
 rw[decide_eq_true (show(i:Int)<(heads.length:Int) by rw[hs.hl];omega),Bool.true_and]
theorem yiw(hs:StP p s heads rooms){i:Nat}{gs:Gs}(hi:i<p.puts.length):vl s.mems (v0P p s heads rooms) gs (inp p 4 i 0)=nth rooms i:=by
 rw[jnx (in4 hi)]
 unfold inV
 rw[if_neg (show ¬((4:Int)=1) by decide),if_neg (show ¬((4:Int)=2) by decide),if_neg (show ¬((4:Int)=3) by decide)]
 simp only[Int.toNat_natCast]
 rw[decide_eq_true (show(i:Int)<(rooms.length:Int) by rw[hs.ol];omega)]
 rfl
variable (h:PrOk p) (hs:StP p s heads rooms)
include h hs
theorem yc5{i k:Nat}{gs:Gs}(hi:i<p.regs.length)(hk:k<(nth p.regs i).w):vl s.mems (v0P p s heads rooms) gs (inp p 1 i k)=(nth (rgV s) i).testBit k:=by
 rw[jnx (in1 hi hk),jkh (by rw[hs.rl];exact hi)]
 unfold inV
 rw[if_pos rfl]
 have hw:=(h.ct.r i (by simpa[ctP]using hi)).2
 rw[jkg hi]at hw
 obtain⟨v,hv⟩:∃v:Nat,nth s.regs i=v:=⟨_,(qaz (hs.rv i hi).1).symm⟩
 have hv2:=(hs.rv i hi).2
 have e:((2^(nth p.regs i).w:Nat):Int)=(2:Int)^(nth p.regs i).w:=by simp
 have hp2:(2:Nat)^(nth p.regs i).w≤2^8:=qba (by decide) hw
 simp only[Int.toNat_natCast]
 rw[hv]at hv2 ⊢
 rw[decide_eq_true (show(i:Int)<(s.regs.length:Int) by rw[hs.rl];omega),Bool.true_and,jj0 (by omega) (by omega),Int.toNat_natCast]
theorem yix{i k:Nat}{gs:Gs}(hi:i<p.takes.length)(hk:k<(nth p.takes i).w):vl s.mems (v0P p s heads rooms) gs (inp p 2 i k)=((nth heads i).has&&(nth heads i).v.toNat.testBit k):=by
 rw[jnx (in2 hi hk)]
 unfold inV
 rw[if_neg (show ¬((2:Int)=1) by decide),if_pos rfl]
 have hw:=(h.ct.t i (by simpa[ctP]using hi)).2
 rw[jui hi]at hw
 obtain⟨v,hv⟩:∃v:Nat,(nth heads i).v=v:=⟨_,(qaz (hs.hv i hi).1).symm⟩
 have hv2:=(hs.hv i hi).2
 have e:((2^(nth p.takes i).w:Nat):Int)=(2:Int)^(nth p.takes i).w:=by simp
 have hp2:(2:Nat)^(nth p.takes i).w≤2^8:=qba (by decide) hw
 simp only[Int.toNat_natCast]
 rw[hv]at hv2 ⊢
 rw[decide_eq_true (show(i:Int)<(heads.length:Int) by rw[hs.hl];omega),Bool.true_and,jj0 (by omega) (by omega),Int.toNat_natCast]
theorem zt7{e:Ex}(ht:WT (ctP p) true e):evP p s heads e<2^za7 (ctP p) e:=znd h.ct (jnw hs) e ht
variable (hww:∀k,k<(ctP p).mems.length→(nth (ctP p).mems k).1=1∨(nth (ctP p).mems k).1=2∨(nth (ctP p).mems k).1=4∨(nth (ctP p).mems k).1=8)
include hww
theorem jkj{q:Bool}{data:List (List Int)}{gs:Gs}(hg:GI (mP p) gs)(hd:DaOk (ctP p) q (mP p) gs data)(hda:q=true→∀i,i<p.takes.length→VB s.mems (v0P p s heads rooms) gs (nth data i) (nth p.takes i).w (zzj p s heads i)){e:Ex}(ht:WT (ctP p) q e):
  VB s.mems (v0P p s heads rooms) (zci p data gs e).1 (zci p data gs e).2 (za7 (ctP p) e) (evP p s heads e):=
 ybz v0_ok h.ct (ygs h) (jnw hs) hww (fun i k gs hi hk=>by
  have hi':i<p.regs.length:=by simpa[ctP]using hi
  rw[jkg hi']at hk
  exact yc5 h hs hi' hk) e hg hd (fun eq i hi=>by
  have hi':i<p.takes.length:=by simpa[ctP]using hi
  rw[jui hi',jki hi']
  exact hda eq i hi') ht
structure TkV (p:Pr) (s:PSt) (heads:List Head) (rooms:List Bool) (k:Nat) (f:Fi):Prop where
 t:∀i,i<k→vl s.mems (v0P p s heads rooms) f.gs (nth f.takes i)=zjx p s i
 d:∀i,i<k→VB s.mems (v0P p s heads rooms) f.gs (nth f.data i) (nth p.takes i).w (zzj p s heads i)
theorem jd7:∀k,k≤p.takes.length→TkV p s heads rooms k (zc0 p k)
 |0,_=>⟨fun i hi=>by omega,fun i hi=>by omega⟩
 |k+1,hk=>by
  have ih:=jd7 k (by omega)
  have ho:=zgc h k (by omega)
  obtain⟨hb,ht⟩:=jjp h (show k<p.takes.length by omega) ho
  have hw:=h.tw k (show k<p.takes.length by omega)
  have vb:=jkj h hs hww (q:=false) (data:=(zc0 p k).data) ho.gi (DaOk.mk (by intro e;cases e) (by intro e;cases e) (by intro e;cases e)) (by intro e;cases e) hw.1
  rw[hw.2]at vb
  have lt:=znd h.ct (jnw hs) _ hw.1
  rw[hw.2]at lt
  have hdue:vl s.mems (v0P p s heads rooms) (zci p (zc0 p k).data (zc0 p k).gs (nth p.takes k).wh).1 (nth (zci p (zc0 p k).data (zc0 p k).gs (nth p.takes k).wh).2 0)=zjx p s k:=by
   rw[vb 0 (by decide)]
   unfold evP
   rw[jvb lt]
   unfold zjx
   rw[zcl (d:=yc4 p s heads) (d':=[]) _ hw.1]
  simp only[zc0]
  generalize zc0 p k=f at *
  generalize zci p f.data f.gs (nth p.takes k).wh=r at *
  have hev:=znc (mems:=s.mems) (v0:=v0P p s heads rooms) (q:=1) (st:=fun gs i=>zdn (mP p) gs (nth r.2 0) (inp p 2 k i)) (f:=fun i=>zjx p s k&&((nth heads k).has&&(nth heads k).v.toNat.testBit i)) v0_ok hb.gi
   (n:=(nth p.takes k).w) (fun i hi gs' hp hg=>zfy mP2 hg (hb.at hp (by decide)) (zh1 (in2 (by omega) hi) _))
   (fun i hi gs' hp hg=>by rw[zrx v0_ok hg (hb.at hp (by decide)) (zh1 (in2 (by omega) hi) _),zb1 v0_ok.l hp (hb.nd 0 (by decide)),hdue,yix h hs (by omega) hi])
  generalize zbu (fun gs i=>zdn (mP p) gs (nth r.2 0) (inp p 2 k i)) r.1 (nth p.takes k).w=t at *
  have hpt:=hb.pre.trans ht.pre
  refine⟨fun i hi=>?_,fun i hi=>?_⟩
  ·rcases zeg (x:=nth r.2 0) ho.tl hi with⟨hl,e⟩|⟨hl,e⟩
   ·simp only;rw[e,zb1 v0_ok.l hpt (ho.tn i hl)];exact ih.t i hl
   ·simp only;rw[e,zb1 v0_ok.l ht.pre (hb.nd 0 (by decide)),hdue,hl]
  ·rcases zeg (x:=t.2) ho.dl hi with⟨hl,e⟩|⟨hl,e⟩
   ·simp only;rw[e];exact(ih.d i hl).pre' v0_ok (ho.dn i hl) hpt
   ·simp only
    rw[e,hl]
    intro j hj
    rw[hev j hj]
    unfold zzj
    cases zjx p s k<;>cases(nth heads k).has<;>simp
theorem yiy{gs:Gs}(hp:(zc0 p p.takes.length).gs<+:gs):∀i,i<p.takes.length→VB s.mems (v0P p s heads rooms) gs (nth (zbb p) i) (nth p.takes i).w (zzj p s heads i):=fun i hi=>
 ((jd7 h hs hww _ (qao _)).d i hi).pre' v0_ok (fun k hk=>(zgc h _ (qao _)).dn i hi k hk) hp
theorem zok{gs:Gs}(hg:GI (mP p) gs)(hp:(zc0 p p.takes.length).gs<+:gs){e:Ex}(ht:WT (ctP p) true e):VB s.mems (v0P p s heads rooms) (zci p (zbb p) gs e).1 (zci p (zbb p) gs e).2 (za7 (ctP p) e) (evP p s heads e):=
 jkj h hs hww hg (jm4 h hp) (fun _=>yiy h hs hww hp) ht
theorem jvc:∀k,k≤p.puts.length→∀i,i<k→vl s.mems (v0P p s heads rooms) (zl3 p k).gs (nth (zl3 p k).puts i)=zjy p s heads i
 |0,_=>fun i hi=>by omega
 |k+1,hk=>fun i hi=>by
  have ih:=jvc k (by omega)
  have ho:=zhn h k (by omega)
  have hb:=juj h (show k<p.puts.length by omega) ho
  have hw:=h.qw k (show k<p.puts.length by omega)
  have vb:=zok h hs hww ho.gi ho.pre hw.1
  rw[hw.2]at vb
  have lt:=zt7 h hs hw.1
  rw[hw.2]at lt
  simp only[zl3]
  unfold zbb at vb hb
  generalize zl3 p k=f at *
  generalize zci p (zc0 p p.takes.length).data f.gs (nth p.puts k).wh=r at *
  rcases zeg (x:=nth r.2 0) ho.ql hi with⟨hl,e⟩|⟨hl,e⟩
  ·rw[e,zb1 v0_ok.l hb.pre (ho.qn i hl)];exact ih i hl
  ·rw[e,vb 0 (by decide),jvb lt,hl];rfl
theorem jkk:∀k,k≤p.takes.length→vl s.mems (v0P p s heads rooms) (zi6 p k).1 (zi6 p k).2=fTv p s heads k
 |0,_=>zx7 v0_ok
 |k+1,hk=>by
  have ih:=jkk k (by omega)
  have hr:=zqp h k (by omega)
  have hq:=zhn h _ (qao _)
  have ht:=zgc h _ (qao _)
  have hd:=(ht.tn k (by omega)).pre (hq.pre.trans hr.pre)
  have vd:=(jd7 h hs hww _ (qao _)).t k (by omega)
  simp only[zi6,fTv]
  rw[jso hr.gi hr.nd hd (zh1 (in3 (by omega)) _),ih,yiv hs (by omega),zb1 v0_ok.l (hq.pre.trans hr.pre) (ht.tn k (by omega)),vd]
theorem jkl:∀k,k≤p.puts.length→vl s.mems (v0P p s heads rooms) (zi7 p k).1 (zi7 p k).2=fQv p s heads rooms k
 |0,_=>jkk h hs hww _ (qao _)
 |k+1,hk=>by
  have ih:=jkl k (by omega)
  have hr:=zfr h k (by omega)
  have hq:=zhn h _ (qao _)
  have hd:=(hq.qn k (by omega)).pre hr.pre
  have vd:=jvc h hs hww _ (qao _) k (by omega)
  simp only[zi7,fQv]
  rw[jso hr.gi hr.nd hd (zh1 (in4 (by omega)) _),ih,yiw hs (by omega),zb1 v0_ok.l hr.pre (hq.qn k (by omega)),vd]
theorem jd8{gs:Gs}(hp:(zi7 p p.puts.length).1<+:gs):vl s.mems (v0P p s heads rooms) gs (zcs p)=zd6 p s heads rooms:=by
 have hr:=zfr h _ (qao _)
 unfold zcs
 rw[zb1 v0_ok.l hp hr.nd];exact jkl h hs hww _ (qao _)
theorem yc6{gs:Gs}(hp:(zc0 p p.takes.length).gs<+:gs){i:Nat}(hi:i<p.takes.length):vl s.mems (v0P p s heads rooms) gs (nth (zfz p) i)=zjx p s i:=by
 unfold zfz
 rw[zb1 v0_ok.l hp ((zgc h _ (qao _)).tn i hi)];exact(jd7 h hs hww _ (qao _)).t i hi
theorem yc7{gs:Gs}(hp:(zl3 p p.puts.length).gs<+:gs){i:Nat}(hi:i<p.puts.length):vl s.mems (v0P p s heads rooms) gs (nth (ze4 p) i)=zjy p s heads i:=by
 unfold ze4
 rw[zb1 v0_ok.l hp ((zhn h _ (qao _)).qn i hi)];exact jvc h hs hww _ (qao _) i hi
end
end
section
theorem yc8{a n w j:Nat}(h1:n=1∨n=2∨n=4∨n=8)(ha:a<2^w)(hj:j<3):(decide (j<w∧2^j<n)&&a.testBit j)=(a % n).testBit j:=by
 have e:(decide (j<w∧2^j<n)&&a.testBit j)=(decide (2^j<n)&&a.testBit j):=by
  by_cases h:j<w
  ·simp[h]
  ·rw[zl5 ha (by omega)];simp
 rw[e]
 have h2:∃k,n=2^k∧k≤3:=by rcases h1 with h|h|h|h;exact⟨0,h,by decide⟩;exact⟨1,h,by decide⟩;exact⟨2,h,by decide⟩;exact⟨3,h,by decide⟩
 obtain⟨k,rfl,_⟩:=h2
 rw[Nat.testBit_mod_two_pow]
 congr 1
 rw[decide_eq_decide]
 exact Nat.pow_lt_pow_iff_right (by decide)
section
variable {p:Pr} {s:PSt} {heads:List Head} {rooms:List Bool}
def OsV(p:Pr)(s:PSt)(heads:List Head)(rooms:List Bool)(o:Os):Prop:=∀j,j<o.dr.length→vl s.mems (v0P p s heads rooms) o.gs (nth o.dr j)=ouV p s heads rooms (nth o.out j)
theorem OsV.app{n:Nat}{o:Os}{gs:Gs}{ws:List Wire}{d:List Int}(ho:OsOk p n o)(hv:OsV p s heads rooms o)(hp:o.gs<+:gs)(hd:∀j,j<d.length→vl s.mems (v0P p s heads rooms) gs (nth d j)=ouV p s heads rooms (nth ws j)):OsV p s heads rooms ⟨gs,o.out++ws,o.dr++d⟩:=fun j hj=>by
 simp only at hj ⊢
 by_cases hl:j<o.dr.length
 ·rw[zsl hl,zsl (by rw[ho.ol];exact hl),zb1 v0_ok.l hp (ho.dn j hl)];exact hv j hl
 ·rw[zw2 (by omega),zw2 (by rw[ho.ol];omega),ho.ol]
  exact hd _ (by simp at hj;omega)
theorem o_1{i k:Nat}:ouV p s heads rooms ⟨1,i,k⟩=(if zd6 p s heads rooms then evP p s heads (nth p.regs i).next else(nth s.regs i).toNat).testBit k:=by
 unfold ouV;simp only[Int.toNat_natCast];rw[if_pos trivial]
theorem o_5{i:Nat}:ouV p s heads rooms ⟨5,i,0⟩=(zd6 p s heads rooms&&zjx p s i):=by
 unfold ouV;simp only[Int.toNat_natCast];rw[if_neg (show ¬((5:Int)=1) by decide),if_pos trivial]
theorem o_6{i:Nat}:ouV p s heads rooms ⟨6,i,0⟩=(zd6 p s heads rooms&&zjy p s heads i):=by
 unfold ouV;simp only[Int.toNat_natCast];rw[if_neg (show ¬((6:Int)=1) by decide),if_neg (show ¬((6:Int)=5) by decide),if_pos trivial]
theorem o_7{i k:Nat}:ouV p s heads rooms ⟨7,i,k⟩=(if zd6 p s heads rooms&&zjy p s heads i then evP p s heads (nth p.puts i).da else 0).testBit k:=by
 unfold ouV;simp only[Int.toNat_natCast];rw[if_neg (show ¬((7:Int)=1) by decide),if_neg (show ¬((7:Int)=5) by decide),if_neg (show ¬((7:Int)=6) by decide),if_pos trivial]
theorem o_8{i:Nat}:ouV p s heads rooms ⟨8,i,0⟩=(zd6 p s heads rooms&&decide (evP p s heads (nth p.mems i).en=1)):=by
 unfold ouV;simp only[Int.toNat_natCast];rw[if_neg (show ¬((8:Int)=1) by decide),if_neg (show ¬((8:Int)=5) by decide),if_neg (show ¬((8:Int)=6) by decide),if_neg (show ¬((8:Int)=7) by decide),if_pos trivial]
theorem o_9{i k:Nat}:ouV p s heads rooms ⟨9,i,k⟩=(evP p s heads (nth p.mems i).ad % (nth p.mems i).words).testBit k:=by
 unfold ouV;simp only[Int.toNat_natCast];rw[if_neg (show ¬((9:Int)=1) by decide),if_neg (show ¬((9:Int)=5) by decide),if_neg (show ¬((9:Int)=6) by decide),if_neg (show ¬((9:Int)=7) by decide),if_neg (show ¬((9:Int)=8) by decide),if_pos trivial]
theorem yld{i k:Nat}:ouV p s heads rooms ⟨10,i,k⟩=(evP p s heads (nth p.mems i).da).testBit k:=by
 unfold ouV;simp only[Int.toNat_natCast];rw[if_neg (show ¬((10:Int)=1) by decide),if_neg (show ¬((10:Int)=5) by decide),if_neg (show ¬((10:Int)=6) by decide),if_neg (show ¬((10:Int)=7) by decide),if_neg (show ¬((10:Int)=8) by decide),if_neg (show ¬((10:Int)=9) by decide)]
variable (h:PrOk p) (hs:StP p s heads rooms)
 (hww:∀k,k<(ctP p).mems.length→(nth (ctP p).mems k).1=1∨(nth (ctP p).mems k).1=2∨(nth (ctP p).mems k).1=4∨(nth (ctP p).mems k).1=8)
include h hs hww
theorem jsp:∀i,i≤p.regs.length→OsV p s heads rooms (zet p i)
 |0,_=>fun j hj=>by simp[zet]at hj
 |i+1,hi=>by
  have ih:=jsp i (by omega)
  have ho:=zjs h i (by omega)
  have hi':i<p.regs.length:=by omega
  obtain⟨hb,ht⟩:=zrr h hi' ho
  have hw:=h.rn i hi'
  have vb:=zok h hs hww ho.gi (ho.tp h) hw.1
  rw[hw.2]at vb
  have hfp:(zi7 p p.puts.length).1<+:(zet p i).gs:=ho.pre
  have hfn:NdB (mP p) (zi7 p p.puts.length).1 (zcs p):=(zfr h _ (qao _)).nd
  simp only[zet]
  generalize zet p i=o at *
  generalize zci p (zbb p) o.gs (nth p.regs i).next=r at *
  rw[hb.wid]
  refine OsV.app ho ih (hb.pre.trans ht.pre) fun k hk=>?_
  rw[ht.wid]at hk
  have e:=znc (mems:=s.mems) (v0:=v0P p s heads rooms) (q:=2) (st:=fun gs k=>zlf (mP p) gs (zcs p) (nth r.2 k) (inp p 1 i k)) (f:=fun k=>if zd6 p s heads rooms then(evP p s heads (nth p.regs i).next).testBit k else(nth (rgV s) i).testBit k) v0_ok hb.gi
   (n:=(nth p.regs i).w) (fun k hk gs' hp hg=>zt2 mP2 hg (hfn.pre (hfp.trans (hb.pre.trans hp))) (hb.at hp hk) (zh1 (in1 hi' hk) _))
   (fun k hk gs' hp hg=>by rw[ybr v0_ok hg (hfn.pre (hfp.trans (hb.pre.trans hp))) (hb.at hp hk) (zh1 (in1 hi' hk) _),jd8 h hs hww (hfp.trans (hb.pre.trans hp)),zb1 v0_ok.l hp (hb.nd k hk),vb k hk,yc5 h hs hi' hk]) k hk
  rw[e,zvb hk,o_1,yiu,jkh (by rw[hs.rl];exact hi')]
theorem jsq:∀i,i≤p.takes.length→OsV p s heads rooms (zgm p i)
 |0,_=>jsp h hs hww _ (qao _)
 |i+1,hi=>by
  have ih:=jsq i (by omega)
  have ho:=zu5 h i (by omega)
  have hi':i<p.takes.length:=by omega
  have hF:=ho.fire h (List.prefix_refl _)
  have hD:=ho.dueT h (List.prefix_refl _) hi'
  have ha:=zfy mP2 ho.gi hF hD
  have va:=zrx (mems:=s.mems) (v0:=v0P p s heads rooms) v0_ok ho.gi hF hD
  rw[jd8 h hs hww ho.pre,yc6 h hs hww (ho.tp h) hi']at va
  simp only[zgm]
  refine OsV.app ho ih ha.pre fun k hk=>?_
  have hk0:k=0:=by simpa using hk
  subst hk0
  exact va.trans o_5.symm
theorem jsr:∀i,i≤p.puts.length→OsV p s heads rooms (zf0 p i)
 |0,_=>jsq h hs hww _ (qao _)
 |i+1,hi=>by
  have ih:=jsr i (by omega)
  have ho:=zjt h i (by omega)
  have hi':i<p.puts.length:=by omega
  have hF:=ho.fire h (List.prefix_refl _)
  have hD:=ho.dueQ h (List.prefix_refl _) hi'
  have va:=zrx (mems:=s.mems) (v0:=v0P p s heads rooms) v0_ok ho.gi hF hD
  rw[jd8 h hs hww ho.pre,yc7 h hs hww ((zfr h _ (qao _)).pre.trans ho.pre) hi']at va
  obtain⟨ha,hb,ht⟩:=zrs h hi' ho
  have hw:=h.qd i hi'
  have vb:=zok h hs hww ha.gi ((ho.tp h).trans ha.pre) hw.1
  rw[hw.2]at vb
  simp only[zf0]
  generalize zf0 p i=o at *
  generalize zdn (mP p) o.gs (zcs p) (nth (ze4 p) i)=a at *
  generalize zci p (zbb p) a.1 (nth p.puts i).da=r at *
  rw[hb.wid,List.append_assoc,List.append_assoc]
  refine OsV.app ho ih (ha.pre.trans (hb.pre.trans ht.pre)) fun k hk=>?_
  simp only[List.length_append,List.length_cons,List.length_nil,ht.wid]at hk
  by_cases e0:k=0
  ·subst e0
   show vl s.mems (v0P p s heads rooms) _ a.2=ouV p s heads rooms ⟨6,i,0⟩
   rw[zb1 v0_ok.l (hb.pre.trans ht.pre) ha.nd,va,o_6]
  ·rw[zw2 (by simp only[List.length_cons,List.length_nil];omega),zw2 (by simp only[List.length_cons,List.length_nil];omega)]
   simp only[List.length_cons,List.length_nil]
   have hk':k - (0+1)<(nth p.puts i).w:=by omega
   have e:=znc (mems:=s.mems) (v0:=v0P p s heads rooms) (q:=1) (st:=fun gs k=>zdn (mP p) gs a.2 (nth r.2 k)) (f:=fun k=>(zd6 p s heads rooms&&zjy p s heads i)&&(evP p s heads (nth p.puts i).da).testBit k) v0_ok hb.gi
    (n:=(nth p.puts i).w) (fun k hk gs' hp hg=>zfy mP2 hg (ha.nd.pre (hb.pre.trans hp)) (hb.at hp hk))
    (fun k hk gs' hp hg=>by rw[zrx v0_ok hg (ha.nd.pre (hb.pre.trans hp)) (hb.at hp hk),zb1 v0_ok.l (hb.pre.trans hp) ha.nd,va,zb1 v0_ok.l hp (hb.nd k hk),vb k hk]) _ hk'
   rw[e,zvb hk',o_7]
   cases zd6 p s heads rooms&&zjy p s heads i<;>simp
theorem jss:∀i,i≤p.mems.length→OsV p s heads rooms (zd4 p i)
 |0,_=>jsr h hs hww _ (qao _)
 |i+1,hi=>by
  have ih:=jss i (by omega)
  have ho:=zgv h i (by omega)
  have hi':i<p.mems.length:=by omega
  have hF:=ho.fire h (List.prefix_refl _)
  have we:=h.me i hi'
  have wa:=h.ma i hi'
  have wd:=h.md i hi'
  have h4:=hww i (by simpa[ctP]using hi')
  rw[zxi hi']at h4
  have la:=zt7 h hs wa
  have le:=zt7 h hs we.1
  rw[we.2]at le
  have ve:=zok h hs hww ho.gi (ho.tp h) we.1
  rw[we.2]at ve
  simp only[zd4]
  generalize zd4 p i=o at *
  generalize he:zci p (zbb p) o.gs (nth p.mems i).en=e
  generalize ha:zdn (mP p) e.1 (zcs p) (nth e.2 0)=a
  generalize hd:zci p (zbb p) a.1 (nth p.mems i).ad=d
  generalize hw:zci p (zbb p) d.1 (nth p.mems i).da=w
  obtain⟨h1,h2,h3,h4'⟩:=zrt h hi' ho he.symm ha.symm hd.symm hw.symm
  rw[he]at ve
  have vd:=zok h hs hww h2.gi ((ho.tp h).trans (h1.pre.trans h2.pre)) wa
  rw[hd]at vd
  have vw:=zok h hs hww h3.gi ((ho.tp h).trans (h1.pre.trans (h2.pre.trans h3.pre))) wd.1
  rw[hw,wd.2]at vw
  have va:=zrx (mems:=s.mems) (v0:=v0P p s heads rooms) v0_ok h1.gi (hF.pre h1.pre) (h1.nd 0 (by decide))
  rw[ha,jd8 h hs hww (ho.pre.trans h1.pre),ve 0 (by decide),jvb le]at va
  rw[h4'.wid,List.append_assoc,List.append_assoc,List.append_assoc,List.append_assoc]
  refine OsV.app ho ih (h1.pre.trans (h2.pre.trans (h3.pre.trans h4'.pre))) fun k hk=>?_
  simp only[List.length_append,List.length_cons,List.length_nil,h4'.wid,ze5]at hk
  by_cases e0:k=0
  ·subst e0
   show vl s.mems (v0P p s heads rooms) _ a.2=ouV p s heads rooms ⟨8,i,0⟩
   rw[zb1 v0_ok.l (h3.pre.trans h4'.pre) h2.nd,va,o_8]
  ·rw[zw2 (l:=[a.2]) (by simp only[List.length_cons,List.length_nil];omega),zw2 (l:=[(⟨8,(i:Int),0⟩:Wire)]) (by simp only[List.length_cons,List.length_nil];omega)]
   simp only[List.length_cons,List.length_nil]
   by_cases e1:k - (0+1)<3
   ·rw[zsl (l:=zhu d.2 (nth p.mems i).words) (by rw[ze5];exact e1),zsl (l:=zcr 9 i 3) (by rw[zb3];exact e1),zvb e1,o_9]
    rw[jr9 e1,h3.wid]
    rw[←yc8 h4 la e1]
    by_cases e2:k - (0+1)<za7 (ctP p) (nth p.mems i).ad∧2^(k - (0+1))<(nth p.mems i).words
    ·rw[if_pos e2,zb1 v0_ok.l h4'.pre (h3.nd _ e2.1),vd _ e2.1];simp[e2]
    ·rw[if_neg e2,zx6 v0_ok];simp[e2]
   ·rw[zw2 (l:=zhu d.2 (nth p.mems i).words) (by rw[ze5];omega),zw2 (l:=zcr 9 i 3) (by rw[zb3];omega),ze5,zb3]
    have hk':k - (0+1) - 3<(nth p.mems i).w:=by omega
    rw[vw _ hk',zvb hk',yld]
theorem jvd:((zd5 p).drive.map fun d=>nth (zwz (zd5 p).gates (zx5 s heads rooms (zh9 p)) s.mems) d.toNat)=(zd5 p).out.map (ouV p s heads rooms):=by
 have hv:=jss h hs hww _ (qao _)
 have ho:=zgv h _ (qao _)
 have hol:(zd5 p).out.length=(zd5 p).drive.length:=ho.ol
 refine List.ext_getElem (by simp[hol]) fun k hk1 hk2=>?_
 have hk:k<(zd5 p).drive.length:=by simpa using hk1
 rw[List.getElem_map,List.getElem_map]
 have:=hv k hk
 rw[←zdt hk,←zdt (show k<(zd5 p).out.length by omega)]
 exact this
end
end
section
def zh4(p:Pr)(s:PSt)(heads:List Head)(rooms:List Bool):Fir:=
 if zd6 p s heads rooms then⟨true,⟨(List.range p.regs.length).map fun i=>((evP p s heads (nth p.regs i).next:Nat):Int),
   (List.range p.mems.length).map fun i=>if evP p s heads (nth p.mems i).en=1 then(nth s.mems i).set (evP p s heads (nth p.mems i).ad % (nth p.mems i).words) ((evP p s heads (nth p.mems i).da:Nat):Int)else nth s.mems i⟩,
  (List.range p.takes.length).map fun i=>zjx p s i,(List.range p.puts.length).map fun i=>if zjy p s heads i then⟨true,((evP p s heads (nth p.puts i).da:Nat):Int)⟩else⟨false,0⟩⟩
 else⟨false,s,List.replicate p.takes.length false,List.replicate p.puts.length ⟨false,0⟩⟩
def zry(out:List Wire)(kind i:Int):List Wire:=out.filter fun w=>zzc w kind i
def orL(f:Wire→Bool)(l:List Wire):Nat:=l.foldl (fun a w=>if f w then a|||2^w.bit.toNat else a) 0
theorem jve{b:Int}(h0:0≤b)(h1:b≤7):jse b=((2^b.toNat:Nat):Int):=by
 rcases(show b=0∨b=1∨b=2∨b=3∨b=4∨b=5∨b=6∨b=7 by omega)with rfl|rfl|rfl|rfl|rfl|rfl|rfl|rfl<;>decide
theorem zxj{out:List Wire}{kind i:Int}{k:Nat}(hk:k<out.length):zry (out.take (k+1)) kind i=zry (out.take k) kind i++if zzc (nth out k) kind i then[nth out k]else[]:=by
 unfold zry
 rw[zd0 hk,List.filter_append]
 congr 1
 by_cases h:zzc (nth out k) kind i<;>simp[h]
theorem jd9{out:List Wire}{f:Wire→Bool}{kind i:Int}:∀{k:Nat},k≤out.length→zog out (out.map f) kind i k=(zry (out.take k) kind i).any f
 |0,_=>by simp[zog,zry]
 |k+1,hk=>by
  rw[zog,jd9 (by omega),zxj (by omega),zfg (by omega),List.any_append]
  congr 1
  by_cases h:zzc (nth out k) kind i<;>simp[h]
theorem yc9{f:Wire→Bool}:∀(l:List Wire) (a:Nat),(∀w∈l,w.bit≤7)→a<2^8→l.foldl (fun a w=>if f w then a|||2^w.bit.toNat else a) a<2^8
 |[],a,_,h=>h
 |w::l,a,hl,h=>by
  rw[List.foldl_cons]
  refine yc9 l _ (fun x hx=>hl x (qbb _ hx)) ?_
  split
  ·have:=hl w (by simp)
   exact Nat.or_lt_two_pow h (Nat.pow_lt_pow_right (by decide) (by omega))
  ·exact h
theorem jny{out:List Wire}{kind i:Int}{w:Wire}{k:Nat}(h:w∈zry (out.take k) kind i):w∈out:=List.mem_of_mem_take (List.mem_filter.1 h).1
theorem zxk{out:List Wire}{f:Wire→Bool}{kind i:Int}(hb:∀w∈out,0≤w.bit∧w.bit≤7):∀{k:Nat},k≤out.length→zen out (out.map f) kind i k=((orL f (zry (out.take k) kind i):Nat):Int)
 |0,_=>by simp[zen,zry,orL]
 |k+1,hk=>by
  have ih:=zxk (f:=f) (kind:=kind) (i:=i) hb (k:=k) (by omega)
  rw[zen,ih,zxj (by omega),zfg (by omega)]
  unfold orL
  rw[List.foldl_append]
  have hw:=hb _ (zcb (show k<out.length by omega))
  have lt:=yc9 (f:=f) (zry (out.take k) kind i) 0 (fun w hw=>(hb w (jny hw)).2) (by decide)
  by_cases h:zzc (nth out k) kind i
  ·by_cases hf:f (nth out k)
   ·simp only[h,hf,Bool.true_and,if_true,List.foldl_cons,List.foldl_nil]
    rw[jve hw.1 hw.2,jsf lt (Nat.pow_lt_pow_right (n:=8) (by decide) (by omega))]
   ·simp[h,hf]
  ·simp[h]
theorem jnz(x i:Nat):x % 2^(i+1)=x % 2^i+2^i*(x.testBit i).toNat:=by
 rw[Nat.pow_succ,Nat.mod_mul,Nat.testBit_eq_decide_div_mod_eq]
 congr 1
 congr 1
 rcases(show x / 2^i % 2=0∨x / 2^i % 2=1 by omega)with e|e<;>rw[e]<;>rfl
theorem zxl{f:Wire→Bool}{kind i:Int}{x:Nat}:∀{w:Nat},(∀k:Nat,k<w→f ⟨kind,i,(k:Int)⟩=x.testBit k)→orL f (zcr kind i w)=x % 2^w
 |0,_=>by simp[orL,zcr,Nat.mod_one]
 |w+1,h=>by
  have ih:=zxl (w:=w) (x:=x) (f:=f) (kind:=kind) (i:=i) (fun k hk=>h k (by omega))
  unfold orL at ih ⊢
  rw[zk3,List.foldl_append,ih,List.foldl_cons,List.foldl_nil,h w (by omega)]
  have e:=jnz x w
  rw[e]
  have hl:=Nat.mod_lt x (Nat.two_pow_pos w)
  simp only[Int.toNat_natCast]
  cases x.testBit w with
  |false=>simp
  |true=>
   simp only[if_true,Bool.toNat_true,Nat.mul_one]
   have:=Nat.two_pow_add_eq_or_of_lt hl 1
   rw[Nat.mul_one]at this
   rw[Nat.or_comm,←this,Nat.add_comm]
theorem zzk{f:Wire→Bool}{kind i:Int}:(zcr kind i 1).any f=f ⟨kind,i,0⟩:=by simp[zcr]
theorem zbe{k' i' kind i:Int}{w:Nat}:(zcr k' i' w).filter (fun x=>zzc x kind i)=if k'=kind∧i'=i then zcr k' i' w else[]:=by
 by_cases h:k'=kind∧i'=i
 ·rw[if_pos h,List.filter_eq_self]
  intro x hx
  obtain⟨k,_,rfl⟩:=qat.1 hx
  simp[zzc,h.1,h.2]
 ·rw[if_neg h,List.filter_eq_nil_iff]
  intro x hx
  obtain⟨k,_,rfl⟩:=qat.1 hx
  simp only[zzc,qar,qax]
  exact h
theorem zim{g:Nat→List Wire}{P:Wire→Bool}{i:Nat}(h:∀j,j≠i→(g j).filter P=[]):∀n,((List.range n).flatMap g).filter P=if i<n then(g i).filter P else[]
 |0=>by simp
 |n+1=>by
  rw[qav,List.flatMap_append,List.filter_append,zim h n]
  simp only[List.flatMap_cons,List.flatMap_nil,List.append_nil]
  by_cases e:n=i
  ·subst e;rw[if_neg (by omega),if_pos (by omega)];simp
  ·rw[h n e,List.append_nil]
   by_cases hl:i<n
   ·rw[if_pos hl,if_pos (by omega)]
   ·rw[if_neg hl,if_neg (by omega)]
theorem zdl{g:Nat→List Wire}{P:Wire→Bool}(h:∀j,(g j).filter P=[])(n:Nat):((List.range n).flatMap g).filter P=[]:=by
 rw[zim (i:=n) (fun j _=>h j) n,if_neg (by omega)]
def oR(p:Pr)(i:Nat):List Wire:=zcr 1 i (nth p.regs i).w
def oT(i:Nat):List Wire:=zcr 5 i 1
def oQ(p:Pr)(i:Nat):List Wire:=zcr 6 i 1++zcr 7 i (nth p.puts i).w
def oM(p:Pr)(i:Nat):List Wire:=zcr 8 i 1++(zcr 9 i 3++zcr 10 i (nth p.mems i).w)
section
variable {p:Pr}
theorem jst(h:PrOk p):∀n,n≤p.regs.length→(zet p n).out=(List.range n).flatMap (oR p)
 |0,_=>rfl
 |n+1,hn=>by
  have hs:=(zrr h (show n<p.regs.length by omega) (zjs h n (by omega))).b.wid
  rw[zet,qav,List.flatMap_append,←jst h n (by omega)]
  simp only[hs]
  simp[oR]
theorem jsu(h:PrOk p):∀n,n≤p.takes.length→(zgm p n).out=(List.range p.regs.length).flatMap (oR p)++(List.range n).flatMap oT
 |0,_=>by rw[zgm,jst h _ (qao _)];simp
 |n+1,hn=>by
  rw[zgm,qav,List.flatMap_append,←List.append_assoc,←jsu h n (by omega)]
  simp[oT,zcr]
theorem jsv(h:PrOk p):∀n,n≤p.puts.length→(zf0 p n).out=((List.range p.regs.length).flatMap (oR p)++(List.range p.takes.length).flatMap oT)++(List.range n).flatMap (oQ p)
 |0,_=>by rw[zf0,jsu h _ (qao _)];simp
 |n+1,hn=>by
  have hs:=(zrs h (show n<p.puts.length by omega) (zjt h n (by omega))).hb.wid
  rw[zf0,qav,List.flatMap_append,←List.append_assoc,←jsv h n (by omega)]
  simp only[hs]
  simp[oQ,zcr]
theorem jsw(h:PrOk p):∀n,n≤p.mems.length→(zd4 p n).out=(((List.range p.regs.length).flatMap (oR p)++(List.range p.takes.length).flatMap oT)++(List.range p.puts.length).flatMap (oQ p))++(List.range n).flatMap (oM p)
 |0,_=>by rw[zd4,jsv h _ (qao _)];simp
 |n+1,hn=>by
  have hs:=(zrt h (show n<p.mems.length by omega) (zgv h n (by omega)) rfl rfl rfl rfl).hw.wid
  rw[zd4,qav,List.flatMap_append,←List.append_assoc,←jsw h n (by omega)]
  simp only[hs]
  simp[oM,zcr]
theorem zrz(h:PrOk p):(zd5 p).out=(((List.range p.regs.length).flatMap (oR p)++(List.range p.takes.length).flatMap oT)++(List.range p.puts.length).flatMap (oQ p))++(List.range p.mems.length).flatMap (oM p):=jsw h _ (qao _)
theorem zni{i j:Nat}(h:j≠i):¬((j:Int)=(i:Int)):=by omega
theorem yda(h:PrOk p){i:Nat}(hi:i<p.regs.length):zry (zd5 p).out 1 i=zcr 1 i (nth p.regs i).w:=by
 unfold zry
 rw[zrz h,List.filter_append,List.filter_append,List.filter_append,zim (i:=i) (fun j hj=>by rw[oR,zbe,if_neg (fun e=>zni hj e.2)]),zdl (fun j=>by rw[oT,zbe];rfl),zdl (fun j=>by rw[oQ,List.filter_append,zbe,zbe];rfl),zdl (fun j=>by rw[oM,List.filter_append,List.filter_append,zbe,zbe,zbe];rfl),if_pos hi,oR,zbe,if_pos ⟨rfl,rfl⟩]
 simp
theorem ydb(h:PrOk p){i:Nat}(hi:i<p.takes.length):zry (zd5 p).out 5 i=zcr 5 i 1:=by
 unfold zry
 rw[zrz h,List.filter_append,List.filter_append,List.filter_append,zdl (g:=oR p) (fun j=>by rw[oR,zbe];rfl),zim (i:=i) (g:=oT) (fun j hj=>by rw[oT,zbe,if_neg (fun e=>zni hj e.2)]),zdl (g:=oQ p) (fun j=>by rw[oQ,List.filter_append,zbe,zbe];rfl),zdl (g:=oM p) (fun j=>by rw[oM,List.filter_append,List.filter_append,zbe,zbe,zbe];rfl),if_pos hi,oT,zbe,if_pos ⟨rfl,rfl⟩]
 simp
theorem jkm(h:PrOk p){i:Nat}(hi:i<p.puts.length):zry (zd5 p).out 6 i=zcr 6 i 1∧zry (zd5 p).out 7 i=zcr 7 i (nth p.puts i).w:=by
 unfold zry
 constructor
 ·rw[zrz h,List.filter_append,List.filter_append,List.filter_append,zdl (g:=oR p) (fun j=>by rw[oR,zbe];rfl),zdl (g:=oT) (fun j=>by rw[oT,zbe];rfl),zim (i:=i) (g:=oQ p) (fun j hj=>by rw[oQ,List.filter_append,zbe,zbe,if_neg (fun e=>zni hj e.2),if_neg (fun e=>zni hj e.2)];rfl),zdl (g:=oM p) (fun j=>by rw[oM,List.filter_append,List.filter_append,zbe,zbe,zbe];rfl),if_pos hi,oQ,List.filter_append,zbe,zbe,if_pos ⟨rfl,rfl⟩,if_neg (fun e=>absurd e.1 (by decide))]
  simp
 ·rw[zrz h,List.filter_append,List.filter_append,List.filter_append,zdl (g:=oR p) (fun j=>by rw[oR,zbe];rfl),zdl (g:=oT) (fun j=>by rw[oT,zbe];rfl),zim (i:=i) (g:=oQ p) (fun j hj=>by rw[oQ,List.filter_append,zbe,zbe,if_neg (fun e=>zni hj e.2),if_neg (fun e=>zni hj e.2)];rfl),zdl (g:=oM p) (fun j=>by rw[oM,List.filter_append,List.filter_append,zbe,zbe,zbe];rfl),if_pos hi,oQ,List.filter_append,zbe,zbe,if_neg (fun e=>absurd e.1 (by decide)),if_pos ⟨rfl,rfl⟩]
  simp
theorem jkn(h:PrOk p){i:Nat}(hi:i<p.mems.length):zry (zd5 p).out 8 i=zcr 8 i 1∧zry (zd5 p).out 9 i=zcr 9 i 3∧zry (zd5 p).out 10 i=zcr 10 i (nth p.mems i).w:=by
 have key:∀kind:Int,kind≠1→kind≠5→kind≠6→kind≠7→zry (zd5 p).out kind i=(oM p i).filter (fun w=>zzc w kind i):=fun kind n1 n5 n6 n7=>by
  unfold zry
  rw[zrz h,List.filter_append,List.filter_append,List.filter_append,zdl (g:=oR p) (fun j=>by rw[oR,zbe,if_neg (fun e=>n1 e.1.symm)]),zdl (g:=oT) (fun j=>by rw[oT,zbe,if_neg (fun e=>n5 e.1.symm)]),zdl (g:=oQ p) (fun j=>by rw[oQ,List.filter_append,zbe,zbe,if_neg (fun e=>n6 e.1.symm),if_neg (fun e=>n7 e.1.symm)];rfl),
   zim (i:=i) (g:=oM p) (fun j hj=>by rw[oM,List.filter_append,List.filter_append,zbe,zbe,zbe,if_neg (fun e=>zni hj e.2),if_neg (fun e=>zni hj e.2),if_neg (fun e=>zni hj e.2)];rfl),if_pos hi]
  simp
 refine⟨?_,?_,?_⟩
 ·rw[key 8 (by decide) (by decide) (by decide) (by decide),oM,List.filter_append,List.filter_append,zbe,zbe,zbe,if_pos ⟨rfl,rfl⟩,if_neg (fun e=>absurd e.1 (by decide)),if_neg (fun e=>absurd e.1 (by decide))];simp
 ·rw[key 9 (by decide) (by decide) (by decide) (by decide),oM,List.filter_append,List.filter_append,zbe,zbe,zbe,if_neg (fun e=>absurd e.1 (by decide)),if_pos ⟨rfl,rfl⟩,if_neg (fun e=>absurd e.1 (by decide))];simp
 ·rw[key 10 (by decide) (by decide) (by decide) (by decide),oM,List.filter_append,List.filter_append,zbe,zbe,zbe,if_neg (fun e=>absurd e.1 (by decide)),if_neg (fun e=>absurd e.1 (by decide)),if_pos ⟨rfl,rfl⟩];simp
end
def unf(f:Fir):Fir:=⟨false,f.st,f.pops,f.puts⟩
section
variable {p:Pr} {s:PSt} {heads:List Head} {rooms:List Bool}
theorem zt8{α:Type}[Inhabited α]{l:List α}{n:Nat}(hl:l.length=n){g:Nat→α}(h:∀i,i<n→g i=nth l i):(List.range n).map g=l:=by
 subst hl
 refine List.ext_getElem (by simp) fun k h1 h2=>?_
 rw[List.getElem_map,List.getElem_range,h k h2,zdt h2]
theorem zk5{β:Type}{n:Nat}{f g:Nat→β}(h:∀i,i<n→f i=g i):(List.range n).map f=(List.range n).map g:=List.map_congr_left fun i hi=>h i (qaq.1 hi)
theorem zt9{β:Type}{n:Nat}{g:Nat→β}{b:β}(h:∀i,i<n→g i=b):(List.range n).map g=List.replicate n b:=by
 rw[List.eq_replicate_iff]
 exact⟨by simp,fun x hx=>by obtain⟨i,hi,rfl⟩:=qat.1 hx;exact h i (qaq.1 hi)⟩
variable (h:PrOk p) (hs:StP p s heads rooms)
include h hs
theorem ydc{i:Nat}(hi:i<p.regs.length):(if zd6 p s heads rooms then evP p s heads (nth p.regs i).next else(nth s.regs i).toNat)<2^(nth p.regs i).w:=by
 have hw:=h.rn i hi
 have l1:=zt7 h hs hw.1
 rw[hw.2]at l1
 have:=hs.rv i hi
 have e:((2^(nth p.regs i).w:Nat):Int)=(2:Int)^(nth p.regs i).w:=by simp
 split
 ·exact l1
 ·omega
theorem yiz{i:Nat}(hi:i<p.puts.length):(if zd6 p s heads rooms&&zjy p s heads i then evP p s heads (nth p.puts i).da else 0)<2^(nth p.puts i).w:=by
 have hw:=h.qd i hi
 have l1:=zt7 h hs hw.1
 rw[hw.2]at l1
 split
 ·exact l1
 ·exact Nat.two_pow_pos _
variable (hww:∀k,k<(ctP p).mems.length→(nth (ctP p).mems k).1=1∨(nth (ctP p).mems k).1=2∨(nth (ctP p).mems k).1=4∨(nth (ctP p).mems k).1=8)
include hww
theorem jn0{i:Nat}(hi:i<p.mems.length):evP p s heads (nth p.mems i).ad % (nth p.mems i).words<(nth p.mems i).words∧(nth p.mems i).words≤2^3∧evP p s heads (nth p.mems i).da<2^(nth p.mems i).w:=by
 have h4:=hww i (by simpa[ctP]using hi)
 rw[zxi hi]at h4
 simp only at h4
 have hw:=h.md i hi
 have l1:=zt7 h hs hw.1
 rw[hw.2]at l1
 exact⟨Nat.mod_lt _ (by omega),by omega,l1⟩
theorem jn1(hb:∀w∈(zd5 p).out,0≤w.bit∧w.bit≤7):efF (zd5 p).out s ((zd5 p).out.map (ouV p s heads rooms)) heads.length rooms.length=unf (zh4 p s heads rooms):=by
 have hword:∀kind i,zen (zd5 p).out ((zd5 p).out.map (ouV p s heads rooms)) kind i (zd5 p).out.length=((orL (ouV p s heads rooms) (zry (zd5 p).out kind i):Nat):Int):=fun kind i=>by
  rw[zxk hb (qao _),List.take_length]
 have hset:∀kind i,zog (zd5 p).out ((zd5 p).out.map (ouV p s heads rooms)) kind i (zd5 p).out.length=(zry (zd5 p).out kind i).any (ouV p s heads rooms):=fun kind i=>by
  rw[jd9 (qao _),List.take_length]
 have hreg:∀i,i<p.regs.length→zen (zd5 p).out ((zd5 p).out.map (ouV p s heads rooms)) 1 i (zd5 p).out.length=(((if zd6 p s heads rooms then evP p s heads (nth p.regs i).next else(nth s.regs i).toNat):Nat):Int):=fun i hi=>by
  rw[hword,yda h hi,zxl (fun k hk=>o_1),Nat.mod_eq_of_lt (ydc h hs hi)]
 have hpop:∀i,i<p.takes.length→zog (zd5 p).out ((zd5 p).out.map (ouV p s heads rooms)) 5 i (zd5 p).out.length=(zd6 p s heads rooms&&zjx p s i):=fun i hi=>by
  rw[hset,ydb h hi,zzk,o_5]
 have hpush:∀i,i<p.puts.length→zog (zd5 p).out ((zd5 p).out.map (ouV p s heads rooms)) 6 i (zd5 p).out.length=(zd6 p s heads rooms&&zjy p s heads i):=fun i hi=>by
  rw[hset,(jkm h hi).1,zzk,o_6]
 have hpw:∀i,i<p.puts.length→zen (zd5 p).out ((zd5 p).out.map (ouV p s heads rooms)) 7 i (zd5 p).out.length=(((if zd6 p s heads rooms&&zjy p s heads i then evP p s heads (nth p.puts i).da else 0):Nat):Int):=fun i hi=>by
  rw[hword,(jkm h hi).2,zxl (fun k hk=>o_7),Nat.mod_eq_of_lt (yiz h hs hi)]
 have hen:∀i,i<p.mems.length→zog (zd5 p).out ((zd5 p).out.map (ouV p s heads rooms)) 8 i (zd5 p).out.length=(zd6 p s heads rooms&&decide (evP p s heads (nth p.mems i).en=1)):=fun i hi=>by
  rw[hset,(jkn h hi).1,zzk,o_8]
 have had:∀i,i<p.mems.length→zen (zd5 p).out ((zd5 p).out.map (ouV p s heads rooms)) 9 i (zd5 p).out.length=((evP p s heads (nth p.mems i).ad % (nth p.mems i).words:Nat):Int):=fun i hi=>by
  have hx:=jn0 h hs hww hi
  rw[hword,(jkn h hi).2.1,zxl (fun k hk=>o_9),Nat.mod_eq_of_lt (show _<2^3 by omega)]
 have hda:∀i,i<p.mems.length→zen (zd5 p).out ((zd5 p).out.map (ouV p s heads rooms)) 10 i (zd5 p).out.length=((evP p s heads (nth p.mems i).da:Nat):Int):=fun i hi=>by
  have hx:=jn0 h hs hww hi
  rw[hword,(jkn h hi).2.2,zxl (fun k hk=>yld),Nat.mod_eq_of_lt hx.2.2]
 unfold efF znf zoh zva zxa zh4 unf
 rw[hs.rl,hs.ml,hs.hl,hs.ol]
 by_cases hf:zd6 p s heads rooms=true
 ·rw[if_pos hf]
  simp only[hf,if_true,Bool.true_and]at hreg hpop hpush hpw hen
  simp only
  congr 1
  ·congr 1
   ·exact zk5 hreg
   ·refine zk5 fun i hi=>?_
    have hx:=jn0 h hs hww hi
    unfold jge
    rw[hen i hi,had i hi,hda i hi,hs.mw i hi,decide_eq_true (show((evP p s heads (nth p.mems i).ad % (nth p.mems i).words:Nat):Int)<((nth p.mems i).words:Int) by omega),Bool.and_true]
    simp only[qax,Int.toNat_natCast]
  ·exact zk5 hpop
  ·refine zk5 fun i hi=>?_
   unfold jsh
   rw[hpush i hi,hpw i hi]
   cases zjy p s heads i<;>rfl
 ·rw[if_neg hf]
  have hf':zd6 p s heads rooms=false:=by simpa using hf
  simp only[hf',Bool.false_and]at hreg hpop hpush hpw hen
  simp only
  congr 1
  ·have e1:(List.range p.regs.length).map (fun(i:Nat)=>zen (zd5 p).out ((zd5 p).out.map (ouV p s heads rooms)) 1 i (zd5 p).out.length)=s.regs:=zt8 hs.rl fun i hi=>by
    rw[hreg i hi]
    have:=(hs.rv i hi).1
    simp;omega
   have e2:(List.range p.mems.length).map (fun i=>jge (zd5 p).out ((zd5 p).out.map (ouV p s heads rooms)) i (nth s.mems i))=s.mems:=zt8 hs.ml fun i hi=>by
    unfold jge
    rw[hen i hi,Bool.false_and,if_neg (by decide)]
   rw[e1,e2]
  ·exact zt9 hpop
  ·refine zt9 fun i hi=>?_
   unfold jsh
   rw[hpush i hi];rfl
end
set_option maxRecDepth 100000
set_option maxHeartbeats 4000000
end
def jl3(n:Net)(inp:List Bool)(mems:List (List Int)):List Bool:=n.drive.map fun d=>nth (zwz n.gates inp mems) d.toNat
theorem zf2(g:List Gate)(inp:List Bool)(mems:List (List Int)):(zwz g inp mems).length=2+inp.length+g.length:=by simp[zwz,zcd];omega
theorem zc6(n:Net)(inp:List Bool)(mems:List (List Int)):(jl3 n inp mems).length=n.drive.length:=by simp[jl3]
theorem zvc{p q:Prop}(hq:q)(h:p=q:=by
 conv=>lhs;simp -dsimp -implicitDefEqProofs (disch:=first|assumption|omega|(simp only[r_z,zab,zac,zf2,zc6]<;>omega)|decide) only[r_r,↓reduceIte,Nat.reduceEqDiff,Nat.reduceAdd,D.fix,Int.reduceToNat,Nat.reduceMul,Nat.reduceBNe,Nat.reduceBEq,zdj,zdu,zbf,zbj,qae]):p:=h.mpr hq
theorem yle{m:List Nat}{τ τ':Fr}{H H':zad}(h2:H=H')(h:zgk τ τ':=by
 repeat (first|exact zaq _|refine zak ?_ (by first|rfl|(simp[r_f,zab,zac,zf2,zc6];done)|simp[r_f,zab,zac,zf2,zc6, *]))):Rt m τ H τ' H':=Rt.end h h2
theorem jko(n:Net)(inp:List Bool)(mems:List (List Int))(hg:zoc (2+inp.length) n.gates)(h1:inp.length≤1000000)(h2:n.gates.length≤1000000)(hd:zu6 (2+inp.length+n.gates.length) n.drive)(h3:n.drive.length≤1000000):za2 prog 136 [zdj n,boolsD inp,intssD mems] (.d (boolsD (jl3 n inp mems))):=by
 refine zax (fn:=f136) (by kernel_rfl) func136 rfl (qaf rfl) fun c hc hp=>?_
 refine za0 (τ':=frL [(0,.d (zdj n)),(1,.d (boolsD inp)),(2,.d (intssD mems))]) (by repeat (first|exact zaq _|refine zak ?_ (by first|rfl|(simp[r_f,zab,zac,zf2,zc6];done)|simp[r_f,zab,zac,zf2,zc6, *]))) ?_
 refine szq (zvc ·) ?_
 refine zaf hp zah hc rfl fun K2 hK2=>?_
 refine zvc ?_
 refine zbl (ya8 n _ _ hg h1 h2) rfl ?_
 refine zvc ?_
 refine hK2 _ _ ?_
 refine szq (zvc ·) ?_
 refine zaa fun K4 hK4=>?_
 refine szq (zvc ·) ?_
 refine zag ?_
 refine zao hp (fun τ' H' mm=>∃k,(k≤n.drive.length)∧mm=n.drive.length - k∧H'=[.cells (avs (((jl3 n inp mems).take k++List.replicate (n.drive.length - k) false).map oD))]∧τ'=frL [(7,.d (boolsD (zwz n.gates inp mems))),(8,.os 1 0 0 n.drive.length),(20,.d (intsD n.drive)),(21,.d (iD n.drive.length)),(22,.d (iD k))]) (n.drive.length) ?_ ⟨0,qap _,rfl,rfl,rfl⟩ ?_
 ·refine Rt.trans (Rt.gc (keep:=[1]) (by decide) (by decide) (by simp[fzH,gcH])) ?_
  refine yle ?_
  simp only[r_g,Nat.reduceAdd,↓reduceIte,Nat.reduceEqDiff,zdj,zdu,zbf,zbj];simp[oD]
 rintro τ' H' mm ⟨k,hk,rfl,rfl,rfl⟩
 refine szq (zvc ·) ?_
 refine zaa fun K7 hK7=>?_
 refine zan rfl (fun ht=>?_) (fun ht=>?_)
 ·have hlt:k<n.drive.length:=by simp at ht;omega
  obtain⟨d0,d1⟩:=hd k hlt
  have hlo:k<(jl3 n inp mems).length:=by rw[zc6];exact hlt
  have hev:=zf2 n.gates inp mems
  have hn:nth (zwz n.gates inp mems) (nth n.drive k).toNat=nth (jl3 n inp mems) k:=by unfold jl3;rw[zfg hlt]
  refine zai (hK7 _ _ ?_)
  refine zaa fun K8 hK8=>?_
  refine zag ?_
  refine szq (zvc ·) ?_
  refine szs (zvc ·) (hK8 _ _ ?_)
  refine za1 hp zah hc rfl fun K11 hK11=>?_
  refine zvc ?_
  refine hK11 _ _ ⟨_,_,_,?_,⟨k+1,by omega,rfl,rfl,rfl⟩,?_⟩
  ·first|omega|(simp only[List.length_cons];omega)|(dsimp only;omega)
  ·refine Rt.trans (Rt.gc (keep:=[0]) (by decide) (by decide) (by simp[fzH,gcH])) ?_
   refine yle ?_
   simp only[r_g,Nat.reduceAdd,↓reduceIte,Nat.reduceEqDiff,zdj,zdu,zbf,zbj];have:=jin hlo false;rw[zc6]at this;rw[hn,←this]
 ·have hge:k=n.drive.length:=by simp at ht;omega
  refine zau (hK4 _ _ ?_)
  refine zaf hp zah hc rfl fun K12 hK12=>?_
  simp -dsimp -implicitDefEqProofs (disch:=first|assumption|omega|(simp only[r_z,zab,zac,zf2,zc6]<;>omega)|decide) only[r_r,↓reduceIte,Nat.reduceEqDiff,Nat.reduceAdd,D.fix,Int.reduceToNat,Nat.reduceMul,Nat.reduceBNe,Nat.reduceBEq,zdj,zdu,zbf,zbj]
  refine hK12 _ _ ?_
  refine zaj ?_
  show closeA _ _=_
  simp (disch:=first|assumption|omega|(simp only[r_z,zab,zac,zf2,zc6]<;>omega)|decide) only[r_c,Nat.reduceAdd,D.fix,↓reduceIte,Nat.reduceEqDiff,zdj,zdu,zbf,zbj]
  rw[hge,Nat.sub_self,qaw (by rw[zc6];exact qao _)];simp[zc6]
def jn2(n:Net)(s:PSt)(heads:List Head)(rooms:List Bool):Fir:=efF n.out s (jl3 n (zx5 s heads rooms n.ins) s.mems) heads.length rooms.length
structure NetW (n:Net):Prop where
 il:n.ins.length≤1000
 gl:n.gates.length≤1000
 ol:n.out.length≤1000
 od:n.out.length=n.drive.length
 g:zoc (2+n.ins.length) n.gates
 d:zu6 (2+n.ins.length+n.gates.length) n.drive
 wi:∀w∈n.ins,WireIn w
 wo:∀w∈n.out,WireOut w
structure StSm (s:PSt) (heads:List Head) (rooms:List Bool):Prop where
 r:s.regs.length≤1000
 m:s.mems.length≤1000
 w:∀l∈s.mems,l.length≤1000
 h:heads.length≤1000
 q:rooms.length≤1000
theorem jfr{p q:Prop}(hq:q)(h:p=q:=by
 conv=>lhs;simp -dsimp -implicitDefEqProofs (disch:=first|assumption|omega|(simp only[r_z,zac,zab,zat,zb7,zc6]<;>omega)|decide) only[r_r,↓reduceIte,Nat.reduceEqDiff,Nat.reduceAdd,D.fix,Int.reduceToNat,Nat.reduceMul,Nat.reduceBNe,Nat.reduceBEq,zdj,zdu,zbf,zbj,zc5,za9,zgz,qae]):p:=h.mpr hq
theorem ydd(n:Net)(s:PSt)(heads:List Head)(rooms:List Bool)(hn:NetW n)(hs:StSm s heads rooms):za2 prog 97 [zdj n,.agg (zc5 s),za9 heads,boolsD rooms] (.d (.agg (zgz (jn2 n s heads rooms)))):=by
 have:=hn.il;have:=hn.gl;have:=hn.ol;have:=hn.od
 have:=hs.r;have:=hs.m;have:=hs.h;have:=hs.q
 have hg:zoc (2+(zx5 s heads rooms n.ins).length) n.gates:=by rw[zb7];exact hn.g
 have hd:zu6 (2+(zx5 s heads rooms n.ins).length+n.gates.length) n.drive:=by rw[zb7];exact hn.d
 have m3:(1000:Nat)≤maxLen:=by unfold maxLen;decide
 refine zax (fn:=f97) (by kernel_rfl) func97 rfl (qaf rfl) fun c hc hp=>?_
 refine za0 (τ':=frL [(0,.d (zdj n)),(1,.d (.agg (zc5 s))),(2,.d (za9 heads)),(3,.d (boolsD rooms))]) (by repeat (first|exact zaq _|refine zak ?_ (by first|rfl|(simp[r_f,zac,zab,zat,zb7,zc6];done)|simp[r_f,zac,zab,zat,zb7,zc6, *]))) ?_
 refine szq (jfr ·) ?_
 refine zay zah hc mixed rfl (q:=0) (by kernel_rfl) (by kernel_rfl) fun K2 hK2=>?_
 refine jfr ?_
 refine zbl (jm8 n s heads rooms (by omega) hn.wi (by omega) (by omega) (by omega)) rfl ?_
 refine jfr ?_
 refine zbl (jko n (zx5 s heads rooms n.ins) s.mems hg (by rw[zb7];omega) (by omega) hd (by omega)) rfl ?_
 refine jfr ?_
 refine hK2 _ _ ?_
 refine zaf hp zah hc rfl fun K3 hK3=>?_
 refine jfr ?_
 refine zbl (jnm n s (jl3 n (zx5 s heads rooms n.ins) s.mems) heads.length rooms.length (by omega) (by rw[zc6];omega) hn.wo (by omega) (by omega) (fun l hl=>by have:=hs.w l hl;omega) (by omega) (by omega) (by omega) (by omega)) rfl ?_
 refine jfr ?_
 refine hK3 _ _ ?_
 refine zaj ?_
 try dsimp only[zcg,za5]
 refine za6 rfl ?_
 simp -dsimp -implicitDefEqProofs (disch:=first|assumption|omega|(simp only[r_z,zac,zab,zat,zb7,zc6]<;>omega)|decide) only[r_r,↓reduceIte,Nat.reduceEqDiff,Nat.reduceAdd,D.fix,Int.reduceToNat,Nat.reduceMul,Nat.reduceBNe,Nat.reduceBEq,zdj,zdu,zbf,zbj,zc5,za9,zgz,zn8,zrq]
 show closeA _ _=_
 simp (disch:=first|assumption|omega|(simp only[r_z,zac,zab,zat,zb7,zc6]<;>omega)|decide) only[r_c,Nat.reduceAdd,D.fix,↓reduceIte,Nat.reduceEqDiff,zdj,zdu,zbf,zbj,zc5,za9,zgz]
 rfl
theorem jvg{p q:Prop}(hq:q)(h:p=q:=by
 conv=>lhs;simp -dsimp -implicitDefEqProofs (disch:=first|assumption|omega|(simp only[r_z]<;>omega)|decide) only[r_r,↓reduceIte,Nat.reduceEqDiff,Nat.reduceAdd,D.fix,Int.reduceToNat,Nat.reduceMul,Nat.reduceBNe,Nat.reduceBEq,zdj,zdu,zbf,zbj,zc5,za9,zgz,qae]):p:=h.mpr hq
theorem jvh(n:Net)(s:PSt)(heads:List Head)(rooms:List Bool)(hn:NetW n)(hs:StSm s heads rooms):za2 prog 31 [zdj n,.agg (zc5 s),.agg [za9 heads,boolsD rooms]] (.d (.agg (zgz (jn2 n s heads rooms)))):=by
 refine zax (fn:=f31) (by kernel_rfl) func31 rfl (qaf rfl) fun c hc hp=>?_
 refine za0 (τ':=frL [(0,.d (zdj n)),(1,.d (.agg (zc5 s))),(2,.d (.agg [za9 heads,boolsD rooms]))]) (by repeat (first|exact zaq _|refine zak ?_ (by first|rfl|(simp[r_f];done)|simp[r_f, *]))) ?_
 refine szq (jvg ·) ?_
 refine zaf hp zah hc rfl fun K2 hK2=>?_
 refine jvg ?_
 refine zbl (ydd n s heads rooms hn hs) rfl ?_
 refine jvg ?_
 refine hK2 _ _ ?_
 refine zaj ?_
 try dsimp only[zcg,za5]
 refine za6 rfl ?_
 simp -dsimp -implicitDefEqProofs (disch:=first|assumption|omega|(simp only[r_z]<;>omega)|decide) only[r_r,↓reduceIte,Nat.reduceEqDiff,Nat.reduceAdd,D.fix,Int.reduceToNat,Nat.reduceMul,Nat.reduceBNe,Nat.reduceBEq,zdj,zdu,zbf,zbj,zc5,za9,zgz,zn8,zrq]
 show closeA _ _=_
 simp (disch:=first|assumption|omega|(simp only[r_z]<;>omega)|decide) only[r_c,Nat.reduceAdd,D.fix,↓reduceIte,Nat.reduceEqDiff,zdj,zdu,zbf,zbj,zc5,za9,zgz]
theorem ynb:(type_of% @zll):=@zll
theorem ync:(type_of% @ztu):=@ztu
theorem ynd:(type_of% @ztu):=@ztu
theorem yne:(type_of% @ztu):=@ztu
theorem ynf:(type_of% @zdc):=@zdc
def jl4(l:List Int)(k:Nat):List Int:=[if 0<k then nth l 0 else 0,if 1<k then nth l 1 else 0,if 2<k then nth l 2 else 0]
theorem zpb{l:List Int}{w k:Nat}(hk:k≤3)(h:∀j,j<k→j<l.length∧2^j<w)(he:¬(k<3∧k<l.length∧2^k<w)):jl4 l k=zhu l w:=by
 have hn:∀j,k≤j→j<3→¬(j<l.length∧2^j<w):=fun j h1 h2 h3=>he ⟨by omega,by omega,by
  have:=qba (show 0<2 by decide) h1
  omega⟩
 have key:∀j,j<3→(if j<k then nth l j else 0)=(if j<l.length∧2^j<w then nth l j else 0):=fun j hj=>by
  by_cases h1:j<k
  ·rw[if_pos h1,if_pos (h j h1)]
  ·rw[if_neg h1,if_neg (hn j (by omega) hj)]
 show[_,_,_]=[_,_,_]
 rw[key 0 (by decide),key 1 (by decide),key 2 (by decide)]
theorem zfs{l:List Int}{k:Nat}:(jl4 l k).length=3:=rfl
theorem yng:(type_of% @jcz):=@jcz
def zbd:Ex→List Ex
  | .con _ _=>[]
  | .reg _=>[]
  | .dat _=>[]
  | .not a=>[a]
  | .two _ a b=>[a,b]
  | .add a b=>[a,b]
  | .sub a b=>[a,b]
  | .eq a b=>[a,b]
  | .lt a b=>[a,b]
  | .mux a b c=>[a,b,c]
  | .cat a b=>[a,b]
  | .slc _ _ a=>[a]
  | .ext _ a=>[a]
  | .rd _ a=>[a]
def zcz:Ex→Int
  | .con _ _=>1
  | .reg _=>16
  | .dat _=>18
  | .not _=>2
  | .two o _ _=>o
  | .add _ _=>6
  | .sub _ _=>7
  | .eq _ _=>8
  | .lt _ _=>9
  | .mux _ _ _=>10
  | .cat _ _=>11
  | .slc _ _ _=>12
  | .ext _ _=>13
  | .rd _ _=>17
def kEx:Ex→Int
  | .con v _=>v
  | .reg i=>i
  | .dat i=>i
  | .slc k _ _=>k
  | .rd k _=>k
  |_=>0
def wEx:Ex→Int
  | .con _ w=>w
  | .slc _ w _=>w
  | .ext w _=>w
  |_=>0
def exS(e:Ex):List D:=exR (zcz e) (kEx e) (wEx e) ((zbd e).flatMap exC) (zbd e).length
theorem zeo(e:Ex):exC e=exS e:=by
  cases e<;>simp[exC,zbd,zcz,kEx,wEx,exS]
theorem zcc{c:Ct}{q:Bool}{e:Ex}(h:WT c q e):∀k,k<(zbd e).length→WT c q (nth (zbd e) k):=by
  intro k hk
  cases e with
  |con v w=>simp[zbd]at hk
  |reg i=>simp[zbd]at hk
  |dat i=>simp[zbd]at hk
  | not a => obtain rfl : k = 0 := by simpa [zbd] using hk
             exact h
  | slc i w a => obtain rfl : k = 0 := by simpa [zbd] using hk
                 exact h.1
  | ext w a => obtain rfl : k = 0 := by simpa [zbd] using hk
               exact h.1
  | rd i a => obtain rfl : k = 0 := by simpa [zbd] using hk
              exact h.1
  |mux a b d=>
    rcases(show k=0∨k=1∨k=2 by simp[zbd]at hk;omega)with rfl|rfl|rfl
    · exact h.1
    · exact h.2.1
    · exact h.2.2.1
  |two o a b=>
    rcases(show k=0∨k=1 by simp[zbd]at hk;omega)with rfl|rfl
    · exact h.2.1
    · exact h.2.2.1
  |_ a b=>
    rcases(show k=0∨k=1 by simp[zbd]at hk;omega)with rfl|rfl
    · exact h.1
    · exact h.2.1
def znj(c:Ct)(l:List Ex):Nat→Nat
  |0=>0
  |k+1=>znj c l k+za8 c (nth l k)
theorem jea{c:Ct}{l:List Ex}:∀{k n:Nat},k≤n→znj c l k≤znj c l n
  | k, 0, h => by have : k = 0 := by omega
                  subst this;exact qao _
  |k,n+1,h=>by
    by_cases e:k=n+1
    · subst e;exact qao _
    · have:=jea (c:=c) (l:=l) (show k≤n by omega)
      rw[znj];omega
theorem jn3{c:Ct}{e:Ex}:znj c (zbd e) (zbd e).length≤za8 c e:=by
  cases e<;>simp[zbd,znj,za8,nth]<;>omega
def jsx(f:Gs→Ex→Gs × List Int)(gs:Gs)(l:List Ex):Nat→Gs × List (List Int)
  |0=>(gs,[])
  |k+1=>let s:=jsx f gs l k;let r:=f s.1 (nth l k);(r.1,s.2++[r.2])
structure ArgOk (c:Ct) (m:Nat) (gs:Gs) (l:List Ex) (k:Nat) (s:Gs × List (List Int)):Prop where
  pre:gs<+:s.1
  gi:GI m s.1
  len:s.1.length≤gs.length+znj c l k
  ln:s.2.length=k
  wid:∀j,j<k→(nth s.2 j).length=za7 c (nth l j)
  nd:∀j,j<k→∀i,i<za7 c (nth l j)→NdB m s.1 (nth (nth s.2 j) i)
theorem jsy{c:Ct}{q:Bool}{inp:Int→Nat→Nat→Int}{m:Nat}{data:List (List Int)}{gs:Gs}{l:List Ex}(h2:2≤m)(hc:CtOk c)(hi:InOk c inp m)(hg:GI m gs)(hd:DaOk c q m gs data)(hw:∀k,k<l.length→WT c q (nth l k)):
    ∀k,k≤l.length→ArgOk c m gs l k (jsx (zbh c inp m data) gs l k)
  |0,_=>⟨List.prefix_refl _,hg,by simp[jsx],rfl,fun j hj=>by omega,fun j hj=>by omega⟩
  |k+1,hk=>by
    have ih:=jsy h2 hc hi hg hd hw k (by omega)
    rw[jsx]
    generalize jsx (zbh c inp m data) gs l k=s at *
    have hb:=zc9 (q:=q) h2 hc hi (nth l k) ih.gi (hd.pre ih.pre) (hw k (by omega))
    refine⟨ih.pre.trans hb.pre,hb.gi,?_,by simp[ih.ln],fun j hj=>?_,fun j hj i hi=>?_⟩
    · have h1:=ih.len;have h3:=hb.len
      rw[znj];simp only;omega
    · rcases zeg (x:=(zbh c inp m data s.1 (nth l k)).2) ih.ln hj with⟨hl,e⟩|⟨hl,e⟩
      · simp only;rw[e];exact ih.wid j hl
      · simp only;rw[e,hl];exact hb.wid
    · rcases zeg (x:=(zbh c inp m data s.1 (nth l k)).2) ih.ln hj with⟨hl,e⟩|⟨hl,e⟩
      · simp only;rw[e];exact(ih.nd j hl i hi).pre hb.pre
      · simp only;rw[e];subst hl;exact hb.nd i hi
theorem zdd{c:Ct}{q:Bool}{e:Ex}(h:WT c q e):(∃v w,e= .con v w)∨(∃i,e= .reg i)∨(∃i,e= .dat i)∨(∃a,e= .not a)∨(∃a b,e= .two 3 a b)∨(∃a b,e= .two 4 a b)∨(∃a b,e= .two 5 a b)∨(∃a b,e= .add a b)∨(∃a b,e= .sub a b)∨(∃a b,e= .eq a b)∨(∃a b,e= .lt a b)∨(∃a b d,e= .mux a b d)∨(∃a b,e= .cat a b)∨(∃k w a,e= .slc k w a)∨(∃w a,e= .ext w a)∨∃k a,e= .rd k a:=by
  cases e with
  |two o a b=>
    rcases h.1 with rfl|rfl|rfl<;>simp
  |_=>simp
theorem yi0{v k:Nat}(hv:v<2^62)(hk:k<64):zr9 .and .i64 ((v:Int).fdiv (2^min k 64)) 1=((v / 2^k % 2:Nat):Int):=by
  rw[Nat.min_eq_left (by omega)]
  have e2:(v:Int).fdiv (2^k)=((v / 2^k:Nat):Int):=by
    rw[Int.fdiv_eq_ediv_of_nonneg _ (by have:(0:Int)<2^k:=Int.pow_pos (by decide);omega)]
    push_cast;rfl
  rw[e2]
  show IntKind.i64.wrap ((BitVec.ofInt 64 ((v / 2^k:Nat):Int)&&& BitVec.ofInt 64 1).toNat:Int)=_
  have:(BitVec.ofInt 64 ((v / 2^k:Nat):Int)&&& BitVec.ofInt 64 1).toNat=(v / 2^k) % 2:=by
    rw[BitVec.toNat_and]
    have h1:(BitVec.ofInt 64 1).toNat=1:=by decide
    have h2:(BitVec.ofInt 64 ((v / 2^k:Nat):Int)).toNat=v / 2^k:=by
      have hu:v / 2^k≤v:=Nat.div_le_self _ _
      rw[BitVec.toNat_ofInt]
      generalize v / 2^k=u at hu ⊢
      omega
    rw[h1,h2,Nat.and_one_is_mod]
  rw[this]
  exact zre (by omega) (by omega)
theorem zxm{e:Ex}{k:Nat}(hk:k<(zbd e).length):SizeOf.sizeOf (nth (zbd e) k)<SizeOf.sizeOf e:=by
  have hm:=zcb hk
  generalize nth (zbd e) k=x at hm
  cases e<;>simp only[zbd,List.mem_cons,List.not_mem_nil,or_false]at hm<;>(first|(rcases hm with rfl|rfl|rfl)|(rcases hm with rfl|rfl)|(rcases hm with rfl)|cases hm)<;>simp only[Ex.not.sizeOf_spec,Ex.two.sizeOf_spec,Ex.add.sizeOf_spec,Ex.sub.sizeOf_spec,Ex.eq.sizeOf_spec,Ex.lt.sizeOf_spec,Ex.mux.sizeOf_spec,Ex.cat.sizeOf_spec,Ex.slc.sizeOf_spec,Ex.ext.sizeOf_spec,Ex.rd.sizeOf_spec]<;>omega
theorem yg1{l:List PMem}{k:Nat}(h:k<l.length):(l.flatMap pmC)[k*27+1]? =some (iD (nth l k).w):=(zdk (j:=1) zsa h (by omega)).trans rfl
theorem yi1{l:List PMem}{k:Nat}(h:k<l.length):(l.flatMap pmC)[k*27+2]? =some (iD (nth l k).words):=(zdk (j:=2) zsa h (by omega)).trans rfl
theorem yde{l:List PReg}{k:Nat}(h:k<l.length):(l.flatMap prC)[k*13+1]? =some (iD (nth l k).w):=(zdk (j:=1) zpz h (by omega)).trans rfl
section
theorem ynh:(type_of% @zi2):=@zi2
section
variable {p:Pr}
end
end
theorem yni:(type_of% @jq1):=@jq1
theorem ynj:(type_of% @zi2):=@zi2
theorem ynk:(type_of% @jcz):=@jcz
theorem ynl:(type_of% @zi2):=@zi2
section
section
variable {p:Pr}
theorem ydf(h:Proc p):∀i,i≤p.regs.length→(zet p i).out.length≤3*i
 |0,_=>by simp[zet]
 |i+1,hi=>by
  have ih:=ydf h i (by omega)
  have hs:=(zrr h.ok (show i<p.regs.length by omega) (zjs h.ok i (by omega))).b.wid
  have:=(h.rw i (by omega)).2
  rw[zet];simp only[List.length_append,zb3,hs];omega
theorem ydg(h:Proc p):∀i,i≤p.takes.length→(zgm p i).out.length≤9+i
 |0,_=>by have:=ydf h _ (qao _);have:=h.r3;rw[zgm];omega
 |i+1,hi=>by
  have ih:=ydg h i (by omega)
  rw[zgm];simp only[List.length_append,List.length_cons,List.length_nil];omega
theorem ydh(h:Proc p):∀i,i≤p.puts.length→(zf0 p i).out.length≤11+3*i
 |0,_=>by have:=ydg h _ (qao _);have:=h.t2;rw[zf0];omega
 |i+1,hi=>by
  have ih:=ydh h i (by omega)
  have hs:=(zrs h.ok (show i<p.puts.length by omega) (zjt h.ok i (by omega))).hb.wid
  have:=(h.qw i (by omega)).2
  rw[zf0];simp only[List.length_append,List.length_cons,List.length_nil,zb3,hs];omega
theorem ydi(h:Proc p):∀i,i≤p.mems.length→(zd4 p i).out.length≤17+6*i
 |0,_=>by have:=ydh h _ (qao _);have:=h.q2;rw[zd4];omega
 |i+1,hi=>by
  have ih:=ydi h i (by omega)
  have hs:=(zrt h.ok (show i<p.mems.length by omega) (zgv h.ok i (by omega)) rfl rfl rfl rfl).hw.wid
  have:=(h.mw i (by omega)).2.1
  rw[zd4];simp only[List.length_append,List.length_cons,List.length_nil,zb3,hs];omega
theorem zgw{α:Type}{P:α→Prop}{l m:List α}(h:∀x∈l,P x)(h':∀x∈m,P x):∀x∈l++m,P x:=fun x hx=>by
 rcases qas.1 hx with hx|hx
 ·exact h x hx
 ·exact h' x hx
theorem zjz{P:Wire→Prop}{kind i:Int}{w:Nat}(h:∀k,k<w→P ⟨kind,i,(k:Int)⟩):∀x∈zcr kind i w,P x:=fun x hx=>by
 obtain⟨k,hk,rfl⟩:=qat.1 hx
 exact h k (qaq.1 hk)
theorem ylf(h:Proc p):∀i,i≤p.regs.length→∀w∈zns p i,WireIn w
 |0,_=>by intro w hw;simp[zns]at hw
 |i+1,hi=>by
  rw[zns]
  have:=(h.rw i (by omega)).2;have:=h.r3
  exact zgw (ylf h i (by omega)) (zjz fun k hk=>⟨by simp,by simp,by simp,by simp,by simp only;omega,by simp only;omega⟩)
theorem ylg(h:Proc p):∀i,i≤p.takes.length→∀w∈zlg p i,WireIn w
 |0,_=>ylf h _ (qao _)
 |i+1,hi=>by
  rw[zlg]
  have:=(h.tw i (by omega)).2;have:=h.t2
  exact zgw (zgw (ylg h i (by omega)) (zjz fun k hk=>⟨by simp,by simp,by simp,by simp,by simp only;omega,by simp only;omega⟩)) (zjz fun k hk=>⟨by simp,by simp,by simp,by simp,by simp only;omega,by simp only;omega⟩)
theorem ylh(h:Proc p):∀i,i≤p.puts.length→∀w∈zpa p i,WireIn w
 |0,_=>ylg h _ (qao _)
 |i+1,hi=>by
  rw[zpa]
  have:=h.q2
  exact zgw (ylh h i (by omega)) (zjz fun k hk=>⟨by simp,by simp,by simp,by simp,by simp only;omega,by simp only;omega⟩)
theorem jkp{P:Wire→Prop}{x:Wire}(h:P x):∀w∈[x],P w:=fun w hw=>by rw[qau.1 hw];exact h
theorem yli(h:Proc p):∀i,i≤p.regs.length→∀w∈(zet p i).out,WireOut w
 |0,_=>by intro w hw;simp[zet]at hw
 |i+1,hi=>by
  have hs:=(zrr h.ok (show i<p.regs.length by omega) (zjs h.ok i (by omega))).b.wid
  rw[zet];simp only[hs]
  have:=(h.rw i (by omega)).2;have:=h.r3
  exact zgw (yli h i (by omega)) (zjz fun k hk=>⟨by simp,by simp,by simp,by simp only;omega,by simp only;omega⟩)
theorem ylj(h:Proc p):∀i,i≤p.takes.length→∀w∈(zgm p i).out,WireOut w
 |0,_=>yli h _ (qao _)
 |i+1,hi=>by
  rw[zgm];simp only
  have:=h.t2
  exact zgw (ylj h i (by omega)) (jkp ⟨by simp,by simp,by simp,by simp,by simp only;omega⟩)
theorem ylk(h:Proc p):∀i,i≤p.puts.length→∀w∈(zf0 p i).out,WireOut w
 |0,_=>ylj h _ (qao _)
 |i+1,hi=>by
  have hs:=(zrs h.ok (show i<p.puts.length by omega) (zjt h.ok i (by omega))).hb.wid
  rw[zf0];simp only[hs]
  have:=(h.qw i (by omega)).2;have:=h.q2
  exact zgw (zgw (ylk h i (by omega)) (jkp ⟨by simp,by simp,by simp,by simp,by simp only;omega⟩)) (zjz fun k hk=>⟨by simp,by simp,by simp,by simp only;omega,by simp only;omega⟩)
theorem yll(h:Proc p):∀i,i≤p.mems.length→∀w∈(zd4 p i).out,WireOut w
 |0,_=>ylk h _ (qao _)
 |i+1,hi=>by
  have hs:=(zrt h.ok (show i<p.mems.length by omega) (zgv h.ok i (by omega)) rfl rfl rfl rfl).hw.wid
  rw[zd4];simp only[hs]
  have:=(h.mw i (by omega)).2.1;have:=h.m1
  exact zgw (zgw (zgw (yll h i (by omega)) (jkp ⟨by simp,by simp,by simp,by simp,by simp only;omega⟩)) (zjz fun k hk=>⟨by simp,by simp,by simp,by simp only;omega,by simp only;omega⟩)) (zjz fun k hk=>⟨by simp,by simp,by simp,by simp only;omega,by simp only;omega⟩)
theorem jvi(h:Proc p):NetW (zd5 p):=by
 have ho:=zgv h.ok _ (qao _)
 have h1:=ho.len;have h2:=h.cost;have h3:=h.ins
 have h4:=ydi h _ (qao _);have h5:=h.m1
 have hc:cMP p p.mems.length=zoe p:=rfl
 refine⟨by show(zh9 p).length≤_;omega,by show(zd4 p p.mems.length).gs.length≤_;omega,by show(zd4 p p.mems.length).out.length≤_;omega,ho.ol,fun k hk=>?_,?_,ylh h _ (qao _),yll h _ (qao _)⟩
 ·have:=ho.gi.rg k hk
  exact⟨this.o1,this.o2,this.a0,this.a1,this.b0,this.b1,this.c0,this.c1,this.n0,Int.lt_of_lt_of_le this.n1 (by decide)⟩
 ·exact fun k hk=>ho.dn k hk
end
end
section
structure StS (p:Pr) (s:PSt):Prop where
 rl:s.regs.length=p.regs.length
 rv:∀i,i<p.regs.length→0≤nth s.regs i∧nth s.regs i<2^(nth p.regs i).w
 ml:s.mems.length=p.mems.length
 mw:∀i,i<p.mems.length→(nth s.mems i).length=(nth p.mems i).words
 mv:∀i,i<p.mems.length→∀k,k<(nth p.mems i).words→0≤nth (nth s.mems i) k∧nth (nth s.mems i) k<2^(nth p.mems i).w
structure InS (p:Pr) (heads:List Head) (rooms:List Bool):Prop where
 hl:heads.length=p.takes.length
 hv:∀i,i<p.takes.length→0≤(nth heads i).v∧(nth heads i).v<2^(nth p.takes i).w
 ol:rooms.length=p.puts.length
section
variable {p:Pr} {s:PSt} {heads:List Head} {rooms:List Bool}
theorem yi2(hs:StS p s)(hi:InS p heads rooms):StP p s heads rooms:=⟨hs.rl,hs.rv,hs.ml,hs.mw,hs.mv,hi.hl,hi.hv,hi.ol⟩
theorem StP.st(h:StP p s heads rooms):StS p s:=⟨h.rl,h.rv,h.ml,h.mw,h.mv⟩
theorem zzl(hp:Proc p):∀k,k<(ctP p).mems.length→(nth (ctP p).mems k).1=1∨(nth (ctP p).mems k).1=2∨(nth (ctP p).mems k).1=4∨(nth (ctP p).mems k).1=8:=fun k hk=>by
 have hk':k<p.mems.length:=by simpa[ctP]using hk
 rw[zxi hk']
 have:=(hp.mw k hk').2.2
 simp only;omega
theorem zzm{x w:Nat}(h:x<2^w):(0:Int)≤(x:Int)∧(x:Int)<2^w:=by
 have e:((2^w:Nat):Int)=(2:Int)^w:=by simp
 omega
theorem jkq(hp:Proc p)(hs:StP p s heads rooms):StS p (zh4 p s heads rooms).st:=by
 by_cases hf:zd6 p s heads rooms=true
 ·rw[zh4,if_pos hf]
  refine⟨by simp,fun i hi=>?_,by simp,fun i hi=>?_,fun i hi k hk=>?_⟩
  ·show 0≤nth ((List.range p.regs.length).map _:List Int) i∧nth ((List.range p.regs.length).map _:List Int) i<_
   rw[zfq hi]
   have:=ydc hp.ok hs hi
   rw[if_pos hf]at this
   exact zzm this
  ·show(nth (((List.range p.mems.length).map _:List (List Int))) i).length=_
   rw[zfq hi]
   split
   ·rw[List.length_set];exact hs.mw i hi
   ·exact hs.mw i hi
  ·show 0≤nth (nth (((List.range p.mems.length).map _:List (List Int))) i) k∧nth (nth (((List.range p.mems.length).map _:List (List Int))) i) k<_
   rw[zfq hi]
   have hx:=jn0 hp.ok hs (zzl hp) hi
   have hm:=hs.mv i hi k hk
   split
   ·by_cases e:evP p s heads (nth p.mems i).ad % (nth p.mems i).words=k
    ·rw[e,zep (by rw[hs.mw i hi];exact hk)]
     exact zzm hx.2.2
    ·rw[zhx (fun h=>e h)];exact hm
   ·exact hm
 ·rw[zh4,if_neg hf];exact hs.st
theorem step_pl:(zh4 p s heads rooms).pops.length=p.takes.length∧(zh4 p s heads rooms).puts.length=p.puts.length:=by
 unfold zh4
 split<;>simp
theorem jn4(hp:Proc p)(hs:StP p s heads rooms):jn2 (zd5 p) s heads rooms=unf (zh4 p s heads rooms):=by
 have hw:=jvi hp
 rw[←jn1 hp.ok hs (zzl hp) fun w hw'=>⟨(hw.wo w hw').b0,(hw.wo w hw').b7⟩]
 unfold jn2 jl3
 rw[←jvd hp.ok hs (zzl hp)]
 rfl
theorem yi3(hp:Proc p)(hs:StP p s heads rooms):StSm s heads rooms:=by
 have h1:=hs.rl;have h2:=hs.ml;have h3:=hs.hl;have h4:=hs.ol
 have:=hp.r3;have:=hp.m1;have:=hp.t2;have:=hp.q2
 refine⟨by omega,by omega,fun l hl=>?_,by omega,by omega⟩
 obtain⟨i,hi,rfl⟩:=List.getElem_of_mem hl
 rw[←zdt hi,hs.mw i (by omega)]
 have:=(hp.mw i (by omega)).2.2
 omega
end
end
end Go.Proofs.YtapjobndmmkanaaGreat
