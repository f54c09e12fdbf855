/- netlist's builder: its state as own objects. -/
import Derived.Test.YtapjobndmmkanaaGreatWf
import Derived.Test.YtapjobndmmkanaaGreatOk
import Derived.Test.YtapjobndmmkanaaGreatQr
set_option linter.unusedVariables false
set_option linter.unusedSimpArgs false
namespace Go.Proofs.YtapjobndmmkanaaGreat
open Go.Proofs.Tryz
open Go Go.RowKit
section
section
variable {P:Program} {fn:Func} {Q:AV→av→Prop} {τ:Fr} {H:av}
theorem IU(h:fn.results.toList=[])(hq:Q (.dR []) H):rI P fn Q .normal τ H:=by
 show qm P τ H fn.results.toList _
 rw[h];exact hq
theorem jtl{c:Cx}{code:Code}{QQ:Exit→Fr→av→Prop}{x y z u v w:AV}(h:ei P c code QQ (aF [(0,x),(1,y),(2,z),(3,u),(4,v),(5,w)]) H):ei P c code QQ (xD [x,y,z,u,v,w]) H:=dY (cg (cg (cg (cg (cg (cg (cw _) rfl) rfl) rfl) rfl) rfl) rfl) h
theorem IF{c:Cx}{m:List Nat}{x:Code}{Q:Exit→Fr→av→Prop}(hp:Kp c m)(h:ei P c x (fun e τ' H'=>∃τ1 H1,Rt m τ' H' τ1 H1∧Q e τ1 H1) τ H):ei P c x Q τ H:=fun a w hR=>
 wpIn_mono (h a w hR) fun _ _ _ ⟨τ',H',h1,τ1,H1,h2,h3⟩=>⟨τ1,H1,h2 _ _ _ hp h1,h3⟩
end
abbrev FP:TypeId:=188
abbrev Ap:TypeId:=189
theorem VM:Av prog KT FP=some (.int .i64 0):=by kernel_rfl
theorem Jn:Av prog KT Ap=some (.int .i64 0):=by kernel_rfl
theorem Zp{g:Gate}:mr (gV g)=true:=rfl
theorem Zo{g:aT}:mr (wV g)=true:=rfl
structure ir (m:Nat) (gs:Gs) (μ:Mp):Prop where
 ok:qZ prog FP μ
 gt:∀g,pM (gV g) μ=if g∈gs then some (.int .i64 ((m+qh g gs:Nat):Int))else none
theorem ir.nil(m:Nat):ir m [] ([],0):=⟨qZ.nil _ _,fun g=>by simp;rfl⟩
theorem ir.add{m:Nat}{gs:Gs}{μ:Mp}(h:ir m gs μ){g:Gate}(hk:pL prog FP (gV g))(hn:¬g∈gs):ir m (gs++[g]) (tG (gV g) (.int .i64 ((m+gs.length:Nat):Int)) μ):=by
 classical
 refine⟨h.ok.put hk,fun x=>?_⟩
 rw[Fb Zp Zp,h.gt x]
 by_cases e:x=g
 ·subst e;rw[if_pos rfl,if_pos (by simp),jcp hn]
 ·rw[if_neg fun e'=>e (jx6 e')]
  by_cases hx:x∈gs
  ·rw[if_pos hx,if_pos (by simp[hx]),jco hx]
  ·rw[if_neg hx,if_neg (by simp[hx,e])]
structure oU (ins:List aT) (μ:Mp):Prop where
 ok:qZ prog Ap μ
 gt:∀w,pM (wV w) μ=if w∈ins then some (.int .i64 ((2+kL w ins:Nat):Int))else none
theorem oU.nil:oU [] ([],0):=⟨qZ.nil _ _,fun g=>by simp;rfl⟩
theorem jdd{g:aT}:∀{l:List aT},¬g∈l→kL g (l++[g])=l.length
 |[],_=>by simp[kL]
 |x::l,h=>by
  rw[List.cons_append,kL,if_neg (fun e=>h (by simp[e])),jdd (fun h'=>h (vX _ h'))];rfl
theorem oU.add{ins:List aT}{μ:Mp}(h:oU ins μ){w:aT}(hk:pL prog Ap (wV w))(hn:¬w∈ins):oU (ins++[w]) (tG (wV w) (.int .i64 ((2+ins.length:Nat):Int)) μ):=by
 classical
 refine⟨h.ok.put hk,fun x=>?_⟩
 rw[Fb Zo Zo,h.gt x]
 by_cases e:x=w
 ·subst e;rw[if_pos rfl,if_pos (by simp),jdd hn]
 ·rw[if_neg fun e'=>e (jx5 e')]
  by_cases hx:x∈ins
  ·rw[if_pos hx,if_pos (by simp[hx]),jcr hx]
  ·rw[if_neg hx,if_neg (by simp[hx,e])]
structure QY (g:Gate):Prop where
 o:kJ g.op
 a:kJ g.a
 b:kJ g.b
 c:kJ g.c
 n:kJ g.n
theorem Xg{g:Gate}(h:QY g):pL prog FP (gV g):=jx7 h.o h.a h.b h.c h.n
structure BE where
 p:Pr
 ins:List aT
 mi:Mp
 out:List aT
 dr:List Int
 fo:List (List Int)
def bO(e:BE)(k:Nat):bB:=.cells [.os 3 1 0 e.ins.length,.os 5 2 0 k,.os 3 3 0 e.out.length,.os 1 4 0 e.dr.length,
 .d (sD e.p.name),.d (sD e.p.clock),.d (.fs (e.p.aC.flatMap nf) e.p.aC.length),.d (.fs (e.p.au.flatMap pb) e.p.au.length),.d (.fs (e.p.ag.flatMap qJ) e.p.ag.length),.d (.fs (e.p.aE.flatMap rO) e.p.aE.length),.om 5,.om 6,.os 1 7 0 e.fo.length]
def bH(e:BE)(gs:Gs)(μ:Mp):av:=[bO e gs.length,.cells (ak (e.ins.flatMap cr)),.cells (ak (gs.flatMap aY)),.cells (ak (e.out.flatMap cr)),.cells (ak (e.dr.map iD)),mO μ,mO e.mi,.cells (ak (e.fo.map ae))]
def aB(e:BE):Nat:=2+e.ins.length
def yP(e:BE)(r:Re)(x:AV)(S':av):Prop:=∃μ,ir (aB e) r.1 μ∧x= .d (iD r.2)∧S'=bH e r.1 μ
def FF(e:BE)(r:Gs × List Int)(x:AV)(S':av):Prop:=∃μ,ir (aB e) r.1 μ∧x= .d (ae r.2)∧S'=bH e r.1 μ
structure dM (e:BE) (gs:Gs) (μ:Mp):Prop where
 n:ir (aB e) gs μ
 g:GI (aB e) gs
 i:e.ins.length≤1000
 l:gs.length≤100000
set_option maxRecDepth 100000
set_option maxHeartbeats 4000000
end
theorem jja{a b c d e:Int}:Value.agg #[.int .i64 a,.int .i64 b,.int .i64 c,.int .i64 d,.int .i64 e]=gV ⟨a,b,c,d,e⟩:=rfl
theorem Xy{p q:Prop}(hq:q)(h:p=q:=by
 conv=>lhs;simp -dsimp -implicitDefEqProofs (disch:=first|assumption|omega|(simp only[aH,aQ,bc]<;>omega)|decide) only[aN,↓reduceIte,Nat.reduceEqDiff,Nat.reduceAdd,D.fix,Int.reduceToNat,Nat.reduceMul,Nat.reduceBNe,Nat.reduceBEq,ch,bO,aK,aY,bw]):p:=h.mpr hq
theorem Xx{p q r:Prop}(e:r)(hq:q)(h:r→p=q:=by
 intro hY
 conv=>lhs;simp -dsimp -implicitDefEqProofs (disch:=first|assumption|omega|(simp only[aH,aQ,bc]<;>omega)|decide) only[aN,↓reduceIte,Nat.reduceEqDiff,Nat.reduceAdd,D.fix,Int.reduceToNat,Nat.reduceMul,Nat.reduceBNe,Nat.reduceBEq,ch,bO,aK,aY,jja,vK,Yv VM mb hn.ok,Option.getD_some,Option.getD_none,Option.isSome_some,Option.isSome_none,bw,hY]):p:=(h e).mpr hq
theorem Kc{p q:Prop}(hq:q)(h:p=q:=by
 conv=>lhs;simp -dsimp -implicitDefEqProofs (disch:=first|assumption|omega|(simp only[aH,aQ,bc]<;>omega)|decide) only[aN,↓reduceIte,Nat.reduceEqDiff,Nat.reduceAdd,D.fix,Int.reduceToNat,Nat.reduceMul,Nat.reduceBNe,Nat.reduceBEq,ch,bO,aK,aY]):p:=h.mpr hq
theorem VL{m:List Nat}{τ τ':Fr}{H H':av}(h2:H=H')(h:fw τ τ':=by
 repeat (first|exact cw _|refine cg ?_ (by first|rfl|(simp[aX,aQ,bc];done)|simp[aX,aQ,bc, *]))):Rt m τ H τ' H':=Rt.end h h2
theorem BG(e:BE)(gs:Gs)(μ:Mp)(g:Gate)(hn:ir (aB e) gs μ)(hk:QY g)(hi:e.ins.length≤1000)(hl:gs.length≤100000):cY prog [0,1,3,4,5,6,7] 154 [.op 0 0,.agg ((aY g).map .d)] (bH e gs μ) (yP e (gw (aB e) gs g)):=by
 refine fX (fn:=f154) (by kernel_rfl) func154 rfl (cn rfl) fun c hc hp=>?_
 refine pX ?_
 unfold bH
 have mb:pL prog FP (gV ⟨g.op,g.a,g.b,g.c,g.n⟩):=Xg hk
 refine ah (Xy ·) ?_
 refine aD fun K2 bS=>?_
 refine dO ax hc mixed rfl (q:=0) (by kernel_rfl) (by kernel_rfl) fun K3 cm=>?_
 by_cases hg:(g∈gs)
 ·have jv:pM (gV ⟨g.op,g.a,g.b,g.c,g.n⟩) μ=some (.int .i64 ((aB e+qh g gs:Nat):Int)):=by have:=hn.gt g;rw[if_pos hg]at this;exact this
  refine Xx jv ?_
  refine cm _ _ ?_
  refine ah (Kc ·) ?_
  refine dh ?_
  refine ah (Kc ·) ?_
  refine bC hp (τ':=aF [(4,.d (iD ((aB e+qh g gs:Nat):Int)))]) (H':=bH e gs μ) ?_ ?_
  ·refine Rt.trans (Rt.gc (keep:=[0,1,2,3,4,5,6,7]) (by decide) (by decide) (by simp[eJ,dg])) ?_
   refine VL ?_
   first|rfl|(simp only[cP,Nat.reduceAdd,↓reduceIte,Nat.reduceEqDiff,ch,bO,aK,aY];first|done|rfl)
  refine aM ?_
  refine dJ (t:=4) rfl ?_
  show ∃_,_
  refine⟨μ,?_,?_,?_⟩
  ·unfold gw;rw[if_pos hg];exact hn
  ·unfold gw;rw[if_pos hg];rfl
  ·unfold gw;rw[if_pos hg]
 ·have jv:pM (gV ⟨g.op,g.a,g.b,g.c,g.n⟩) μ=none:=by have:=hn.gt g;rw[if_neg hg]at this;exact this
  refine Xx jv ?_
  refine cm _ _ ?_
  refine ah (Kc ·) ?_
  refine bA ?_
  refine bg (bS _ _ ?_)
  refine dO ax hc mixed rfl (q:=0) (by kernel_rfl) (by kernel_rfl) fun K7 cL=>?_
  refine Xy ?_
  refine cL _ _ ?_
  refine jP ax hp hc mixed rfl [(0,[]),(1,[]),(2,[]),(3,[]),(4,[]),(5,[]),(6,[]),(7,[]),(8,[]),(9,[]),(10,[]),(11,[]),(12,[])] [[],[],[1],[1,2],[1,2,3],[1,2,3,4],[],[6],[1,2,3,4,5,6,7],[0,1,2,3,4,5,6,7,8],[0,1,2,3,4,5,6,7,8,9],[0,1,2,3,4,5,6,7,8,9,10],[0,1,2,3,4,5,6,7,8,9,10,11]] 1 (by kernel_rfl) fun K8 dP=>?_
  simp -dsimp -implicitDefEqProofs (disch:=first|assumption|omega|(simp only[aH,aQ,bc]<;>omega)|decide) only[aN,↓reduceIte,Nat.reduceEqDiff,Nat.reduceAdd,D.fix,Int.reduceToNat,Nat.reduceMul,Nat.reduceBNe,Nat.reduceBEq,mC,ch,bO,aK,aY,bw]
  refine dP _ _ ?_
  refine jP ax hp hc mixed rfl [(0,[]),(1,[]),(2,[]),(3,[]),(4,[]),(5,[]),(6,[])] [[],[0],[0,1],[0,1,2],[],[],[0,1,2,3,4,5]] 0 (by kernel_rfl) fun K9 cX=>?_
  simp -dsimp -implicitDefEqProofs (disch:=first|assumption|omega|(simp only[aH,aQ,bc]<;>omega)|decide) only[aN,↓reduceIte,Nat.reduceEqDiff,Nat.reduceAdd,D.fix,Int.reduceToNat,Nat.reduceMul,Nat.reduceBNe,Nat.reduceBEq,mC,ch,bO,aK,aY,jja,GB VM mb hn.ok,bw]
  refine cX _ _ ?_
  refine ah (Kc ·) ?_
  refine bC hp (τ':=aF [(4,.d (iD (2+(e.ins.length:Int)+gs.length)))]) (H':=bH e (gs++[g]) (tG (gV ⟨g.op,g.a,g.b,g.c,g.n⟩) (.int .i64 (2+(e.ins.length:Int)+gs.length)) μ)) ?_ ?_
  ·refine Rt.trans (Rt.gc (keep:=[0,1,10,3,4,5,6,7]) (by decide) (by decide) (by simp[eJ,dg])) ?_
   refine VL ?_
   simp only[cP,Nat.reduceAdd,↓reduceIte,Nat.reduceEqDiff,ch,bO,aK,aY];simp[bH,bO,aK,aY,iD,ak]
  refine aM ?_
  refine dJ (t:=4) rfl ?_
  show ∃_,_
  have h2:(2+(e.ins.length:Int)+gs.length)=((aB e+gs.length:Nat):Int):=by unfold aB;omega
  refine⟨tG (gV g) (.int .i64 ((aB e+gs.length:Nat):Int)) μ,?_,?_,?_⟩
  ·unfold gw;rw[if_neg hg];exact hn.add (Xg hk) hg
  ·unfold gw;rw[if_neg hg,h2];first|done|rfl
  ·unfold gw;rw[if_neg hg,h2];first|done|rfl
end Go.Proofs.YtapjobndmmkanaaGreat
