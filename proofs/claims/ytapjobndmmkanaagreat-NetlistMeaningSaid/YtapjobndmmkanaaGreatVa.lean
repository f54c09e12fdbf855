/- Expressions and processes: how they lie in memory; bytes that describe them. -/
import Derived.Test.YtapjobndmmkanaaGreatQr
import Derived.Test.YtapjobndmmkanaaGreatOk
import Derived.Test.YtapjobndmmkanaaGreatOe
set_option linter.unusedVariables false
set_option linter.unusedSimpArgs false
set_option maxRecDepth 100000
set_option maxHeartbeats 4000000
namespace Go.Proofs.YtapjobndmmkanaaGreat
open Go.Proofs.Tryz
open Go Go.RowKit
def nS:D:=.val (.string ⟨#[]⟩)
def sD(s:ByteArray):D:=.val (.string s)
def cg(o k w:Int)(cs:List D)(n:Nat):List D:=[iD o,nS,iD k,nS,iD w,nS,.fs cs n]
def bW:Ex→List D
 | .lM v w=>cg 1 v w [] 0
 | .fe i=>cg 16 i 0 [] 0
 | .dZ i=>cg 18 i 0 [] 0
 | .not a=>cg 2 0 0 (bW a) 1
 | .two o a b=>cg o 0 0 (bW a++bW b) 2
 | .add a b=>cg 6 0 0 (bW a++bW b) 2
 | .sub a b=>cg 7 0 0 (bW a++bW b) 2
 | .eq a b=>cg 8 0 0 (bW a++bW b) 2
 | .lt a b=>cg 9 0 0 (bW a++bW b) 2
 | .lU a b c=>cg 10 0 0 (bW a++(bW b++bW c)) 3
 | .cat a b=>cg 11 0 0 (bW a++bW b) 2
 | .mT k w a=>cg 12 k w (bW a) 1
 | .ext w a=>cg 13 0 w (bW a) 1
 | .rd k a=>cg 17 k 0 (bW a) 1
theorem mK(e:Ex):(bW e).length=7:=by cases e<;>rfl
theorem js9{l:List Ex}{k:Nat}(h:k<l.length):dJ (l.flatMap bW) (k*7) 7=some (bW (nth l k)):=zh mK h
theorem gP{l:List Ex}:(l.flatMap bW).length=l.length*7:=pq mK l
def bo(b:List Int)(at':Nat):List D:=[aE b,iD at']
def kr(b:List Int)(i:Nat):Int:=if i<b.length then nth b i else 0
theorem mg{b:List Int}(hb:mR b)(i:Nat):0≤kr b i∧kr b i<256:=by
 unfold kr
 split
 ·rename_i h;exact hb _ (my h)
 ·exact⟨by omega,by omega⟩
theorem Ll{p q:Prop}(hq:q)(h:p=q:=by
 conv=>lhs;simp -dsimp -implicitDefEqProofs (disch:=first|assumption|omega|(simp only[aK]<;>omega)|decide) only[aP,↓reduceIte,Nat.reduceEqDiff,Nat.reduceAdd,D.fix,Int.reduceToNat,Nat.reduceMul,Nat.reduceBNe,Nat.reduceBEq,bo,bw]):p:=h.mpr hq
theorem Zb{p q r:Prop}(e:r)(hq:q)(h:r→p=q:=by
 intro hY
 conv=>lhs;simp -dsimp -implicitDefEqProofs (disch:=first|assumption|omega|(simp only[aK]<;>omega)|decide) only[aP,↓reduceIte,Nat.reduceEqDiff,Nat.reduceAdd,D.fix,Int.reduceToNat,Nat.reduceMul,Nat.reduceBNe,Nat.reduceBEq,bo,bw,hY]):p:=(h e).mpr hq
theorem N9{p q:Prop}(hq:q)(h:p=q:=by
 conv=>lhs;simp (disch:=first|assumption|omega|(simp only[aK]<;>omega)|decide) only[gF,Nat.reduceAdd,D.fix,↓reduceIte,Nat.reduceEqDiff,bo]):p:=h.mpr hq
theorem vQ(b:List Int)(i:Nat)(hb:mR b)(hl:b.length≤maxLen):cC prog 76 [.agg (bo b i)] (.d (iD (kr b i))):=by
 unfold maxLen at hl
 refine ez (fn:=f76) (by kernel_rfl) func76 rfl (bN rfl) fun c hc hp=>?_
 refine dG (τ':=aG [(0,.d (.agg (bo b i)))]) (by repeat (first|exact bT _|refine bM ?_ (by first|rfl|(simp[aR];done)|simp[aR, *]))) ?_
 refine aj (Ll ·) ?_
 refine aH fun K2 bG=>?_
 refine bC hp ax hc rfl fun K3 bS=>?_
 by_cases h:i<b.length
 ·have q:decide ((i:Int)<b.length)=true:=decide_eq_true (by omega)
  have e:kr b i=nth b i:=if_pos h
  have hx:=hb _ (my h)
  refine Zb q ?_
  refine bS _ _ ?_
  refine jW ?_
  refine bC hp ax hc rfl fun K4 dD=>?_
  simp -dsimp -implicitDefEqProofs (disch:=first|assumption|omega|(simp only[aK]<;>omega)|decide) only[aP,↓reduceIte,Nat.reduceEqDiff,Nat.reduceAdd,D.fix,Int.reduceToNat,Nat.reduceMul,Nat.reduceBNe,Nat.reduceBEq,bo,dm,bw]
  refine dD _ _ ?_
  refine bh ?_
  show aC _ _=_
  refine N9 ?_
  rw[e]
 ·have q:decide ((i:Int)<b.length)=false:=decide_eq_false (by omega)
  have e:kr b i=0:=if_neg h
  refine Zb q ?_
  refine bS _ _ ?_
  refine eC ?_
  refine bB (bG _ _ ?_)
  refine bC hp ax hc rfl fun K5 fA=>?_
  simp -dsimp -implicitDefEqProofs (disch:=first|assumption|omega|(simp only[aK]<;>omega)|decide) only[aP,↓reduceIte,Nat.reduceEqDiff,Nat.reduceAdd,D.fix,Int.reduceToNat,Nat.reduceMul,Nat.reduceBNe,Nat.reduceBEq,bo]
  refine fA _ _ ?_
  refine bh ?_
  show aC _ _=_
  refine N9 ?_
  rw[e]
theorem vj(b:List Int)(i n:Nat)(h1:i≤1000000000)(h2:n≤1000000000):cC prog 77 [.agg (bo b i),iD n] (.d (.agg (bo b (i+n)))):=by
 refine ez (fn:=f77) (by kernel_rfl) func77 rfl (bN rfl) fun c hc hp=>?_
 refine dG (τ':=aG [(0,.d (.agg (bo b i))),(1,.d (iD n))]) (by repeat (first|exact bT _|refine bM ?_ (by first|rfl|(simp[aR];done)|simp[aR, *]))) ?_
 refine aj (Ll ·) ?_
 refine aj (Ll ·) ?_
 refine aj (Ll ·) ?_
 refine bh ?_
 try dsimp only[fb,fc]
 refine iH rfl ?_
 simp -dsimp -implicitDefEqProofs (disch:=first|assumption|omega|(simp only[aK]<;>omega)|decide) only[aP,↓reduceIte,Nat.reduceEqDiff,Nat.reduceAdd,D.fix,Int.reduceToNat,Nat.reduceMul,Nat.reduceBNe,Nat.reduceBEq,bo,JO,JN]
 show aC _ _=_
 refine N9 ?_
 simp
theorem jk1{n:Nat}(h:n<8):∃s:ByteArray,s.size≤3∧cC prog 109 [iD n] (.d (sD s)):=by
 rcases(show n=0∨n=1∨n=2∨n=3∨n=4∨n=5∨n=6∨n=7 by omega)with rfl|rfl|rfl|rfl|rfl|rfl|rfl|rfl
 ·exact⟨⟨#[97]⟩,by decide,ub (n:=60) mixed ax (by kernel_rfl)⟩
 ·exact⟨⟨#[98]⟩,by decide,ub (n:=60) mixed ax (by kernel_rfl)⟩
 ·exact⟨⟨#[99,48]⟩,by decide,ub (n:=60) mixed ax (by kernel_rfl)⟩
 ·exact⟨⟨#[119]⟩,by decide,ub (n:=60) mixed ax (by kernel_rfl)⟩
 ·exact⟨⟨#[120,49,121]⟩,by decide,ub (n:=60) mixed ax (by kernel_rfl)⟩
 ·exact⟨⟨#[116,111,112]⟩,by decide,ub (n:=60) mixed ax (by kernel_rfl)⟩
 ·exact⟨⟨#[122,57]⟩,by decide,ub (n:=60) mixed ax (by kernel_rfl)⟩
 ·exact⟨⟨#[109]⟩,by decide,ub (n:=60) mixed ax (by kernel_rfl)⟩
theorem BS{w:Nat}(h:w≤8):IntKind.i64.wrap (1*2^min w 64)=((2^w:Nat):Int):=by
 rcases(show w=0∨w=1∨w=2∨w=3∨w=4∨w=5∨w=6∨w=7∨w=8 by omega)with rfl|rfl|rfl|rfl|rfl|rfl|rfl|rfl|rfl<;>decide
theorem FT{v w:Nat}(hv:v<2^62)(h:w≤8):pc .and .i64 v (((2^w:Nat):Int) - 1)=((v % 2^w:Nat):Int):=by
 have hp:=Nat.two_pow_pos w
 have tq:2^w≤256:=rj (n:=2) (by decide) h
 have e1:(((2^w:Nat):Int) - 1)=((2^w - 1:Nat):Int):=by omega
 rw[e1]
 show IntKind.i64.wrap ((BitVec.ofInt 64 (v:Int)&&& BitVec.ofInt 64 ((2^w - 1:Nat):Int)).toNat:Int)=_
 have e:(BitVec.ofInt 64 (v:Int)&&& BitVec.ofInt 64 ((2^w - 1:Nat):Int)).toNat=v % 2^w:=by
  rw[BitVec.toNat_and]
  simp only[BitVec.ofInt_natCast,BitVec.toNat_ofNat]
  rw[Nat.mod_eq_of_lt (show v<2^64 by omega),Nat.mod_eq_of_lt (show 2^w - 1<2^64 by omega),Nat.and_two_pow_sub_one_eq_mod]
 have:=Nat.mod_lt v hp
 rw[e,yg (by omega) (by omega)]
theorem Za{v w:Nat}:v % 2^w<2^w:=Nat.mod_lt _ (Nat.two_pow_pos w)
theorem YP(v w:Nat)(hv:v<1000)(hw:w≤8):cC prog 111 [iD v,iD w] (.d (.agg (bW (.lM (v % 2^w) w)))):=by
 have hu:IntKind.u64.wrap (w:Int)=w:=An (by omega) (by omega)
 have hs:=BS hw
 have hm:=FT (v:=v) (w:=w) (by omega) hw
 have hp:=Nat.two_pow_pos w
 have tq:2^w≤256:=rj (n:=2) (by decide) hw
 obtain⟨M,hM⟩:∃M:Nat,2^w=M:=⟨_,rfl⟩
 rw[hM]at hs hm hp tq
 rw[hM]
 refine ez (fn:=f111) (by kernel_rfl) func111 rfl (bN rfl) fun c hc hp=>?_
 refine dG (τ':=aG [(0,.d (iD v)),(1,.d (iD w))]) (by repeat (first|exact bT _|refine bM ?_ (by first|rfl|(simp[aR];done)|simp[aR, *]))) ?_
 refine bC hp ax hc rfl fun K1 rE=>?_
 simp -dsimp -implicitDefEqProofs (disch:=first|assumption|omega|(simp only[aK]<;>omega)|decide) only[aP,↓reduceIte,Nat.reduceEqDiff,Nat.reduceAdd,D.fix,Int.reduceToNat,Nat.reduceMul,Nat.reduceBNe,Nat.reduceBEq,bW,cg,bw]
 refine rE _ _ ?_
 refine bC hp ax hc rfl fun K2 bG=>?_
 simp -dsimp -implicitDefEqProofs (disch:=first|assumption|omega|(simp only[aK]<;>omega)|decide) only[aP,↓reduceIte,Nat.reduceEqDiff,Nat.reduceAdd,D.fix,Int.reduceToNat,Nat.reduceMul,Nat.reduceBNe,Nat.reduceBEq,bW,cg,hu,hs,hm,Int.toNat_natCast,bw]
 refine bG _ _ ?_
 refine bh ?_
 try dsimp only[fb,fc]
 refine iH rfl ?_
 simp -dsimp -implicitDefEqProofs (disch:=first|assumption|omega|(simp only[aK]<;>omega)|decide) only[aP,↓reduceIte,Nat.reduceEqDiff,Nat.reduceAdd,D.fix,Int.reduceToNat,Nat.reduceMul,Nat.reduceBNe,Nat.reduceBEq,bW,cg,JQ,JR]
 show aC _ _=_
 simp (disch:=first|assumption|omega|(simp only[aK]<;>omega)|decide) only[gF,Nat.reduceAdd,D.fix,↓reduceIte,Nat.reduceEqDiff,bW,cg]
 simp[nS,iD]
end Go.Proofs.YtapjobndmmkanaaGreat
