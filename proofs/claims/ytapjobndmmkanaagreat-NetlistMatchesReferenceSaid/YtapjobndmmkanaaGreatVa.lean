/- Expressions and processes: how they lie in memory; bytes that describe them. -/
import Derived.Test.YtapjobndmmkanaaGreatQr
import Derived.Test.YtapjobndmmkanaaGreatOk
import Derived.Test.YtapjobndmmkanaaGreatOe
set_option linter.unusedVariables false
set_option linter.unusedSimpArgs false
set_option maxRecDepth 100000
set_option maxHeartbeats 4000000
namespace Go.Proofs.YtapjobndmmkanaaGreat
open Go.Proofs.Tryz
open Go Go.RowKit
def nS:D:=.val (.string ⟨#[]⟩)
def sD(s:ByteArray):D:=.val (.string s)
def cv(o k w:Int)(cs:List D)(n:Nat):List D:=[iD o,nS,iD k,nS,iD w,nS,.fs cs n]
def bR:Ex→List D
 | .ny v w=>cv 1 v w [] 0
 | .gQ i=>cv 16 i 0 [] 0
 | .fo i=>cv 18 i 0 [] 0
 | .not a=>cv 2 0 0 (bR a) 1
 | .two o a b=>cv o 0 0 (bR a++bR b) 2
 | .add a b=>cv 6 0 0 (bR a++bR b) 2
 | .sub a b=>cv 7 0 0 (bR a++bR b) 2
 | .eq a b=>cv 8 0 0 (bR a++bR b) 2
 | .lt a b=>cv 9 0 0 (bR a++bR b) 2
 | .oq a b c=>cv 10 0 0 (bR a++(bR b++bR c)) 3
 | .cat a b=>cv 11 0 0 (bR a++bR b) 2
 | .oJ k w a=>cv 12 k w (bR a) 1
 | .ext w a=>cv 13 0 w (bR a) 1
 | .rd k a=>cv 17 k 0 (bR a) 1
theorem mq(e:Ex):(bR e).length=7:=by cases e<;>rfl
theorem xF{l:List Ex}{k:Nat}(h:k<l.length):ec (l.flatMap bR) (k*7) 7=some (bR (nth l k)):=Ai mq h
theorem gJ{l:List Ex}:(l.flatMap bR).length=l.length*7:=o9 mq l
def bG(b:List Int)(at':Nat):List D:=[aI b,iD at']
def nT(b:List Int)(i:Nat):Int:=if i<b.length then nth b i else 0
theorem rG{b:List Int}(hb:rJ b)(i:Nat):0≤nT b i∧nT b i<256:=by
 unfold nT
 split
 ·rename_i h;exact hb _ (ll h)
 ·exact⟨by omega,by omega⟩
theorem Kl{p q:Prop}(hq:q)(h:p=q:=by
 conv=>lhs;simp -dsimp -implicitDefEqProofs (disch:=first|assumption|omega|(simp only[aH]<;>omega)|decide) only[aN,↓reduceIte,Nat.reduceEqDiff,Nat.reduceAdd,D.fix,Int.reduceToNat,Nat.reduceMul,Nat.reduceBNe,Nat.reduceBEq,bG,bw]):p:=h.mpr hq
theorem Yi{p q r:Prop}(e:r)(hq:q)(h:r→p=q:=by
 intro hY
 conv=>lhs;simp -dsimp -implicitDefEqProofs (disch:=first|assumption|omega|(simp only[aH]<;>omega)|decide) only[aN,↓reduceIte,Nat.reduceEqDiff,Nat.reduceAdd,D.fix,Int.reduceToNat,Nat.reduceMul,Nat.reduceBNe,Nat.reduceBEq,bG,bw,hY]):p:=(h e).mpr hq
theorem Nj{p q:Prop}(hq:q)(h:p=q:=by
 conv=>lhs;simp (disch:=first|assumption|omega|(simp only[aH]<;>omega)|decide) only[fA,Nat.reduceAdd,D.fix,↓reduceIte,Nat.reduceEqDiff,bG]):p:=h.mpr hq
theorem zX(b:List Int)(i:Nat)(hb:rJ b)(hl:b.length≤maxLen):dq prog 76 [.agg (bG b i)] (.d (iD (nT b i))):=by
 unfold maxLen at hl
 refine fh (fn:=f76) (by kernel_rfl) func76 rfl (cn rfl) fun c hc hp=>?_
 refine dY (τ':=aF [(0,.d (.agg (bG b i)))]) (by repeat (first|exact cw _|refine cg ?_ (by first|rfl|(simp[aX];done)|simp[aX, *]))) ?_
 refine ah (Kl ·) ?_
 refine aD fun K2 bS=>?_
 refine aZ hp ax hc rfl fun K3 cm=>?_
 by_cases h:i<b.length
 ·have q:decide ((i:Int)<b.length)=true:=decide_eq_true (by omega)
  have e:nT b i=nth b i:=if_pos h
  have hx:=hb _ (ll h)
  refine Yi q ?_
  refine cm _ _ ?_
  refine dh ?_
  refine aZ hp ax hc rfl fun K4 dE=>?_
  simp -dsimp -implicitDefEqProofs (disch:=first|assumption|omega|(simp only[aH]<;>omega)|decide) only[aN,↓reduceIte,Nat.reduceEqDiff,Nat.reduceAdd,D.fix,Int.reduceToNat,Nat.reduceMul,Nat.reduceBNe,Nat.reduceBEq,bG,db,bw]
  refine dE _ _ ?_
  refine aM ?_
  show ai _ _=_
  refine Nj ?_
  rw[e]
 ·have q:decide ((i:Int)<b.length)=false:=decide_eq_false (by omega)
  have e:nT b i=0:=if_neg h
  refine Yi q ?_
  refine cm _ _ ?_
  refine bA ?_
  refine bg (bS _ _ ?_)
  refine aZ hp ax hc rfl fun K5 dx=>?_
  simp -dsimp -implicitDefEqProofs (disch:=first|assumption|omega|(simp only[aH]<;>omega)|decide) only[aN,↓reduceIte,Nat.reduceEqDiff,Nat.reduceAdd,D.fix,Int.reduceToNat,Nat.reduceMul,Nat.reduceBNe,Nat.reduceBEq,bG]
  refine dx _ _ ?_
  refine aM ?_
  show ai _ _=_
  refine Nj ?_
  rw[e]
theorem yU(b:List Int)(i n:Nat)(h1:i≤1000000000)(h2:n≤1000000000):dq prog 77 [.agg (bG b i),iD n] (.d (.agg (bG b (i+n)))):=by
 refine fh (fn:=f77) (by kernel_rfl) func77 rfl (cn rfl) fun c hc hp=>?_
 refine dY (τ':=aF [(0,.d (.agg (bG b i))),(1,.d (iD n))]) (by repeat (first|exact cw _|refine cg ?_ (by first|rfl|(simp[aX];done)|simp[aX, *]))) ?_
 refine ah (Kl ·) ?_
 refine ah (Kl ·) ?_
 refine ah (Kl ·) ?_
 refine aM ?_
 try dsimp only[cC,cI]
 refine cS rfl ?_
 simp -dsimp -implicitDefEqProofs (disch:=first|assumption|omega|(simp only[aH]<;>omega)|decide) only[aN,↓reduceIte,Nat.reduceEqDiff,Nat.reduceAdd,D.fix,Int.reduceToNat,Nat.reduceMul,Nat.reduceBNe,Nat.reduceBEq,bG,I5,I4]
 show ai _ _=_
 refine Nj ?_
 simp
def NG:List ByteArray:=[⟨#[97]⟩,⟨#[98]⟩,⟨#[99,48]⟩,⟨#[119]⟩,⟨#[120,49,121]⟩,⟨#[116,111,112]⟩,⟨#[122,57]⟩,⟨#[109]⟩]
theorem Yh{n:Nat}(h:n<8):([.d (.val (.string ⟨#[97]⟩)),.d (.val (.string ⟨#[98]⟩)),.d (.val (.string ⟨#[99,48]⟩)),.d (.val (.string ⟨#[119]⟩)),.d (.val (.string ⟨#[120,49,121]⟩)),.d (.val (.string ⟨#[116,111,112]⟩)),.d (.val (.string ⟨#[122,57]⟩)),.d (.val (.string ⟨#[109]⟩))]:List AV)[n]? =some (.d (.val (.string (nth NG n))))∧(nth NG n).size≤3:=by
 rcases(show n=0∨n=1∨n=2∨n=3∨n=4∨n=5∨n=6∨n=7 by omega)with rfl|rfl|rfl|rfl|rfl|rfl|rfl|rfl<;>exact⟨rfl,by decide⟩
theorem OL{s:ByteArray}:lQ (.d (.val (.string s)))=some [.d (.val (.string s))]:=rfl
theorem jyd(n:Nat)(h:n<8):dq prog 109 [iD n] (.d (sD (nth NG n))):=by
 have h8:(n:Int) % 8=n:=by omega
 have hg:=(Yh h).1
 refine fh (fn:=f109) (by kernel_rfl) func109 rfl (cn rfl) fun c hc hp=>?_
 refine dY (τ':=aF [(0,.d (iD n))]) (by repeat (first|exact cw _|refine cg ?_ (by first|rfl|(simp[aX];done)|simp[aX, *]))) ?_
 refine aZ hp ax hc rfl fun K1 nw=>?_
 simp -dsimp -implicitDefEqProofs (disch:=first|assumption|omega|(simp only[aH]<;>omega)|decide) only[aN,↓reduceIte,Nat.reduceEqDiff,Nat.reduceAdd,D.fix,Int.reduceToNat,Nat.reduceMul,Nat.reduceBNe,Nat.reduceBEq,sD,OL]
 refine nw _ _ ?_
 refine aZ hp ax hc rfl fun K2 bS=>?_
 simp -dsimp -implicitDefEqProofs (disch:=first|assumption|omega|(simp only[aH]<;>omega)|decide) only[aN,↓reduceIte,Nat.reduceEqDiff,Nat.reduceAdd,D.fix,Int.reduceToNat,Nat.reduceMul,Nat.reduceBNe,Nat.reduceBEq,sD,OL,h8,hg,bw]
 refine bS _ _ ?_
 refine aM ?_
 show ai _ _=_
 simp (disch:=first|assumption|omega|(simp only[aH]<;>omega)|decide) only[fA,Nat.reduceAdd,D.fix,↓reduceIte,Nat.reduceEqDiff,sD,OL]
theorem jhw{n:Nat}(h:n<8):∃s:ByteArray,s.size≤3∧dq prog 109 [iD n] (.d (sD s)):=⟨_,(Yh h).2,jyd n h⟩
theorem Yg{w:Nat}(h:w≤8):IntKind.i64.wrap (1*2^min w 64)=((2^w:Nat):Int):=by
 rcases(show w=0∨w=1∨w=2∨w=3∨w=4∨w=5∨w=6∨w=7∨w=8 by omega)with rfl|rfl|rfl|rfl|rfl|rfl|rfl|rfl|rfl<;>decide
theorem jcv{v w:Nat}(hv:v<2^62)(h:w≤8):Gh .and .i64 v (((2^w:Nat):Int) - 1)=((v % 2^w:Nat):Int):=by
 have hp:=Nat.two_pow_pos w
 have Lb:2^w≤256:=Nat.pow_le_pow_right (n:=2) (by decide) h
 have e1:(((2^w:Nat):Int) - 1)=((2^w - 1:Nat):Int):=by omega
 rw[e1]
 show IntKind.i64.wrap ((BitVec.ofInt 64 (v:Int)&&& BitVec.ofInt 64 ((2^w - 1:Nat):Int)).toNat:Int)=_
 have e:(BitVec.ofInt 64 (v:Int)&&& BitVec.ofInt 64 ((2^w - 1:Nat):Int)).toNat=v % 2^w:=by
  rw[BitVec.toNat_and]
  simp only[BitVec.ofInt_natCast,BitVec.toNat_ofNat]
  rw[Nat.mod_eq_of_lt (show v<2^64 by omega),Nat.mod_eq_of_lt (show 2^w - 1<2^64 by omega),Nat.and_two_pow_sub_one_eq_mod]
 have:=Nat.mod_lt v hp
 rw[e,KB (by omega) (by omega)]
theorem Yf{v w:Nat}:v % 2^w<2^w:=Nat.mod_lt _ (Nat.two_pow_pos w)
theorem Ye(v w:Nat)(hv:v<1000)(hw:w≤8):dq prog 111 [iD v,iD w] (.d (.agg (bR (.ny (v % 2^w) w)))):=by
 have hu:IntKind.u64.wrap (w:Int)=w:=Kz (by omega) (by omega)
 have hs:=Yg hw
 have hm:=jcv (v:=v) (w:=w) (by omega) hw
 have hp:=Nat.two_pow_pos w
 have Lb:2^w≤256:=Nat.pow_le_pow_right (n:=2) (by decide) hw
 obtain⟨M,hM⟩:∃M:Nat,2^w=M:=⟨_,rfl⟩
 rw[hM]at hs hm hp Lb
 rw[hM]
 refine fh (fn:=f111) (by kernel_rfl) func111 rfl (cn rfl) fun c hc hp=>?_
 refine dY (τ':=aF [(0,.d (iD v)),(1,.d (iD w))]) (by repeat (first|exact cw _|refine cg ?_ (by first|rfl|(simp[aX];done)|simp[aX, *]))) ?_
 refine aZ hp ax hc rfl fun K1 nw=>?_
 simp -dsimp -implicitDefEqProofs (disch:=first|assumption|omega|(simp only[aH]<;>omega)|decide) only[aN,↓reduceIte,Nat.reduceEqDiff,Nat.reduceAdd,D.fix,Int.reduceToNat,Nat.reduceMul,Nat.reduceBNe,Nat.reduceBEq,bR,cv,bw]
 refine nw _ _ ?_
 refine aZ hp ax hc rfl fun K2 bS=>?_
 simp -dsimp -implicitDefEqProofs (disch:=first|assumption|omega|(simp only[aH]<;>omega)|decide) only[aN,↓reduceIte,Nat.reduceEqDiff,Nat.reduceAdd,D.fix,Int.reduceToNat,Nat.reduceMul,Nat.reduceBNe,Nat.reduceBEq,bR,cv,hu,hs,hm,Int.toNat_natCast,bw]
 refine bS _ _ ?_
 refine aM ?_
 try dsimp only[cC,cI]
 refine cS rfl ?_
 simp -dsimp -implicitDefEqProofs (disch:=first|assumption|omega|(simp only[aH]<;>omega)|decide) only[aN,↓reduceIte,Nat.reduceEqDiff,Nat.reduceAdd,D.fix,Int.reduceToNat,Nat.reduceMul,Nat.reduceBNe,Nat.reduceBEq,bR,cv,I9,I8]
 show ai _ _=_
 simp (disch:=first|assumption|omega|(simp only[aH]<;>omega)|decide) only[fA,Nat.reduceAdd,D.fix,↓reduceIte,Nat.reduceEqDiff,bR,cv]
 simp[nS,iD]
end Go.Proofs.YtapjobndmmkanaaGreat
