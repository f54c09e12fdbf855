/- Expressions and processes: how they lie in memory; bytes that describe them. -/
import Derived.Test.YtapjobndmmkanaaGreatQr
import Derived.Test.YtapjobndmmkanaaGreatOk
import Derived.Test.YtapjobndmmkanaaGreatOe
set_option linter.unusedVariables false
set_option linter.unusedSimpArgs false
set_option maxRecDepth 100000
set_option maxHeartbeats 4000000
namespace Go.Proofs.YtapjobndmmkanaaGreat
open Go.Proofs.Tryz
open Go Go.RowKit
def nS:D:=.val (.string ⟨#[]⟩)
def sD(s:ByteArray):D:=.val (.string s)
def exR(o k w:Int)(cs:List D)(n:Nat):List D:=[iD o,nS,iD k,nS,iD w,nS,.fs cs n]
def exC:Ex→List D
 | .con v w=>exR 1 v w [] 0
 | .reg i=>exR 16 i 0 [] 0
 | .dat i=>exR 18 i 0 [] 0
 | .not a=>exR 2 0 0 (exC a) 1
 | .two o a b=>exR o 0 0 (exC a++exC b) 2
 | .add a b=>exR 6 0 0 (exC a++exC b) 2
 | .sub a b=>exR 7 0 0 (exC a++exC b) 2
 | .eq a b=>exR 8 0 0 (exC a++exC b) 2
 | .lt a b=>exR 9 0 0 (exC a++exC b) 2
 | .mux a b c=>exR 10 0 0 (exC a++(exC b++exC c)) 3
 | .cat a b=>exR 11 0 0 (exC a++exC b) 2
 | .slc k w a=>exR 12 k w (exC a) 1
 | .ext w a=>exR 13 0 w (exC a) 1
 | .rd k a=>exR 17 k 0 (exC a) 1
theorem zrv(e:Ex):(exC e).length=7:=by cases e<;>rfl
theorem jr5{l:List Ex}{k:Nat}(h:k<l.length):zbz (l.flatMap exC) (k*7) 7=some (exC (nth l k)):=zgl zrv h
theorem zbm{l:List Ex}:(l.flatMap exC).length=l.length*7:=zc1 zrv l
def zbk(b:List Int)(at':Nat):List D:=[bytesD b,iD at']
def byN(b:List Int)(i:Nat):Int:=if i<b.length then nth b i else 0
theorem zgn{b:List Int}(hb:zg1 b)(i:Nat):0≤byN b i∧byN b i<256:=by
 unfold byN
 split
 ·rename_i h;exact hb _ (zcb h)
 ·exact⟨by omega,by omega⟩
theorem jm9{p q:Prop}(hq:q)(h:p=q:=by
 conv=>lhs;simp -dsimp -implicitDefEqProofs (disch:=first|assumption|omega|(simp only[r_z]<;>omega)|decide) only[r_r,↓reduceIte,Nat.reduceEqDiff,Nat.reduceAdd,D.fix,Int.reduceToNat,Nat.reduceMul,Nat.reduceBNe,Nat.reduceBEq,zbk,qae]):p:=h.mpr hq
theorem ybi{p q r:Prop}(e:r)(hq:q)(h:r→p=q:=by
 intro hY
 conv=>lhs;simp -dsimp -implicitDefEqProofs (disch:=first|assumption|omega|(simp only[r_z]<;>omega)|decide) only[r_r,↓reduceIte,Nat.reduceEqDiff,Nat.reduceAdd,D.fix,Int.reduceToNat,Nat.reduceMul,Nat.reduceBNe,Nat.reduceBEq,zbk,qae,hY]):p:=(h e).mpr hq
theorem yh7{p q:Prop}(hq:q)(h:p=q:=by
 conv=>lhs;simp (disch:=first|assumption|omega|(simp only[r_z]<;>omega)|decide) only[r_c,Nat.reduceAdd,D.fix,↓reduceIte,Nat.reduceEqDiff,zbk]):p:=h.mpr hq
theorem ziw(b:List Int)(i:Nat)(hb:zg1 b)(hl:b.length≤maxLen):za2 prog 76 [.agg (zbk b i)] (.d (iD (byN b i))):=by
 unfold maxLen at hl
 refine zax (fn:=f76) (by kernel_rfl) func76 rfl (qaf rfl) fun c hc hp=>?_
 refine za0 (τ':=frL [(0,.d (.agg (zbk b i)))]) (by repeat (first|exact zaq _|refine zak ?_ (by first|rfl|(simp[r_f];done)|simp[r_f, *]))) ?_
 refine szq (jm9 ·) ?_
 refine zaa fun K2 hK2=>?_
 refine zaf hp zah hc rfl fun K3 hK3=>?_
 by_cases h:i<b.length
 ·have q:decide ((i:Int)<b.length)=true:=decide_eq_true (by omega)
  have e:byN b i=nth b i:=if_pos h
  have hx:=hb _ (zcb h)
  refine ybi q ?_
  refine hK3 _ _ ?_
  refine szt ?_
  refine zaf hp zah hc rfl fun K4 hK4=>?_
  simp -dsimp -implicitDefEqProofs (disch:=first|assumption|omega|(simp only[r_z]<;>omega)|decide) only[r_r,↓reduceIte,Nat.reduceEqDiff,Nat.reduceAdd,D.fix,Int.reduceToNat,Nat.reduceMul,Nat.reduceBNe,Nat.reduceBEq,zbk,za4,qae]
  refine hK4 _ _ ?_
  refine zaj ?_
  show closeA _ _=_
  refine yh7 ?_
  rw[e]
 ·have q:decide ((i:Int)<b.length)=false:=decide_eq_false (by omega)
  have e:byN b i=0:=if_neg h
  refine ybi q ?_
  refine hK3 _ _ ?_
  refine szf ?_
  refine zai (hK2 _ _ ?_)
  refine zaf hp zah hc rfl fun K5 hK5=>?_
  simp -dsimp -implicitDefEqProofs (disch:=first|assumption|omega|(simp only[r_z]<;>omega)|decide) only[r_r,↓reduceIte,Nat.reduceEqDiff,Nat.reduceAdd,D.fix,Int.reduceToNat,Nat.reduceMul,Nat.reduceBNe,Nat.reduceBEq,zbk]
  refine hK5 _ _ ?_
  refine zaj ?_
  show closeA _ _=_
  refine yh7 ?_
  rw[e]
theorem jfe(b:List Int)(i n:Nat)(h1:i≤1000000000)(h2:n≤1000000000):za2 prog 77 [.agg (zbk b i),iD n] (.d (.agg (zbk b (i+n)))):=by
 refine zax (fn:=f77) (by kernel_rfl) func77 rfl (qaf rfl) fun c hc hp=>?_
 refine za0 (τ':=frL [(0,.d (.agg (zbk b i))),(1,.d (iD n))]) (by repeat (first|exact zaq _|refine zak ?_ (by first|rfl|(simp[r_f];done)|simp[r_f, *]))) ?_
 refine szq (jm9 ·) ?_
 refine szq (jm9 ·) ?_
 refine szq (jm9 ·) ?_
 refine zaj ?_
 try dsimp only[zcg,za5]
 refine za6 rfl ?_
 simp -dsimp -implicitDefEqProofs (disch:=first|assumption|omega|(simp only[r_z]<;>omega)|decide) only[r_r,↓reduceIte,Nat.reduceEqDiff,Nat.reduceAdd,D.fix,Int.reduceToNat,Nat.reduceMul,Nat.reduceBNe,Nat.reduceBEq,zbk,zgf,zgg]
 show closeA _ _=_
 refine yh7 ?_
 simp
def nmL:List ByteArray:=[⟨#[97]⟩,⟨#[98]⟩,⟨#[99,48]⟩,⟨#[119]⟩,⟨#[120,49,121]⟩,⟨#[116,111,112]⟩,⟨#[122,57]⟩,⟨#[109]⟩]
theorem ybj{n:Nat}(h:n<8):([.d (.val (.string ⟨#[97]⟩)),.d (.val (.string ⟨#[98]⟩)),.d (.val (.string ⟨#[99,48]⟩)),.d (.val (.string ⟨#[119]⟩)),.d (.val (.string ⟨#[120,49,121]⟩)),.d (.val (.string ⟨#[116,111,112]⟩)),.d (.val (.string ⟨#[122,57]⟩)),.d (.val (.string ⟨#[109]⟩))]:List AV)[n]? =some (.d (.val (.string (nth nmL n))))∧(nth nmL n).size≤3:=by
 rcases(show n=0∨n=1∨n=2∨n=3∨n=4∨n=5∨n=6∨n=7 by omega)with rfl|rfl|rfl|rfl|rfl|rfl|rfl|rfl<;>exact⟨rfl,by decide⟩
theorem jjv{s:ByteArray}:zcm (.d (.val (.string s)))=some [.d (.val (.string s))]:=rfl
theorem ybk(n:Nat)(h:n<8):za2 prog 109 [iD n] (.d (sD (nth nmL n))):=by
 have h8:(n:Int) % 8=n:=by omega
 have hg:=(ybj h).1
 refine zax (fn:=f109) (by kernel_rfl) func109 rfl (qaf rfl) fun c hc hp=>?_
 refine za0 (τ':=frL [(0,.d (iD n))]) (by repeat (first|exact zaq _|refine zak ?_ (by first|rfl|(simp[r_f];done)|simp[r_f, *]))) ?_
 refine zaf hp zah hc rfl fun K1 hK1=>?_
 simp -dsimp -implicitDefEqProofs (disch:=first|assumption|omega|(simp only[r_z]<;>omega)|decide) only[r_r,↓reduceIte,Nat.reduceEqDiff,Nat.reduceAdd,D.fix,Int.reduceToNat,Nat.reduceMul,Nat.reduceBNe,Nat.reduceBEq,sD,jjv]
 refine hK1 _ _ ?_
 refine zaf hp zah hc rfl fun K2 hK2=>?_
 simp -dsimp -implicitDefEqProofs (disch:=first|assumption|omega|(simp only[r_z]<;>omega)|decide) only[r_r,↓reduceIte,Nat.reduceEqDiff,Nat.reduceAdd,D.fix,Int.reduceToNat,Nat.reduceMul,Nat.reduceBNe,Nat.reduceBEq,sD,jjv,h8,hg,qae]
 refine hK2 _ _ ?_
 refine zaj ?_
 show closeA _ _=_
 simp (disch:=first|assumption|omega|(simp only[r_z]<;>omega)|decide) only[r_c,Nat.reduceAdd,D.fix,↓reduceIte,Nat.reduceEqDiff,sD,jjv]
theorem jjw{n:Nat}(h:n<8):∃s:ByteArray,s.size≤3∧za2 prog 109 [iD n] (.d (sD s)):=⟨_,(ybj h).2,ybk n h⟩
theorem jff{w:Nat}(h:w≤8):IntKind.i64.wrap (1*2^min w 64)=((2^w:Nat):Int):=by
 rcases(show w=0∨w=1∨w=2∨w=3∨w=4∨w=5∨w=6∨w=7∨w=8 by omega)with rfl|rfl|rfl|rfl|rfl|rfl|rfl|rfl|rfl<;>decide
theorem zna{v w:Nat}(hv:v<2^62)(h:w≤8):zr9 .and .i64 v (((2^w:Nat):Int) - 1)=((v % 2^w:Nat):Int):=by
 have hp:=Nat.two_pow_pos w
 have hp2:2^w≤256:=qba (n:=2) (by decide) h
 have e1:(((2^w:Nat):Int) - 1)=((2^w - 1:Nat):Int):=by omega
 rw[e1]
 show IntKind.i64.wrap ((BitVec.ofInt 64 (v:Int)&&& BitVec.ofInt 64 ((2^w - 1:Nat):Int)).toNat:Int)=_
 have e:(BitVec.ofInt 64 (v:Int)&&& BitVec.ofInt 64 ((2^w - 1:Nat):Int)).toNat=v % 2^w:=by
  rw[BitVec.toNat_and]
  simp only[BitVec.ofInt_natCast,BitVec.toNat_ofNat]
  rw[Nat.mod_eq_of_lt (show v<2^64 by omega),Nat.mod_eq_of_lt (show 2^w - 1<2^64 by omega),Nat.and_two_pow_sub_one_eq_mod]
 have:=Nat.mod_lt v hp
 rw[e,zre (by omega) (by omega)]
theorem ybl{v w:Nat}:v % 2^w<2^w:=Nat.mod_lt _ (Nat.two_pow_pos w)
theorem ybm(v w:Nat)(hv:v<1000)(hw:w≤8):za2 prog 111 [iD v,iD w] (.d (.agg (exC (.con (v % 2^w) w)))):=by
 have hu:IntKind.u64.wrap (w:Int)=w:=je4 (by omega) (by omega)
 have hs:=jff hw
 have hm:=zna (v:=v) (w:=w) (by omega) hw
 have hp:=Nat.two_pow_pos w
 have hp2:2^w≤256:=qba (n:=2) (by decide) hw
 obtain⟨M,hM⟩:∃M:Nat,2^w=M:=⟨_,rfl⟩
 rw[hM]at hs hm hp hp2
 rw[hM]
 refine zax (fn:=f111) (by kernel_rfl) func111 rfl (qaf rfl) fun c hc hp=>?_
 refine za0 (τ':=frL [(0,.d (iD v)),(1,.d (iD w))]) (by repeat (first|exact zaq _|refine zak ?_ (by first|rfl|(simp[r_f];done)|simp[r_f, *]))) ?_
 refine zaf hp zah hc rfl fun K1 hK1=>?_
 simp -dsimp -implicitDefEqProofs (disch:=first|assumption|omega|(simp only[r_z]<;>omega)|decide) only[r_r,↓reduceIte,Nat.reduceEqDiff,Nat.reduceAdd,D.fix,Int.reduceToNat,Nat.reduceMul,Nat.reduceBNe,Nat.reduceBEq,exC,exR,qae]
 refine hK1 _ _ ?_
 refine zaf hp zah hc rfl fun K2 hK2=>?_
 simp -dsimp -implicitDefEqProofs (disch:=first|assumption|omega|(simp only[r_z]<;>omega)|decide) only[r_r,↓reduceIte,Nat.reduceEqDiff,Nat.reduceAdd,D.fix,Int.reduceToNat,Nat.reduceMul,Nat.reduceBNe,Nat.reduceBEq,exC,exR,hu,hs,hm,Int.toNat_natCast,qae]
 refine hK2 _ _ ?_
 refine zaj ?_
 try dsimp only[zcg,za5]
 refine za6 rfl ?_
 simp -dsimp -implicitDefEqProofs (disch:=first|assumption|omega|(simp only[r_z]<;>omega)|decide) only[r_r,↓reduceIte,Nat.reduceEqDiff,Nat.reduceAdd,D.fix,Int.reduceToNat,Nat.reduceMul,Nat.reduceBNe,Nat.reduceBEq,exC,exR,zdb,zdi]
 show closeA _ _=_
 simp (disch:=first|assumption|omega|(simp only[r_z]<;>omega)|decide) only[r_c,Nat.reduceAdd,D.fix,↓reduceIte,Nat.reduceEqDiff,exC,exR]
 simp[nS,iD]
end Go.Proofs.YtapjobndmmkanaaGreat
