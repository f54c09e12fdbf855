/- Processes that bytes describe: the frame. -/
import Derived.Test.YtapjobndmmkanaaGreatQr
import Derived.Test.YtapjobndmmkanaaGreatVd
set_option linter.unusedVariables false
set_option linter.unusedSimpArgs false
set_option maxRecDepth 100000
set_option maxHeartbeats 4000000
namespace Go.Proofs.YtapjobndmmkanaaGreat
open Go.Proofs.Tryz
open Go Go.RowKit
theorem jyv{P:Program}{t:TypeId}{a b:ByteArray}(h:a.size+b.size≤1000000):iO P .add t (.string a) (.string b)=some (.string (a++b)):=by simp[iO,h]
theorem nC.agg(cs:List D):nC (.d (.agg cs)) (.agg (cs.map .d)):=fun w pl own v h=>by
 cases h with
 |d _ _ h=>
  cases h with
  |agg _ vs hl hx=>
   refine .agg _ vs (by simpa using hl) fun j x hj=>?_
   rw[List.getElem?_map,dc]at hj
   obtain⟨y,hy,rfl⟩:=hj
   exact .d _ _ (hx j y hy)
theorem cY.dag{P:Program}{ks:List Nat}{f:FuncId}{cs:List D}{xs:List AV}{S:av}{K:AV→av→Prop}(h:cY P ks f (.agg (cs.map .d)::xs) S K):cY P ks f (.d (.agg cs)::xs) S K:=
 ⟨h.1,fun E w pl vals hl hx hh hE=>h.2 E w pl vals (by simpa using hl) (fun j y hj=>by
  cases j with
  |zero=>cases hj;exact nC.agg cs _ _ _ _ (hx 0 _ rfl)
  |succ j=>exact hx (j+1) y hj) hh hE⟩
theorem jec{P:Program}{fn:Func}{Q:AV→av→Prop}{τ:Fr}{H:av}{t u v:Tmp}{ta tb tc:TypeId}(h:fn.results.toList=[.cell t ta,.cell u tb,.cell v tc])
  (hq:oK (fS P H.length H ta (τ t)) (tg fun x=>oK (fS P H.length H tb (τ u)) (tg fun y=>oK (fS P H.length H tc (τ v)) (tg fun z=>Q (.dR [x,y,z]) H)))):rI P fn Q .ret τ H:=by
 obtain⟨x,h1,y,h2,z,h3,h4⟩:=hq
 show qm P τ H fn.results.toList _
 rw[h];exact⟨x,BR h1,y,BR h2,z,BR h3,h4⟩
theorem Ou{p q:Prop}(hq:q)(h:p=q:=by
 conv=>lhs;simp -dsimp -implicitDefEqProofs (disch:=first|assumption|omega|(simp only[aH,j7,gJ]<;>omega)|decide) only[aN,↓reduceIte,Nat.reduceEqDiff,Nat.reduceAdd,D.fix,Int.reduceToNat,Nat.reduceMul,Nat.reduceBNe,Nat.reduceBEq,fJ,bG,dk,nI,cv,eT,gP,gO,bw]):p:=h.mpr hq
theorem Ed{p q:Prop}(hq:q)(h:p=q:=by
 conv=>lhs;simp -dsimp -implicitDefEqProofs (disch:=first|assumption|omega|(simp only[aH,j7,gJ]<;>omega)|decide) only[aN,↓reduceIte,Nat.reduceEqDiff,Nat.reduceAdd,D.fix,Int.reduceToNat,Nat.reduceMul,Nat.reduceBNe,Nat.reduceBEq,mC,fJ,bG,dk,nI,cv,eT,gP,gO,bw]):p:=h.mpr hq
theorem Wl{m:List Nat}{τ τ':Fr}{H H':av}(h2:H=H')(h:fw τ τ':=by
 repeat (first|exact cw _|refine cg ?_ (by first|rfl|(simp[aX,j7,gJ];done)|simp[aX,j7,gJ, *]))):Rt m τ H τ' H':=Rt.end h h2
theorem X5{p q:Prop}(hq:q)(h:p=q:=by
 conv=>lhs;simp -dsimp -implicitDefEqProofs (disch:=first|assumption|omega|(simp only[aH,j7,gJ]<;>omega)|decide) only[aN,↓reduceIte,Nat.reduceEqDiff,Nat.reduceAdd,D.fix,Int.reduceToNat,Nat.reduceMul,Nat.reduceBNe,Nat.reduceBEq,fJ,bG,dk,nI,cv,eT,gP,gO,Fl,OR]):p:=h.mpr hq
theorem Wk{p q:Prop}(hq:q)(h:p=q:=by
 conv=>lhs;simp only[cP,Nat.reduceAdd,↓reduceIte,Nat.reduceEqDiff,fJ,bG,dk,nI,cv,eT,gP,gO]):p:=h.mpr hq
theorem Z6(C:Ct)(s:Sc)(b:List Int)(i:Nat)(hC:nE C)(hs:pC C s)(hb:rJ b)(hl:b.length≤maxLen)(hi:i≤7000000):cY prog [0] 55 [fJ b i,.agg (dk s)] ([dZ s,.free]) (Bf C s b i 1 32 10):=by
 refine fX (fn:=f55) (by kernel_rfl) func55 rfl (cn rfl) fun c hc hp=>?_
 refine pX ?_
 have hcp:uq 2=8000000:=by decide
 have A9:rz 2=32:=by decide
 have Hw:nU 2=4:=by decide
 obtain⟨y,hy⟩:∃y:Nat,nT b i=y:=⟨(nT b i).toNat,by have:=(rG hb i).1;omega⟩
 have Pf:=(rG hb i).2
 have wq:=zX b i hb hl
 rw[hy]at wq
 have Ey:=Ye 1 1 (by decide) (by decide)
 unfold bR at Ey
 have hT:=Ga C s b (i+1) 1 hC hs hb hl (by decide) (by decide) (by omega)
 refine ah (Ou ·) ?_
 refine aD fun K2 bS=>?_
 refine aZ hp ax hc rfl fun K3 cm=>?_
 refine Ou ?_
 refine bx (wq) rfl ?_
 refine Ou ?_
 refine cm _ _ ?_
 refine bf rfl (fun ht=>?_) (fun ht=>?_)
 ·refine jP ax hp hc mixed rfl [(1,[]),(0,[1]),(2,[]),(3,[]),(4,[])] [[],[],[0,1],[0,1,2],[0,1,2,3]] 0 (by kernel_rfl) fun K4 dE=>?_
  refine Ed ?_
  refine qy (Ey) rfl ?_
  refine Ed ?_
  refine qy (yU b i 1 (by omega) (by omega)) rfl ?_
  refine Ed ?_
  refine dE _ _ ?_
  refine bC hp (τ':=aF [(4,.op 1 0)]) (H':=[dZ s,.cells [.d (iD 1),.d nS,.d (iD (1:Nat)),.d nS,.d (iD (1:Nat)),.d nS,.d (.fs [] 0),.d (aI b),.d (iD (i+1:Nat))]]) ?_ ?_
  ·refine Rt.trans (Rt.gc (keep:=[0,4]) (by decide) (by decide) (by simp[eJ,dg])) ?_
   refine Wl ?_
   refine Wk ?_;simp[aI,iD,nS]
  refine aM ?_
  try dsimp only[cC,cI]
  refine cS rfl ?_
  refine X5 ?_
  show ∃_,_
  exact⟨.ny 1 1,i+1,⟨⟨by decide,by decide,by decide⟩,rfl,by simp[cf]⟩,by omega,by omega,by simp[kZ,bR,cv,bG,nS,iD,aI],_,rfl⟩
 ·refine bg (bS _ _ ?_)
  refine jP ax hp hc mixed rfl [(0,[]),(2,[]),(3,[]),(1,[2]),(4,[]),(5,[])] [[],[0],[],[],[0,1,2,3],[0,1,2,3,4]] 0 (by kernel_rfl) fun K5 dx=>?_
  refine Ed ?_
  refine qy (yU b i 1 (by omega) (by omega)) rfl ?_
  refine Ed ?_
  refine tm (S:=[dZ s,.free]) (T:=[.cells (ak (bG b i)),.cells (dk s),eT]) (hT.dag) rfl (cn rfl) (by first|rfl|(simp[AV.aj,AV.allI,bo,bq,bp,aL,aO,bn,br,eT,ff,dk,bG];done)|(intro o ho;simp at ho;done)) (fun t=>fL (by first|rfl|(simp[AV.aj,AV.allI,bo,bq,bp,aL,aO,bn,br,eT,ff,dk,bG];done)|(intro o ho;simp at ho;done)) t) (fun t=>fL (by first|rfl|(simp[AV.aj,AV.allI,bo,bq,bp,aL,aO,bn,br,eT,ff,dk,bG];done)|(intro o ho;simp at ho;done)) t) (by first|rfl|(simp[AV.aj,AV.allI,bo,bq,bp,aL,aO,bn,br,eT,ff,dk,bG];done)|(intro o ho;simp at ho;done)) (by first|rfl|(simp[AV.aj,AV.allI,bo,bq,bp,aL,aO,bn,br,eT,ff,dk,bG];done)|(intro o ho;simp at ho;done)) (by first|rfl|(simp[AV.aj,AV.allI,bo,bq,bp,aL,aO,bn,br,eT,ff,dk,bG];done)|(intro o ho;simp at ho;done)) ?_
  rintro _ _ ⟨e,j,he,rU,wL,rfl,g,rfl⟩
  refine⟨rfl,?_⟩
  obtain⟨xo,xk,xw,xc,xn,hex⟩:=pZ e;unfold kZ;rw[hex];dsimp only[List.map_cons,List.map_nil,List.cons_append,List.nil_append,bG]
  refine Ed ?_
  refine dx _ _ ?_
  refine bC hp (τ':=aF [(4,.op 1 0)]) (H':=[dZ s,.cells [.d (iD xo),.d nS,.d (iD xk),.d nS,.d (iD xw),.d nS,.d (.fs xc xn),.d (aI b),.d (iD j)]]) ?_ ?_
  ·refine Rt.trans (Rt.gc (keep:=[0,4]) (by decide) (by decide) (by simp[eJ,dg])) ?_
   refine Wl ?_
   refine Wk ?_;simp[aI,iD,nS]
  refine aM ?_
  try dsimp only[cC,cI]
  refine cS rfl ?_
  refine X5 ?_
  show ∃_,_
  exact⟨e,j,⟨he.t,he.w,by have:=he.n;omega⟩,by omega,by omega,by unfold kZ;rw[hex];simp[bG,iD,aI],_,rfl⟩
theorem lj{s:ByteArray}:lQ (.d (.val (.string s)))=some [.d (.val (.string s))]:=rfl
theorem zO{p q:Prop}(hq:q)(h:p=q:=by
 conv=>lhs;simp -dsimp -implicitDefEqProofs (disch:=first|assumption|omega|(simp only[aH]<;>omega)|decide) only[aN,↓reduceIte,Nat.reduceEqDiff,Nat.reduceAdd,D.fix,Int.reduceToNat,Nat.reduceMul,Nat.reduceBNe,Nat.reduceBEq,sD,lj,bw]):p:=h.mpr hq
theorem Kv{p q:Prop}(hq:q)(h:p=q:=by
 conv=>lhs;simp -dsimp -implicitDefEqProofs (disch:=first|assumption|omega|(simp only[aH]<;>omega)|decide) only[aN,↓reduceIte,Nat.reduceEqDiff,Nat.reduceAdd,D.fix,Int.reduceToNat,Nat.reduceMul,Nat.reduceBNe,Nat.reduceBEq,sD,lj,OS,jxs]):p:=h.mpr hq
theorem JU{p q:Prop}(hq:q)(h:p=q:=by
 conv=>lhs;simp (disch:=first|assumption|omega|(simp only[aH]<;>omega)|decide) only[fA,Nat.reduceAdd,D.fix,↓reduceIte,Nat.reduceEqDiff,sD,lj]):p:=h.mpr hq
theorem ZB(n:Nat)(s:ByteArray)(hn:n<1000):tq prog 110 [iD n,sD s] (fun r=>∃rk rf rn,r= .d (.agg [iD rk,sD rf,iD rn])):=by
 have h4:(n:Int) % 4=((n % 4:Nat):Int):=by omega
 refine I3 (fn:=f110) (by kernel_rfl) func110 rfl (cn rfl) fun c hc hp=>?_
 refine dY (τ':=aF [(0,.d (iD n)),(1,.d (sD s))]) (by repeat (first|exact cw _|refine cg ?_ (by first|rfl|(simp[aX];done)|simp[aX, *]))) ?_
 refine ah (zO ·) ?_
 refine aD fun K2 bS=>?_
 refine aZ hp ax hc rfl fun K3 cm=>?_
 simp -dsimp -implicitDefEqProofs (disch:=first|assumption|omega|(simp only[aH]<;>omega)|decide) only[aN,↓reduceIte,Nat.reduceEqDiff,Nat.reduceAdd,D.fix,Int.reduceToNat,Nat.reduceMul,Nat.reduceBNe,Nat.reduceBEq,sD,lj,h4,bw]
 refine cm _ _ ?_
 refine aW ?_
 refine ah (zO ·) ?_
 refine bf rfl (fun ht=>?_) (fun ht=>?_)
 ·refine ah (zO ·) ?_
  refine aM ?_
  try dsimp only[cC,cI]
  refine cS rfl ?_
  refine Kv ?_
  show ∃r,ai _ _=some r∧_
  refine JU ?_
  exact⟨_,rfl,1,⟨#[]⟩,0,by simp[iD,sD]⟩
 ·refine ah (zO ·) ?_
  refine bf rfl (fun ht=>?_) (fun ht=>?_)
  ·refine ah (zO ·) ?_
   refine aM ?_
   try dsimp only[cC,cI]
   refine cS rfl ?_
   refine Kv ?_
   show ∃r,ai _ _=some r∧_
   refine JU ?_
   exact⟨_,rfl,2,s,0,by simp[iD,sD]⟩
  ·refine ah (zO ·) ?_
   refine bf rfl (fun ht=>?_) (fun ht=>?_)
   ·refine ah (zO ·) ?_
    refine aM ?_
    try dsimp only[cC,cI]
    refine cS rfl ?_
    refine Kv ?_
    show ∃r,ai _ _=some r∧_
    refine JU ?_
    exact⟨_,rfl,3,s,(n:Int) / 4 % 5,by simp[iD,sD]⟩
   ·refine bg (bS _ _ ?_)
    refine ah (zO ·) ?_
    refine aM ?_
    try dsimp only[cC,cI]
    refine cS rfl ?_
    refine Kv ?_
    show ∃r,ai _ _=some r∧_
    refine JU ?_
    exact⟨_,rfl,0,⟨#[]⟩,0,by simp[iD,sD]⟩
def Ec:List D:=[iD 0,nS,iD 0,nS,iD 0,nS,.val (.slice none 0 0)]
def kG:Option Ex→List D
 |none=>Ec
 |some e=>bR e
theorem qv(o:Option Ex):(kG o).length=7:=by cases o<;>simp[kG,Ec,mq]
structure RG where
 name:ByteArray
 w:Nat
 init:Nat
 nx:Option Ex
 rk:Int
 rf:ByteArray
 rn:Int
 deriving Inhabited
structure MG where
 name:ByteArray
 w:Nat
 words:Nat
 en:Option Ex
 ad:Option Ex
 da:Option Ex
 rk:Int
 rf:ByteArray
 rn:Int
 deriving Inhabited
structure TG where
 chan:Nat
 w:Nat
 wh:Option Ex
 deriving Inhabited
structure QG where
 chan:Nat
 w:Nat
 wh:Option Ex
 da:Option Ex
 deriving Inhabited
def iH(r:RG):List D:=[sD r.name,iD r.w,iD r.init]++(kG r.nx++[iD r.rk,sD r.rf,iD r.rn])
def jU(m:MG):List D:=[sD m.name,iD m.w,iD m.words]++(kG m.en++(kG m.ad++(kG m.da++[iD m.rk,sD m.rf,iD m.rn])))
def jh(t:TG):List D:=[iD t.chan,iD t.w]++kG t.wh
def ji(q:QG):List D:=[iD q.chan,iD q.w]++(kG q.wh++kG q.da)
theorem Nq(r:RG):(iH r).length=13:=by simp[iH,qv]
theorem F9(r:MG):(jU r).length=27:=by simp[jU,qv]
theorem Np(r:TG):(jh r).length=9:=by simp[jh,qv]
theorem JT(r:QG):(ji r).length=16:=by simp[ji,qv]
theorem mA{l:List RG}:(l.flatMap iH).length=l.length*13:=o9 Nq l
theorem mz{l:List MG}:(l.flatMap jU).length=l.length*27:=o9 F9 l
theorem my{l:List TG}:(l.flatMap jh).length=l.length*9:=o9 Np l
theorem l7{l:List QG}:(l.flatMap ji).length=l.length*16:=o9 JT l
theorem Wj{l:List RG}{k:Nat}(h:k<l.length):(l.flatMap iH)[k*13+1]? =some (iD (nth l k).w):=(uc (j:=1) Nq h (by omega)).trans rfl
theorem yj3{l:List MG}{k:Nat}(h:k<l.length):(l.flatMap jU)[k*27+1]? =some (iD (nth l k).w):=(uc (j:=1) F9 h (by omega)).trans rfl
theorem yj4{l:List TG}{k:Nat}(h:k<l.length):(l.flatMap jh)[k*9+1]? =some (iD (nth l k).w):=(uc (j:=1) Np h (by omega)).trans rfl
theorem yj5{l:List QG}{k:Nat}(h:k<l.length):(l.flatMap ji)[k*16+1]? =some (iD (nth l k).w):=(uc (j:=1) JT h (by omega)).trans rfl
theorem JS{a b c d:Int}{i:Nat}(h:i<4):([.d (.val (.int .i64 a)),.d (.val (.int .i64 b)),.d (.val (.int .i64 c)),.d (.val (.int .i64 d))]:List AV)[i]? =some (.d (.val (.int .i64 (nth [a,b,c,d] i)))):=by
 rcases(show i=0∨i=1∨i=2∨i=3 by omega)with rfl|rfl|rfl|rfl<;>rfl
theorem ye4{a b c d:Int}{i:Nat}(h:i<4):([.val (.int .i64 a),.val (.int .i64 b),.val (.int .i64 c),.val (.int .i64 d)]:List D)[i]? =some (.val (.int .i64 (nth [a,b,c,d] i))):=by
 rcases(show i=0∨i=1∨i=2∨i=3 by omega)with rfl|rfl|rfl|rfl<;>rfl
theorem GG(a b c d:Nat){i:Nat}(h:i<4):nth ([(a:Int),b,c,d]:List Int) i=((nth [a,b,c,d] i:Nat):Int)∧(nth [a,b,c,d] i=a∨nth [a,b,c,d] i=b∨nth [a,b,c,d] i=c∨nth [a,b,c,d] i=d):=by
 rcases(show i=0∨i=1∨i=2∨i=3 by omega)with rfl|rfl|rfl|rfl<;>exact⟨rfl,by simp[nth]⟩
structure FrR (rs:List RG) (ms:List MG) (ts:List TG) (qs:List QG):Prop where
 r1:1≤rs.length
 r3:rs.length≤3
 rw:∀r∈rs,1≤r.w∧r.w≤3
 m1:ms.length≤1
 mw:∀m∈ms,1≤m.w∧m.w≤2∧(m.words=1∨m.words=2∨m.words=4)
 t2:ts.length≤2
 tw:∀t∈ts,1≤t.w∧t.w≤2
 q2:qs.length≤2
 qw:∀q∈qs,1≤q.w∧q.w≤2
 nr:∀r∈rs,r.name.size≤9
 nm:∀m∈ms,m.name.size≤9
def FrK(b:List Int)(i:Nat)(x:AV)(S':av):Prop:=∃(rs:List RG) (ms:List MG) (ts:List TG) (qs:List QG),FrR rs ms ts qs∧
 x= .dR [.agg [.d (sD ⟨#[112]⟩),.d (sD ⟨#[97]⟩),.os 13 0 0 rs.length,.os 27 2 0 ms.length,.os 9 3 0 ts.length,.os 16 5 0 qs.length],.agg [.os 1 1 0 rs.length,.os 1 4 0 ts.length,.os 27 2 0 ms.length,.d (oD true)],.agg [.d (aI b),.d (iD (i+9:Nat))]]∧
 ∃g1 g2 g3,S'=[.cells (ak (rs.flatMap iH)),.cells (ak (rs.map fun r=>iD r.w)),.cells (ak (ms.flatMap jU)),.cells (ak (ts.flatMap jh)),.cells (ak (ts.map fun t=>iD t.w)),.cells (ak (qs.flatMap ji)),.cells g1,.cells g2,.cells g3]
theorem Nu{P:Program}{t:TypeId}{s:ByteArray}(h:s.size≤3):iO P .add t (.string ⟨#[114]⟩) (.string s)=some (.string (⟨#[114]⟩++s)):=jyv (by have:(⟨#[114]⟩:ByteArray).size=1:=rfl;omega)
def eW:bB:=.cells [.d nS,.d nS,.d (.val (.slice none 0 0)),.d (.val (.slice none 0 0)),.d (.val (.slice none 0 0)),.d (.val (.slice none 0 0))]
def iQ:bB:=.cells [.d (.val (.slice none 0 0)),.d (.val (.slice none 0 0)),.d (.val (.slice none 0 0)),.d (oD false)]
def iP:bB:=.cells [.d (.val (.slice none 0 0)),.d (iD 0)]
theorem uY{p q:Prop}(hq:q)(h:p=q:=by
 conv=>lhs;simp -dsimp -implicitDefEqProofs (disch:=first|assumption|omega|(simp only[aH,mA,mz,my,l7]<;>omega)|decide) only[aN,↓reduceIte,Nat.reduceEqDiff,Nat.reduceAdd,D.fix,Int.reduceToNat,Nat.reduceMul,Nat.reduceBNe,Nat.reduceBEq,fJ,bG,eW,iQ,iP,nS,sD,Int.toNat_natCast,lj,bw]):p:=h.mpr hq
theorem Ot{p q:Prop}(hq:q)(h:p=q:=by
 conv=>lhs;simp -dsimp -implicitDefEqProofs (disch:=first|assumption|omega|(simp only[aH,mA,mz,my,l7]<;>omega)|decide) only[aN,↓reduceIte,Nat.reduceEqDiff,Nat.reduceAdd,D.fix,Int.reduceToNat,Nat.reduceMul,Nat.reduceBNe,Nat.reduceBEq,fJ,bG,eW,iQ,iP,nS,sD,Int.toNat_natCast,lj]):p:=h.mpr hq
theorem wm(k:List Nat){m:List Nat}{τ τ1:Fr}{H H1:av}(h:Rt m (fun t=>du k (τ t)) (dg k H) τ1 H1)(a:∀i∈m,k[i]? =some i:=by decide)(b:k.Nodup:=by decide)(c:∀i∈k,i<H.length:=by
 simp[eJ,dg]):Rt m τ H τ1 H1:=Rt.trans (Rt.gc a b c) h
theorem wk{m:List Nat}{τ τ':Fr}{H H':av}(h2:H=H')(h:fw τ τ':=by
 repeat (first|exact cw _|refine cg ?_ (by first|rfl|(simp[aX,mA,mz,my,l7];done)|simp[aX,mA,mz,my,l7, *]))):Rt m τ H τ' H':=Rt.end h h2
theorem zN{p q r:Prop}(e:r)(hq:q)(h:r→p=q:=by
 intro hY
 conv=>lhs;simp -dsimp -implicitDefEqProofs (disch:=first|assumption|omega|(simp only[aH,mA,mz,my,l7]<;>omega)|decide) only[aN,↓reduceIte,Nat.reduceEqDiff,Nat.reduceAdd,D.fix,Int.reduceToNat,Nat.reduceMul,Nat.reduceBNe,Nat.reduceBEq,fJ,bG,eW,iQ,iP,nS,sD,Int.toNat_natCast,lj,bw,hY]):p:=(h e).mpr hq
theorem Ku{p q r:Prop}(e:r)(hq:q)(h:r→p=q:=by
 intro hY
 conv=>lhs;simp -dsimp -implicitDefEqProofs (disch:=first|assumption|omega|(simp only[aH,mA,mz,my,l7]<;>omega)|decide) only[aN,↓reduceIte,Nat.reduceEqDiff,Nat.reduceAdd,D.fix,Int.reduceToNat,Nat.reduceMul,Nat.reduceBNe,Nat.reduceBEq,mC,fJ,bG,eW,iQ,iP,nS,sD,Int.toNat_natCast,lj,Nu zc,Nu kD,bw,hY]):p:=(h e).mpr hq
theorem zM{p q r:Prop}(e:r)(hq:q)(h:r→p=q:=by
 intro hY
 conv=>lhs;simp -dsimp -implicitDefEqProofs (disch:=first|assumption|omega|(simp only[aH,mA,mz,my,l7]<;>omega)|decide) only[aN,↓reduceIte,Nat.reduceEqDiff,Nat.reduceAdd,D.fix,Int.reduceToNat,Nat.reduceMul,Nat.reduceBNe,Nat.reduceBEq,mC,fJ,bG,eW,iQ,iP,nS,sD,Int.toNat_natCast,lj,bw,hY]):p:=(h e).mpr hq
theorem X4{p q:Prop}(hq:q)(h:p=q:=by
 conv=>lhs;simp -dsimp -implicitDefEqProofs (disch:=first|assumption|omega|(simp only[aH,mA,mz,my,l7]<;>omega)|decide) only[aN,↓reduceIte,Nat.reduceEqDiff,Nat.reduceAdd,D.fix,Int.reduceToNat,Nat.reduceMul,Nat.reduceBNe,Nat.reduceBEq,mC,fJ,bG,eW,iQ,iP,nS,sD,Int.toNat_natCast,lj,bw]):p:=h.mpr hq
theorem F8{p:Prop}(h:p:=by
 first|rfl|(simp only[cP,Nat.reduceAdd,↓reduceIte,Nat.reduceEqDiff,fJ,bG,eW,iQ,iP,nS,sD,Int.toNat_natCast,lj];first|done|rfl)):p:=h
theorem DU{p q:Prop}(hq:q)(h:p=q:=by
 conv=>lhs;simp only[cP,Nat.reduceAdd,↓reduceIte,Nat.reduceEqDiff,fJ,bG,eW,iQ,iP,nS,sD,Int.toNat_natCast,lj]):p:=h.mpr hq
theorem jsa(b:List Int)(i:Nat)(hb:rJ b)(hl:b.length≤maxLen)(hi:i≤1000000):cY prog [] 54 [fJ b i] ([.free,.free,.free,.free,.free,.free,.free,.free,.free]) (FrK b i):=by
 refine fX (fn:=f54) (by kernel_rfl) func54 rfl (cn rfl) fun c hc hp=>?_
 refine LF ?_
 obtain⟨y,hy⟩:∃y:Nat,nT b i=y:=⟨(nT b i).toNat,by have:=(rG hb i).1;omega⟩
 have Pf:=(rG hb i).2
 have wq:=zX b i hb hl
 rw[hy]at wq
 have Pe:(y:Int) % 4=((y % 4:Nat):Int):=by omega
 have l4:y % 4<4:=Nat.mod_lt _ (by decide)
 obtain⟨p1,p2⟩:=GG 1 1 2 3 l4
 obtain⟨nr,A1⟩:∃nr,nr=nth [1,1,2,3] (y % 4):=⟨_,rfl⟩
 rw[←A1]at p1 p2
 have Ld:=JS (a:=1) (b:=1) (c:=2) (d:=3) l4
 rw[show nth ([1,1,2,3]:List Int) (y % 4)=(nr:Int) from p1]at Ld
 refine ah (uY ·) ?_
 refine aZ hp ax hc rfl fun K2 bS=>?_
 refine uY ?_
 refine bx (wq) rfl ?_
 refine uY ?_
 refine bS _ _ ?_
 refine ah (uY ·) ?_
 refine aD fun K4 dE=>?_
 refine ah (Ot ·) ?_
 refine aW ?_
 refine cU hp (fun τ' H' mm=>∃(k:Nat) (rs:List RG),(k≤nr∧rs.length=k∧∀r∈rs,(1≤r.w∧r.w≤3)∧r.name.size≤9)∧mm=nr - k∧H'=[.cells (ak (bG b i)),eW,iQ,iP,.cells [.d (sD ⟨#[112]⟩),.d (sD ⟨#[97]⟩),.os 13 6 0 rs.length,.d (.val (.slice none 0 0)),.d (.val (.slice none 0 0)),.d (.val (.slice none 0 0))],.cells [.os 1 7 0 rs.length,.d (.val (.slice none 0 0)),.d (.val (.slice none 0 0)),.d (oD true)],.cells (ak (rs.flatMap iH)),.cells (ak (rs.map fun r=>iD r.w))]∧τ'=aF [(1,.op 0 0),(2,.op 1 0),(3,.op 2 0),(4,.op 3 0),(5,.d (iD y)),(6,.op 4 0),(7,.op 5 0),(8,.d (iD k))]) (nr) ?_ ⟨0,[],⟨cF _,rfl,fun r hr=>by cases hr⟩,rfl,rfl,rfl⟩ ?_
 ·refine Rt.trans (Rt.fm 13 2 13 rfl rfl) ?_
  refine Rt.trans (Rt.fm 14 0 1 rfl rfl) ?_
  refine wm [9,10,11,12,13,14,15,16] ?_
  refine wk ?_
  exact F8
 rintro τ' H' mm ⟨k,rs,⟨hk,p7,tI⟩,rfl,rfl,rfl⟩
 refine aD fun K6 cK=>?_
 refine ah (zN (aw Pe Ld) ·) ?_
 refine bf rfl (fun ht=>?_) (fun ht=>?_)
 ·have aA:k<nr:=by simp at ht;omega
  obtain⟨n,hn⟩:∃n:Nat,nT b (i+(1+k))=n:=⟨(nT b (i+(1+k))).toNat,by have:=(rG hb (i+(1+k))).1;omega⟩
  have dA:=(rG hb (i+(1+k))).2
  have A2:=zX b (i+(1+k)) hb hl
  rw[hn]at A2
  have QJ:(1:Int)+(k:Int)=((1+k:Nat):Int):=by omega
  have p8:(n:Int) % 4=((n % 4:Nat):Int):=by omega
  have XJ:n % 4<4:=Nat.mod_lt _ (by decide)
  obtain⟨u1,u2⟩:=GG 1 2 1 3 XJ
  obtain⟨w,hw⟩:∃w,w=nth [1,2,1,3] (n % 4):=⟨_,rfl⟩
  rw[←hw]at u1 u2
  have x8:=JS (a:=1) (b:=2) (c:=1) (d:=3) XJ
  rw[show nth ([1,2,1,3]:List Int) (n % 4)=(w:Int) from u1]at x8
  have Et:(n:Int) / 4=((n / 4:Nat):Int):=by omega
  have zh:(n:Int) / 16=((n / 16:Nat):Int):=by omega
  have tL:((n / 16:Nat):Int) % 3=((n / 16 % 3:Nat):Int):=by omega
  have l163:n / 16 % 3<3:=Nat.mod_lt _ (by decide)
  have hu:IntKind.u64.wrap (w:Int)=w:=Kz (by omega) (by omega)
  have hs:=Yg (w:=w) (by omega)
  have hm:=jcv (v:=n / 4) (w:=w) (by omega) (by omega)
  have gp:=Nat.two_pow_pos w
  have Lb:2^w≤256:=Nat.le_trans (Nat.pow_le_pow_right (by decide) (show w≤8 by omega)) (show 2^8≤256 by decide)
  obtain⟨M,hM⟩:∃M:Nat,2^w=M:=⟨_,rfl⟩
  rw[hM]at hs hm gp Lb
  obtain⟨s0,zc,fK⟩:=jhw (n:=k) (by omega)
  obtain⟨s1,kD,tO⟩:=jhw (n:=n / 16 % 3) (by omega)
  refine bg (cK _ _ ?_)
  refine aD fun K8 dP=>?_
  refine aW ?_
  refine aZ hp ax hc rfl fun K9 cX=>?_
  refine zN QJ ?_
  refine bx (yU b i (1+k) (by omega) (by omega)) rfl ?_
  refine zN QJ ?_
  refine bx (A2) rfl ?_
  refine zN QJ ?_
  refine cX _ _ ?_
  refine ah (zN (aw p8 x8) ·) ?_
  refine jP ax hp hc mixed rfl [(0,[]),(1,[]),(2,[]),(5,[]),(6,[]),(7,[]),(8,[]),(9,[]),(10,[]),(11,[]),(12,[]),(13,[]),(14,[]),(15,[]),(16,[]),(17,[]),(3,[1]),(4,[]),(18,[1]),(19,[]),(20,[1]),(21,[]),(22,[]),(23,[]),(24,[]),(25,[])] [[],[0],[],[2],[2,3],[],[],[6],[],[8],[8,9],[8,9,10],[6,7,8,9,10,11],[],[13],[],[15],[15,16],[2,3,15,16,17],[2,3,15,16,17,18],[2,3,13,14,15,16,17,18,19],[2,3,4,5,6,7,8,9,10,11,12,13,14,15,16,17,18,19,20],[2,3,4,5,6,7,8,9,10,11,12,13,14,15,16,17,18,19,20,21],[0,1,2,3,4,5,6,7,8,9,10,11,12,13,14,15,16,17,18,19,20,21,22],[0,1,2,3,4,5,6,7,8,9,10,11,12,13,14,15,16,17,18,19,20,21,22,23],[0,1,2,3,4,5,6,7,8,9,10,11,12,13,14,15,16,17,18,19,20,21,22,23,24]] 1 (by kernel_rfl) fun mh cQ=>?_
  refine Ku (aw Et (aw zh (aw tL (aw hu (aw hs hm))))) ?_
  refine qy (fK) rfl ?_
  refine Ku (aw Et (aw zh (aw tL (aw hu (aw hs hm))))) ?_
  refine qy (tO) rfl ?_
  refine Ku (aw Et (aw zh (aw tL (aw hu (aw hs hm))))) ?_
  refine OU (ZB (n / 16) (⟨#[114]⟩++s1) (by omega)) rfl fun r hr=>?_
  obtain⟨rk,rf,rn,rfl⟩:=hr;simp only[sD]
  refine Ku (aw Et (aw zh (aw tL (aw hu (aw hs hm))))) ?_
  refine cQ _ _ ?_
  refine fj (uY ·) (dP _ _ ?_)
  refine bT hp ax hc rfl fun nV df=>?_
  refine uY ?_
  refine df _ _ ⟨_,_,_,?_,⟨k+1,rs++[⟨⟨#[114]⟩++s0,w,n / 4 % M,none,rk,rf,rn⟩],⟨by omega,by simp[p7],Mf tI ⟨⟨by show 1≤w;omega,by show w≤3;omega⟩,by show((⟨#[114]⟩:ByteArray)++s0).size≤9;rw[ByteArray.size_append,show(⟨#[114]⟩:ByteArray).size=1 from rfl];omega⟩⟩,rfl,rfl,rfl⟩,?_⟩
  ·first|omega|(simp only[List.length_cons];omega)|(dsimp only;omega)
  ·refine wm [0,1,2,3,4,5,11,13] ?_
   refine wk ?_
   refine DU ?_;simp[iH,kG,Ec,sD,iD,nS,oD]
 ·have bM:k=nr:=by simp at ht;omega
  have hyq:(y:Int) / 4=((y / 4:Nat):Int):=by omega
  have Pc:((y / 4:Nat):Int) % 4=((y / 4 % 4:Nat):Int):=by omega
  obtain⟨n2,dA⟩:∃n:Nat,nT b (i+4)=n:=⟨(nT b (i+4)).toNat,by have:=(rG hb (i+4)).1;omega⟩
  have hn22:=(rG hb (i+4)).2
  have G2:=zX b (i+4) hb hl
  rw[dA]at G2
  have FX:n2 / 2 % 4<4:=Nat.mod_lt _ (by decide)
  obtain⟨v1,v2⟩:=GG 2 1 4 2 FX
  obtain⟨wo,hwo⟩:∃w,w=nth [2,1,4,2] (n2 / 2 % 4):=⟨_,rfl⟩
  rw[←hwo]at v1 v2
  have PS:=ye4 (a:=2) (b:=1) (c:=4) (d:=2) FX
  rw[show nth ([2,1,4,2]:List Int) (n2 / 2 % 4)=(wo:Int) from v1]at PS
  have G6:(n2:Int) / 2=((n2 / 2:Nat):Int):=by omega
  have A3:((n2 / 2:Nat):Int) % 4=((n2 / 2 % 4:Nat):Int):=by omega
  have G5:(n2:Int) % 2=((n2 % 2:Nat):Int):=by omega
  have G7:(n2:Int) / 8=((n2 / 8:Nat):Int):=by omega
  have ou:(1:Int)+((n2 % 2:Nat):Int)=((1+n2 % 2:Nat):Int):=by omega
  have FY:n2 % 2<2:=Nat.mod_lt _ (by decide)
  refine cJ (dE _ _ ?_)
  refine aD fun re dT=>?_
  have Ib:∀τ' H',(∃τ1 H1,∃(ms:List MG),(ms.length≤1∧∀m∈ms,(1≤m.w∧m.w≤2∧(m.words=1∨m.words=2∨m.words=4))∧m.name.size≤9)∧H1=[.cells (ak (bG b i)),eW,iQ,iP,.cells [.d (sD ⟨#[112]⟩),.d (sD ⟨#[97]⟩),.os 13 6 0 rs.length,.os 27 8 0 ms.length,.d (.val (.slice none 0 0)),.d (.val (.slice none 0 0))],.cells [.os 1 7 0 rs.length,.d (.val (.slice none 0 0)),.os 27 8 0 ms.length,.d (oD true)],.cells (ak (rs.flatMap iH)),.cells (ak (rs.map fun r=>iD r.w)),.cells (ak (ms.flatMap jU))]∧τ1=aF [(1,.op 0 0),(2,.op 1 0),(3,.op 2 0),(4,.op 3 0),(5,.d (iD y)),(6,.op 4 0),(7,.op 5 0)]∧Rt [] τ' H' τ1 H1)→re τ' H':=by
   rintro τ' H' ⟨_,_,ms,⟨p9,zi⟩,rfl,rfl,qL⟩
   refine dT _ _ (bC hp qL ?_)
   clear qL
   refine aD fun sY eG=>?_
   have XH:y / 16 % 4<4:=Nat.mod_lt _ (by decide)
   obtain⟨q1,q2⟩:=GG 1 0 1 2 XH
   obtain⟨nt,Cq⟩:∃nt,nt=nth [1,0,1,2] (y / 16 % 4):=⟨_,rfl⟩
   rw[←Cq]at q1 q2
   have hl4:=JS (a:=1) (b:=0) (c:=1) (d:=2) XH
   rw[show nth ([1,0,1,2]:List Int) (y / 16 % 4)=(nt:Int) from q1]at hl4
   have Pg:(y:Int) / 16=((y / 16:Nat):Int):=by omega
   have GO:((y / 16:Nat):Int) % 4=((y / 16 % 4:Nat):Int):=by omega
   refine ah (Ot ·) ?_
   refine aW ?_
   refine cU hp (fun τ' H' mm=>∃(k:Nat) (ts:List TG),(k≤nt∧ts.length=k∧∀t∈ts,1≤t.w∧t.w≤2)∧mm=nt - k∧H'=[.cells (ak (bG b i)),eW,iQ,iP,.cells [.d (sD ⟨#[112]⟩),.d (sD ⟨#[97]⟩),.os 13 6 0 rs.length,.os 27 8 0 ms.length,.os 9 9 0 ts.length,.d (.val (.slice none 0 0))],.cells [.os 1 7 0 rs.length,.os 1 10 0 ts.length,.os 27 8 0 ms.length,.d (oD true)],.cells (ak (rs.flatMap iH)),.cells (ak (rs.map fun r=>iD r.w)),.cells (ak (ms.flatMap jU)),.cells (ak (ts.flatMap jh)),.cells (ak (ts.map fun t=>iD t.w))]∧τ'=aF [(1,.op 0 0),(2,.op 1 0),(3,.op 2 0),(4,.op 3 0),(5,.d (iD y)),(6,.op 4 0),(7,.op 5 0),(12,.d (iD k))]) (nt) ?_ ⟨0,[],⟨cF _,rfl,fun r hr=>by cases hr⟩,rfl,rfl,rfl⟩ ?_
   ·refine Rt.trans (Rt.fm 4 4 9 rfl rfl) ?_
    refine Rt.trans (Rt.fm 5 1 1 rfl rfl) ?_
    refine wm [0,1,2,3,4,5,6,7,8,9,10] ?_
    refine wk ?_
    exact F8
   rintro τ' H' mm ⟨k,ts,⟨qP,vt,Cm⟩,rfl,rfl,rfl⟩
   refine aD fun rZ ey=>?_
   refine ah (zN (aw Pg (aw GO hl4)) ·) ?_
   refine bf rfl (fun ht=>?_) (fun ht=>?_)
   ·have aA:k<nt:=by simp at ht;omega
    obtain⟨n,hn⟩:∃n:Nat,nT b (i+(5+k))=n:=⟨(nT b (i+(5+k))).toNat,by have:=(rG hb (i+(5+k))).1;omega⟩
    have dA:=(rG hb (i+(5+k))).2
    have A2:=zX b (i+(5+k)) hb hl
    rw[hn]at A2
    have QH:(5:Int)+(k:Int)=((5+k:Nat):Int):=by omega
    have sF:(n:Int) % 2=((n % 2:Nat):Int):=by omega
    have ou:(1:Int)+((n % 2:Nat):Int)=((1+n % 2:Nat):Int):=by omega
    have FY:n % 2<2:=Nat.mod_lt _ (by decide)
    refine bg (ey _ _ ?_)
    refine aD fun rY eN=>?_
    refine aW ?_
    refine jP ax hp hc mixed rfl [(0,[]),(1,[]),(2,[]),(3,[]),(4,[]),(5,[]),(6,[1]),(7,[1]),(8,[]),(9,[]),(10,[]),(11,[]),(12,[]),(13,[]),(14,[])] [[],[0],[],[],[],[4],[3,4,5],[3,4,5,6],[3,4,5,6,7],[3,4,5,6,7,8],[2,3,4,5,6,7,8,9],[2,3,4,5,6,7,8,9,10],[0,1,2,3,4,5,6,7,8,9,10,11],[0,1,2,3,4,5,6,7,8,9,10,11,12],[0,1,2,3,4,5,6,7,8,9,10,11,12,13]] 1 (by kernel_rfl) fun sX fa=>?_
    refine zM (aw QH (aw sF ou)) ?_
    refine qy (yU b i (5+k) (by omega) (by omega)) rfl ?_
    refine zM (aw QH (aw sF ou)) ?_
    refine qy (A2) rfl ?_
    refine zM (aw QH (aw sF ou)) ?_
    refine fa _ _ ?_
    refine bC hp (τ':=aF [(1,.op 0 0),(2,.op 1 0),(3,.op 2 0),(4,.op 3 0),(5,.d (iD y)),(6,.op 4 0),(7,.op 5 0),(12,.d (iD k))]) (H':=[.cells (ak (bG b i)),eW,iQ,iP,.cells [.d (sD ⟨#[112]⟩),.d (sD ⟨#[97]⟩),.os 13 6 0 rs.length,.os 27 8 0 ms.length,.os 9 9 0 (ts++[TG.mk k (1+n % 2) none]).length,.d (.val (.slice none 0 0))],.cells [.os 1 7 0 rs.length,.os 1 10 0 ts.length,.os 27 8 0 ms.length,.d (oD true)],.cells (ak (rs.flatMap iH)),.cells (ak (rs.map fun r=>iD r.w)),.cells (ak (ms.flatMap jU)),.cells (ak ((ts++[TG.mk k (1+n % 2) none]).flatMap jh)),.cells (ak (ts.map fun t=>iD t.w))]) ?_ ?_
    ·refine wm [0,1,2,3,4,5,6,7,8,13,10] ?_
     refine wk ?_
     refine DU ?_;simp[jh,kG,Ec,iD,nS,sD,oD]
    have hkt:k<(ts++[TG.mk k (1+n % 2) none]).length:=by simp;omega
    have hnk:nth (ts++[TG.mk k (1+n % 2) none]) k=TG.mk k (1+n % 2) none:=by rw[←vt,zrc]
    refine z8 ax hc mixed rfl (q:=2) (by kernel_rfl) (by kernel_rfl) fun yj im=>?_
    simp -dsimp -implicitDefEqProofs (disch:=first|assumption|omega|(simp only[aH,mA,mz,my,l7]<;>omega)|decide) only[aN,↓reduceIte,Nat.reduceEqDiff,Nat.reduceAdd,D.fix,Int.reduceToNat,Nat.reduceMul,Nat.reduceBNe,Nat.reduceBEq,fJ,bG,eW,iQ,iP,nS,sD,Int.toNat_natCast,lj,yj4,hnk,bw]
    refine im _ _ (eN _ _ ?_)
    refine bT hp ax hc rfl fun yi ik=>?_
    refine uY ?_
    refine ik _ _ ⟨_,_,_,?_,⟨k+1,ts++[TG.mk k (1+n % 2) none],⟨by omega,by simp[vt],Mf Cm ⟨by show 1≤1+n % 2;omega,by show 1+n % 2≤2;omega⟩⟩,rfl,rfl,rfl⟩,?_⟩
    ·first|omega|(simp only[List.length_cons];omega)|(dsimp only;omega)
    ·refine wm [0,1,2,3,4,5,6,7,8,9,12] ?_
     refine wk ?_
     refine DU ?_;simp[iD,oD,sD,nS]
   ·have Hh:k=nt:=by simp at ht;omega
    have FW:y / 64 % 4<4:=Nat.mod_lt _ (by decide)
    obtain⟨r1,r2⟩:=GG 1 1 0 2 FW
    obtain⟨nq,Et⟩:∃nq,nq=nth [1,1,0,2] (y / 64 % 4):=⟨_,rfl⟩
    rw[←Et]at r1 r2
    have hl5:=JS (a:=1) (b:=1) (c:=0) (d:=2) FW
    rw[show nth ([1,1,0,2]:List Int) (y / 64 % 4)=(nq:Int) from r1]at hl5
    have Pd:(y:Int) / 64=((y / 64:Nat):Int):=by omega
    have GM:((y / 64:Nat):Int) % 4=((y / 64 % 4:Nat):Int):=by omega
    refine cJ (eG _ _ ?_)
    refine aD fun vA fM=>?_
    refine ah (Ot ·) ?_
    refine aW ?_
    refine cU hp (fun τ' H' mm=>∃(k:Nat) (qs:List QG),(k≤nq∧qs.length=k∧∀q∈qs,1≤q.w∧q.w≤2)∧mm=nq - k∧H'=[.cells (ak (bG b i)),eW,iQ,iP,.cells [.d (sD ⟨#[112]⟩),.d (sD ⟨#[97]⟩),.os 13 6 0 rs.length,.os 27 8 0 ms.length,.os 9 9 0 ts.length,.os 16 11 0 qs.length],.cells [.os 1 7 0 rs.length,.os 1 10 0 ts.length,.os 27 8 0 ms.length,.d (oD true)],.cells (ak (rs.flatMap iH)),.cells (ak (rs.map fun r=>iD r.w)),.cells (ak (ms.flatMap jU)),.cells (ak (ts.flatMap jh)),.cells (ak (ts.map fun t=>iD t.w)),.cells (ak (qs.flatMap ji))]∧τ'=aF [(1,.op 0 0),(2,.op 1 0),(3,.op 2 0),(4,.op 3 0),(5,.d (iD y)),(6,.op 4 0),(7,.op 5 0),(13,.d (iD k))]) (nq) ?_ ⟨0,[],⟨cF _,rfl,fun r hr=>by cases hr⟩,rfl,rfl,rfl⟩ ?_
    ·refine Rt.trans (Rt.fm 4 5 16 rfl rfl) ?_
     refine wm [0,1,2,3,4,5,6,7,8,9,10,12] ?_
     refine wk ?_
     exact F8
    rintro τ' H' mm ⟨k,qs,⟨Hj,wF,Ep⟩,rfl,rfl,rfl⟩
    refine aD fun C0 jY=>?_
    refine ah (zN (aw Pd (aw GM hl5)) ·) ?_
    refine bf rfl (fun ht=>?_) (fun ht=>?_)
    ·have aA:k<nq:=by simp at ht;omega
     obtain⟨n,hn⟩:∃n:Nat,nT b (i+(7+k))=n:=⟨(nT b (i+(7+k))).toNat,by have:=(rG hb (i+(7+k))).1;omega⟩
     have dA:=(rG hb (i+(7+k))).2
     have A2:=zX b (i+(7+k)) hb hl
     rw[hn]at A2
     have QF:(7:Int)+(k:Int)=((7+k:Nat):Int):=by omega
     have sF:(n:Int) % 2=((n % 2:Nat):Int):=by omega
     have ou:(1:Int)+((n % 2:Nat):Int)=((1+n % 2:Nat):Int):=by omega
     have y9:(ts.length:Int)+(k:Int)=((ts.length+k:Nat):Int):=by omega
     have FY:n % 2<2:=Nat.mod_lt _ (by decide)
     refine bg (jY _ _ ?_)
     refine aD fun Is nv=>?_
     refine aW ?_
     refine u5 ax hp hc mixed rfl [(0,[]),(1,[]),(2,[]),(3,[]),(4,[]),(5,[]),(6,[]),(7,[]),(8,[]),(9,[]),(10,[1,3]),(11,[1,3]),(12,[]),(13,[]),(14,[]),(15,[]),(16,[]),(17,[]),(18,[])] [[],[0],[],[2],[2,3],[],[2,3,4,5],[],[],[8],[7,8,9],[7,8,9,10],[7,8,9,10,11],[7,8,9,10,11,12],[2,3,4,5,6,7,8,9,10,11,12,13],[2,3,4,5,6,7,8,9,10,11,12,13,14],[0,1,2,3,4,5,6,7,8,9,10,11,12,13,14,15],[0,1,2,3,4,5,6,7,8,9,10,11,12,13,14,15,16],[0,1,2,3,4,5,6,7,8,9,10,11,12,13,14,15,16,17]] 1 (by kernel_rfl) fun Bk jX=>?_
     refine zM (aw QF (aw sF (aw ou y9))) ?_
     refine qy (yU b i (7+k) (by omega) (by omega)) rfl ?_
     refine zM (aw QF (aw sF (aw ou y9))) ?_
     refine qy (A2) rfl ?_
     refine zM (aw QF (aw sF (aw ou y9))) ?_
     refine jX _ _ (nv _ _ ?_)
     refine bT hp ax hc rfl fun Ir nu=>?_
     refine uY ?_
     refine nu _ _ ⟨_,_,_,?_,⟨k+1,qs++[⟨ts.length+k,1+n % 2,none,none⟩],⟨by omega,by simp[wF],Mf Ep ⟨by show 1≤1+n % 2;omega,by show 1+n % 2≤2;omega⟩⟩,rfl,rfl,rfl⟩,?_⟩
     ·first|omega|(simp only[List.length_cons];omega)|(dsimp only;omega)
     ·refine wm [0,1,2,3,4,5,6,7,8,9,10,14] ?_
      refine wk ?_
      refine DU ?_;simp[ji,kG,Ec,iD,nS,oD,sD]
    ·have Hg:k=nq:=by simp at ht;omega
     refine cJ (fM _ _ ?_)
     refine jP ax hp hc mixed rfl [(0,[]),(1,[]),(2,[]),(3,[0,1]),(4,[1]),(5,[]),(6,[])] [[],[],[],[2],[0,2,3],[0,1,2,3,4],[0,1,2,3,4,5]] 0 (by kernel_rfl) fun Bj jE=>?_
     refine X4 ?_
     refine qy (yU b i 9 (by omega) (by omega)) rfl ?_
     refine X4 ?_
     refine jE _ _ ?_
     refine bC hp (τ':=aF [(2,.op 6 0),(3,.op 7 0),(4,.op 8 0)]) (H':=[.cells (ak (rs.flatMap iH)),.cells (ak (rs.map fun r=>iD r.w)),.cells (ak (ms.flatMap jU)),.cells (ak (ts.flatMap jh)),.cells (ak (ts.map fun t=>iD t.w)),.cells (ak (qs.flatMap ji)),.cells [.d (sD ⟨#[112]⟩),.d (sD ⟨#[97]⟩),.os 13 0 0 rs.length,.os 27 2 0 ms.length,.os 9 3 0 ts.length,.os 16 5 0 qs.length],.cells [.os 1 1 0 rs.length,.os 1 4 0 ts.length,.os 27 2 0 ms.length,.d (oD true)],.cells [.d (aI b),.d (iD (i+9:Nat))]]) ?_ ?_
     ·refine wm [6,7,8,9,10,11,1,2,3] ?_
      refine wk ?_
      refine DU ?_;simp[aI,iD,oD,sD]
     refine aM ?_
     try dsimp only[cC,cI]
     refine jec rfl ?_
     simp -dsimp -implicitDefEqProofs (disch:=first|assumption|omega|(simp only[aH,mA,mz,my,l7]<;>omega)|decide) only[aN,↓reduceIte,Nat.reduceEqDiff,Nat.reduceAdd,D.fix,Int.reduceToNat,Nat.reduceMul,Nat.reduceBNe,Nat.reduceBEq,fJ,bG,eW,iQ,iP,nS,sD,Int.toNat_natCast,lj,BW,Fp,MH,MF,I5,I4]
     show ∃_,_
     refine⟨rs,ms,ts,qs,⟨by omega,by omega,fun r hr=>(tI r hr).1,p9,fun m hm=>(zi m hm).1,by omega,Cm,by omega,Ep,fun r hr=>(tI r hr).2,fun m hm=>(zi m hm).2⟩,?_,_,_,_,rfl⟩
     simp[aI,iD,oD,sD]
  refine ah (zN (aw hyq Pc) ·) ?_
  refine bf rfl (fun ht=>?_) (fun ht=>?_)
  ·refine aZ hp ax hc rfl fun QX sV=>?_
   refine uY ?_
   refine bx (yU b i 4 (by omega) (by omega)) rfl ?_
   refine uY ?_
   refine bx (G2) rfl ?_
   refine uY ?_
   refine sV _ _ ?_
   refine bC hp (τ':=aF [(1,.op 0 0),(2,.op 1 0),(3,.op 2 0),(4,.op 3 0),(5,.d (iD y)),(6,.op 4 0),(7,.op 5 0),(11,.d (iD n2))]) (H':=[.cells (ak (bG b i)),eW,iQ,iP,.cells [.d (sD ⟨#[112]⟩),.d (sD ⟨#[97]⟩),.os 13 6 0 rs.length,.os 27 8 0 0,.d (.val (.slice none 0 0)),.d (.val (.slice none 0 0))],.cells [.os 1 7 0 rs.length,.d (.val (.slice none 0 0)),.d (.val (.slice none 0 0)),.d (oD true)],.cells (ak (rs.flatMap iH)),.cells (ak (rs.map fun r=>iD r.w)),.cells []]) ?_ ?_
   ·refine Rt.trans (Rt.fm 4 3 27 rfl rfl) ?_
    refine wm [0,1,2,3,4,5,6,7,9] ?_
    refine wk ?_
    exact F8
   refine jP ax hp hc mixed rfl [(0,[]),(1,[]),(2,[]),(3,[]),(4,[]),(5,[]),(6,[]),(7,[]),(8,[]),(9,[]),(10,[]),(11,[]),(12,[]),(13,[1,10]),(14,[]),(15,[]),(16,[]),(17,[]),(18,[])] [[],[0],[],[2],[2,3],[],[],[6],[6,7],[5,6,7,8],[5,6,7,8,9],[],[11],[11,12],[2,3,4,5,6,7,8,9,10,11,12,13],[2,3,4,5,6,7,8,9,10,11,12,13,14],[0,1,2,3,4,5,6,7,8,9,10,11,12,13,14,15],[0,1,2,3,4,5,6,7,8,9,10,11,12,13,14,15,16],[0,1,2,3,4,5,6,7,8,9,10,11,12,13,14,15,16,17]] 2 (by kernel_rfl) fun EI lD=>?_
   refine zM (aw G6 (aw A3 (aw G5 (aw G7 (aw ou PS))))) ?_
   refine OU (ZB (n2 / 8) ⟨#[109,101,109,48]⟩ (by omega)) rfl fun r hr=>?_
   obtain⟨rk,rf,rn,rfl⟩:=hr;simp only[sD]
   refine zM (aw G6 (aw A3 (aw G5 (aw G7 (aw ou PS))))) ?_
   refine lD _ _ ?_
   refine bT hp ax hc rfl fun Bi jD=>?_
   refine uY ?_
   refine jD _ _ (Ib _ _ ⟨_,_,[⟨⟨#[109,101,109,48]⟩,1+n2 % 2,wo,none,none,none,rk,rf,rn⟩],⟨bJ _,fun m hm=>by rw[rN.1 hm];exact⟨⟨by show 1≤1+n2 % 2;omega,by show 1+n2 % 2≤2;omega,by show wo=1∨wo=2∨wo=4;omega⟩,by show(⟨#[109,101,109,48]⟩:ByteArray).size≤9;decide⟩⟩,rfl,rfl,?_⟩)
   refine wm [0,1,2,3,4,5,6,7,11] ?_
   refine wk ?_
   refine DU ?_;simp[jU,kG,Ec,sD,iD,nS,oD,ak]
  ·refine bg (Ib _ _ ⟨_,_,[],⟨cF _,fun m hm=>by cases hm⟩,rfl,rfl,?_⟩)
   refine Rt.trans (Rt.fm 4 3 27 rfl rfl) ?_
   refine Rt.trans (Rt.cell (id:=5) (j:=2) rfl rfl (nC.nil 27 9 0)) ?_
   refine wm [0,1,2,3,4,5,6,7,9] ?_
   refine wk ?_
   exact F8
end Go.Proofs.YtapjobndmmkanaaGreat
