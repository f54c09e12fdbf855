/- Processes that bytes describe: the frame. -/
import Derived.Test.YtapjobndmmkanaaGreatQr
import Derived.Test.YtapjobndmmkanaaGreatVd
set_option linter.unusedVariables false
set_option linter.unusedSimpArgs false
set_option maxRecDepth 100000
set_option maxHeartbeats 4000000
namespace Go.Proofs.YtapjobndmmkanaaGreat
open Go.Proofs.Tryz
open Go Go.RowKit
theorem yc2{P:Program}{t:TypeId}{a b:ByteArray}(h:a.size+b.size≤1000000):gT P .add t (.string a) (.string b)=some (.string (a++b)):=by simp[gT,h]
theorem np.agg(cs:List D):np (.d (.agg cs)) (.agg (cs.map .d)):=fun w pl own v h=>by
 cases h with
 |d _ _ h=>
  cases h with
  |agg _ vs hl hx=>
   refine .agg _ vs (by simpa using hl) fun j x hj=>?_
   rw[List.getElem?_map,cA]at hj
   obtain⟨y,hy,rfl⟩:=hj
   exact .d _ _ (hx j y hy)
theorem cM.dag{P:Program}{ks:List Nat}{f:FuncId}{cs:List D}{xs:List AV}{S:ak}{K:AV→ak→Prop}(h:cM P ks f (.agg (cs.map .d)::xs) S K):cM P ks f (.d (.agg cs)::xs) S K:=
 ⟨h.1,fun E w pl vals hl hx hh hE=>h.2 E w pl vals (by simpa using hl) (fun j y hj=>by
  cases j with
  |zero=>cases hj;exact np.agg cs _ _ _ _ (hx 0 _ rfl)
  |succ j=>exact hx (j+1) y hj) hh hE⟩
theorem jgh{P:Program}{fn:Func}{Q:AV→ak→Prop}{τ:Fr}{H:ak}{t u v:Tmp}{ta tb tc:TypeId}(h:fn.results.toList=[.cell t ta,.cell u tb,.cell v tc])
  (hq:oK (ff P H.length H ta (τ t)) (tg fun x=>oK (ff P H.length H tb (τ u)) (tg fun y=>oK (ff P H.length H tc (τ v)) (tg fun z=>Q (.dc [x,y,z]) H)))):mQ P fn Q .ret τ H:=by
 obtain⟨x,h1,y,h2,z,h3,h4⟩:=hq
 show oG P τ H fn.results.toList _
 rw[h];exact⟨x,AA h1,y,AA h2,z,AA h3,h4⟩
theorem O5{p q:Prop}(hq:q)(h:p=q:=by
 conv=>lhs;simp -dsimp -implicitDefEqProofs (disch:=first|assumption|omega|(simp only[aK,jV,gP]<;>omega)|decide) only[aP,↓reduceIte,Nat.reduceEqDiff,Nat.reduceAdd,D.fix,Int.reduceToNat,Nat.reduceMul,Nat.reduceBNe,Nat.reduceBEq,fF,bo,cY,nI,cg,er,gJ,gI,bw]):p:=h.mpr hq
theorem EK{p q:Prop}(hq:q)(h:p=q:=by
 conv=>lhs;simp -dsimp -implicitDefEqProofs (disch:=first|assumption|omega|(simp only[aK,jV,gP]<;>omega)|decide) only[aP,↓reduceIte,Nat.reduceEqDiff,Nat.reduceAdd,D.fix,Int.reduceToNat,Nat.reduceMul,Nat.reduceBNe,Nat.reduceBEq,mz,fF,bo,cY,nI,cg,er,gJ,gI,bw]):p:=h.mpr hq
theorem W6{m:List Nat}{τ τ':Fr}{H H':ak}(h2:H=H')(h:fm τ τ':=by
 repeat (first|exact bT _|refine bM ?_ (by first|rfl|(simp[aR,jV,gP];done)|simp[aR,jV,gP, *]))):Rt m τ H τ' H':=Rt.end h h2
theorem YS{p q:Prop}(hq:q)(h:p=q:=by
 conv=>lhs;simp -dsimp -implicitDefEqProofs (disch:=first|assumption|omega|(simp only[aK,jV,gP]<;>omega)|decide) only[aP,↓reduceIte,Nat.reduceEqDiff,Nat.reduceAdd,D.fix,Int.reduceToNat,Nat.reduceMul,Nat.reduceBNe,Nat.reduceBEq,fF,bo,cY,nI,cg,er,gJ,gI,FW,PN]):p:=h.mpr hq
theorem W5{p q:Prop}(hq:q)(h:p=q:=by
 conv=>lhs;simp only[cD,Nat.reduceAdd,↓reduceIte,Nat.reduceEqDiff,fF,bo,cY,nI,cg,er,gJ,gI]):p:=h.mpr hq
theorem jth(C:Ct)(s:Sc)(b:List Int)(i:Nat)(hC:kN C)(hs:pK C s)(hb:mR b)(hl:b.length≤maxLen)(hi:i≤7000000):cM prog [0] 55 [fF b i,.agg (cY s)] ([dR s,.free]) (BI C s b i 1 32 10):=by
 refine fV (fn:=f55) (by kernel_rfl) func55 rfl (bN rfl) fun c hc hp=>?_
 refine oc ?_
 have hcp:vi 2=8000000:=by decide
 have BC:rQ 2=32:=by decide
 have It:nM 2=4:=by decide
 obtain⟨y,hy⟩:∃y:Nat,kr b i=y:=⟨(kr b i).toNat,by have:=(mg hb i).1;omega⟩
 have CM:=(mg hb i).2
 have mV:=vQ b i hb hl
 rw[hy]at mV
 have E9:=YP 1 1 (by decide) (by decide)
 unfold bW at E9
 have hT:=Gy C s b (i+1) 1 hC hs hb hl (by decide) (by decide) (by omega)
 refine aj (O5 ·) ?_
 refine aH fun K2 bG=>?_
 refine bC hp ax hc rfl fun K3 bS=>?_
 refine O5 ?_
 refine cQ (mV) rfl ?_
 refine O5 ?_
 refine bS _ _ ?_
 refine aX rfl (fun ht=>?_) (fun ht=>?_)
 ·refine jN ax hp hc mixed rfl [(1,[]),(0,[1]),(2,[]),(3,[]),(4,[])] [[],[],[0,1],[0,1,2],[0,1,2,3]] 0 (by kernel_rfl) fun K4 dD=>?_
  refine EK ?_
  refine w4 (E9) rfl ?_
  refine EK ?_
  refine w4 (vj b i 1 (by omega) (by omega)) rfl ?_
  refine EK ?_
  refine dD _ _ ?_
  refine bI hp (τ':=aG [(4,.op 1 0)]) (H':=[dR s,.cells [.d (iD 1),.d nS,.d (iD (1:Nat)),.d nS,.d (iD (1:Nat)),.d nS,.d (.fs [] 0),.d (aE b),.d (iD (i+1:Nat))]]) ?_ ?_
  ·refine Rt.trans (Rt.gc (keep:=[0,4]) (by decide) (by decide) (by simp[eS,dg])) ?_
   refine W6 ?_
   refine W5 ?_;simp[aE,iD,nS]
  refine bh ?_
  try dsimp only[fb,fc]
  refine iH rfl ?_
  refine YS ?_
  show ∃_,_
  exact⟨.lM 1 1,i+1,⟨⟨by decide,by decide,by decide⟩,rfl,by simp[bQ]⟩,by omega,by omega,by simp[kU,bW,cg,bo,nS,iD,aE],_,rfl⟩
 ·refine bB (bG _ _ ?_)
  refine jN ax hp hc mixed rfl [(0,[]),(2,[]),(3,[]),(1,[2]),(4,[]),(5,[])] [[],[0],[],[],[0,1,2,3],[0,1,2,3,4]] 0 (by kernel_rfl) fun K5 fA=>?_
  refine EK ?_
  refine w4 (vj b i 1 (by omega) (by omega)) rfl ?_
  refine EK ?_
  refine uL (S:=[dR s,.free]) (T:=[.cells (au (bo b i)),.cells (cY s),er]) (hT.dag) rfl (bN rfl) (by first|rfl|(simp[AV.ah,AV.allI,bc,bg,bf,aJ,aN,aY,aZ,er,fj,cY,bo];done)|(intro o ho;simp at ho;done)) (fun t=>fU (by first|rfl|(simp[AV.ah,AV.allI,bc,bg,bf,aJ,aN,aY,aZ,er,fj,cY,bo];done)|(intro o ho;simp at ho;done)) t) (fun t=>fU (by first|rfl|(simp[AV.ah,AV.allI,bc,bg,bf,aJ,aN,aY,aZ,er,fj,cY,bo];done)|(intro o ho;simp at ho;done)) t) (by first|rfl|(simp[AV.ah,AV.allI,bc,bg,bf,aJ,aN,aY,aZ,er,fj,cY,bo];done)|(intro o ho;simp at ho;done)) (by first|rfl|(simp[AV.ah,AV.allI,bc,bg,bf,aJ,aN,aY,aZ,er,fj,cY,bo];done)|(intro o ho;simp at ho;done)) (by first|rfl|(simp[AV.ah,AV.allI,bc,bg,bf,aJ,aN,aY,aZ,er,fj,cY,bo];done)|(intro o ho;simp at ho;done)) ?_
  rintro _ _ ⟨e,j,he,sg,xR,rfl,g,rfl⟩
  refine⟨rfl,?_⟩
  obtain⟨xo,xk,xw,xc,xn,hex⟩:=qi e;unfold kU;rw[hex];dsimp only[List.map_cons,List.map_nil,List.cons_append,List.nil_append,bo]
  refine EK ?_
  refine fA _ _ ?_
  refine bI hp (τ':=aG [(4,.op 1 0)]) (H':=[dR s,.cells [.d (iD xo),.d nS,.d (iD xk),.d nS,.d (iD xw),.d nS,.d (.fs xc xn),.d (aE b),.d (iD j)]]) ?_ ?_
  ·refine Rt.trans (Rt.gc (keep:=[0,4]) (by decide) (by decide) (by simp[eS,dg])) ?_
   refine W6 ?_
   refine W5 ?_;simp[aE,iD,nS]
  refine bh ?_
  try dsimp only[fb,fc]
  refine iH rfl ?_
  refine YS ?_
  show ∃_,_
  exact⟨e,j,⟨he.t,he.w,by have:=he.n;omega⟩,by omega,by omega,by unfold kU;rw[hex];simp[bo,iD,aE],_,rfl⟩
theorem k8{s:ByteArray}:lS (.d (.val (.string s)))=some [.d (.val (.string s))]:=rfl
theorem Ak{p q:Prop}(hq:q)(h:p=q:=by
 conv=>lhs;simp -dsimp -implicitDefEqProofs (disch:=first|assumption|omega|(simp only[aK]<;>omega)|decide) only[aP,↓reduceIte,Nat.reduceEqDiff,Nat.reduceAdd,D.fix,Int.reduceToNat,Nat.reduceMul,Nat.reduceBNe,Nat.reduceBEq,sD,k8,bw]):p:=h.mpr hq
theorem Lu{p q:Prop}(hq:q)(h:p=q:=by
 conv=>lhs;simp -dsimp -implicitDefEqProofs (disch:=first|assumption|omega|(simp only[aK]<;>omega)|decide) only[aP,↓reduceIte,Nat.reduceEqDiff,Nat.reduceAdd,D.fix,Int.reduceToNat,Nat.reduceMul,Nat.reduceBNe,Nat.reduceBEq,sD,k8,PO,ybq]):p:=h.mpr hq
theorem Ki{p q:Prop}(hq:q)(h:p=q:=by
 conv=>lhs;simp (disch:=first|assumption|omega|(simp only[aK]<;>omega)|decide) only[gF,Nat.reduceAdd,D.fix,↓reduceIte,Nat.reduceEqDiff,sD,k8]):p:=h.mpr hq
theorem jti(n:Nat)(s:ByteArray)(hn:n<1000):tV prog 110 [iD n,sD s] (fun r=>∃rk rf rn,r= .d (.agg [iD rk,sD rf,iD rn])):=by
 have h4:(n:Int) % 4=((n % 4:Nat):Int):=by omega
 refine JK (fn:=f110) (by kernel_rfl) func110 rfl (bN rfl) fun c hc hp=>?_
 refine dG (τ':=aG [(0,.d (iD n)),(1,.d (sD s))]) (by repeat (first|exact bT _|refine bM ?_ (by first|rfl|(simp[aR];done)|simp[aR, *]))) ?_
 refine aj (Ak ·) ?_
 refine aH fun K2 bG=>?_
 refine bC hp ax hc rfl fun K3 bS=>?_
 simp -dsimp -implicitDefEqProofs (disch:=first|assumption|omega|(simp only[aK]<;>omega)|decide) only[aP,↓reduceIte,Nat.reduceEqDiff,Nat.reduceAdd,D.fix,Int.reduceToNat,Nat.reduceMul,Nat.reduceBNe,Nat.reduceBEq,sD,k8,h4,bw]
 refine bS _ _ ?_
 refine aW ?_
 refine aj (Ak ·) ?_
 refine aX rfl (fun ht=>?_) (fun ht=>?_)
 ·refine aj (Ak ·) ?_
  refine bh ?_
  try dsimp only[fb,fc]
  refine iH rfl ?_
  refine Lu ?_
  show ∃r,aC _ _=some r∧_
  refine Ki ?_
  exact⟨_,rfl,1,⟨#[]⟩,0,by simp[iD,sD]⟩
 ·refine aj (Ak ·) ?_
  refine aX rfl (fun ht=>?_) (fun ht=>?_)
  ·refine aj (Ak ·) ?_
   refine bh ?_
   try dsimp only[fb,fc]
   refine iH rfl ?_
   refine Lu ?_
   show ∃r,aC _ _=some r∧_
   refine Ki ?_
   exact⟨_,rfl,2,s,0,by simp[iD,sD]⟩
  ·refine aj (Ak ·) ?_
   refine aX rfl (fun ht=>?_) (fun ht=>?_)
   ·refine aj (Ak ·) ?_
    refine bh ?_
    try dsimp only[fb,fc]
    refine iH rfl ?_
    refine Lu ?_
    show ∃r,aC _ _=some r∧_
    refine Ki ?_
    exact⟨_,rfl,3,s,(n:Int) / 4 % 5,by simp[iD,sD]⟩
   ·refine bB (bG _ _ ?_)
    refine aj (Ak ·) ?_
    refine bh ?_
    try dsimp only[fb,fc]
    refine iH rfl ?_
    refine Lu ?_
    show ∃r,aC _ _=some r∧_
    refine Ki ?_
    exact⟨_,rfl,0,⟨#[]⟩,0,by simp[iD,sD]⟩
def EJ:List D:=[iD 0,nS,iD 0,nS,iD 0,nS,.val (.slice none 0 0)]
def kp:Option Ex→List D
 |none=>EJ
 |some e=>bW e
theorem qA(o:Option Ex):(kp o).length=7:=by cases o<;>simp[kp,EJ,mK]
structure RG where
 name:ByteArray
 w:Nat
 init:Nat
 nx:Option Ex
 rk:Int
 rf:ByteArray
 rn:Int
 deriving Inhabited
structure MG where
 name:ByteArray
 w:Nat
 words:Nat
 en:Option Ex
 ad:Option Ex
 da:Option Ex
 rk:Int
 rf:ByteArray
 rn:Int
 deriving Inhabited
structure TG where
 chan:Nat
 w:Nat
 wh:Option Ex
 deriving Inhabited
structure QG where
 chan:Nat
 w:Nat
 wh:Option Ex
 da:Option Ex
 deriving Inhabited
def iw(r:RG):List D:=[sD r.name,iD r.w,iD r.init]++(kp r.nx++[iD r.rk,sD r.rf,iD r.rn])
def jP(m:MG):List D:=[sD m.name,iD m.w,iD m.words]++(kp m.en++(kp m.ad++(kp m.da++[iD m.rk,sD m.rf,iD m.rn])))
def jg(t:TG):List D:=[iD t.chan,iD t.w]++kp t.wh
def jh(q:QG):List D:=[iD q.chan,iD q.w]++(kp q.wh++kp q.da)
theorem N2(r:RG):(iw r).length=13:=by simp[iw,qA]
theorem Gx(r:MG):(jP r).length=27:=by simp[jP,qA]
theorem NZ(r:TG):(jg r).length=9:=by simp[jg,qA]
theorem Kh(r:QG):(jh r).length=16:=by simp[jh,qA]
theorem mu{l:List RG}:(l.flatMap iw).length=l.length*13:=pq N2 l
theorem mr{l:List MG}:(l.flatMap jP).length=l.length*27:=pq Gx l
theorem mq{l:List TG}:(l.flatMap jg).length=l.length*9:=pq NZ l
theorem lR{l:List QG}:(l.flatMap jh).length=l.length*16:=pq Kh l
theorem W4{l:List RG}{k:Nat}(h:k<l.length):(l.flatMap iw)[k*13+1]? =some (iD (nth l k).w):=(nC (j:=1) N2 h (by omega)).trans rfl
theorem ypo{l:List MG}{k:Nat}(h:k<l.length):(l.flatMap jP)[k*27+1]? =some (iD (nth l k).w):=(nC (j:=1) Gx h (by omega)).trans rfl
theorem ypp{l:List TG}{k:Nat}(h:k<l.length):(l.flatMap jg)[k*9+1]? =some (iD (nth l k).w):=(nC (j:=1) NZ h (by omega)).trans rfl
theorem ypq{l:List QG}{k:Nat}(h:k<l.length):(l.flatMap jh)[k*16+1]? =some (iD (nth l k).w):=(nC (j:=1) Kh h (by omega)).trans rfl
theorem Kg{a b c d:Int}{i:Nat}(h:i<4):([.d (.val (.int .i64 a)),.d (.val (.int .i64 b)),.d (.val (.int .i64 c)),.d (.val (.int .i64 d))]:List AV)[i]? =some (.d (.val (.int .i64 (nth [a,b,c,d] i)))):=by
 rcases(show i=0∨i=1∨i=2∨i=3 by omega)with rfl|rfl|rfl|rfl<;>rfl
theorem ykc{a b c d:Int}{i:Nat}(h:i<4):([.val (.int .i64 a),.val (.int .i64 b),.val (.int .i64 c),.val (.int .i64 d)]:List D)[i]? =some (.val (.int .i64 (nth [a,b,c,d] i))):=by
 rcases(show i=0∨i=1∨i=2∨i=3 by omega)with rfl|rfl|rfl|rfl<;>rfl
theorem Hc(a b c d:Nat){i:Nat}(h:i<4):nth ([(a:Int),b,c,d]:List Int) i=((nth [a,b,c,d] i:Nat):Int)∧(nth [a,b,c,d] i=a∨nth [a,b,c,d] i=b∨nth [a,b,c,d] i=c∨nth [a,b,c,d] i=d):=by
 rcases(show i=0∨i=1∨i=2∨i=3 by omega)with rfl|rfl|rfl|rfl<;>exact⟨rfl,by simp[nth]⟩
structure FrR (rs:List RG) (ms:List MG) (ts:List TG) (qs:List QG):Prop where
 r1:1≤rs.length
 r3:rs.length≤3
 rw:∀r∈rs,1≤r.w∧r.w≤3
 m1:ms.length≤1
 mw:∀m∈ms,1≤m.w∧m.w≤2∧(m.words=1∨m.words=2∨m.words=4)
 t2:ts.length≤2
 tw:∀t∈ts,1≤t.w∧t.w≤2
 q2:qs.length≤2
 qw:∀q∈qs,1≤q.w∧q.w≤2
 nr:∀r∈rs,r.name.size≤9
 nm:∀m∈ms,m.name.size≤9
def FrK(b:List Int)(i:Nat)(x:AV)(S':ak):Prop:=∃(rs:List RG) (ms:List MG) (ts:List TG) (qs:List QG),FrR rs ms ts qs∧
 x= .dc [.agg [.d (sD ⟨#[112]⟩),.d (sD ⟨#[97]⟩),.os 13 0 0 rs.length,.os 27 2 0 ms.length,.os 9 3 0 ts.length,.os 16 5 0 qs.length],.agg [.os 1 1 0 rs.length,.os 1 4 0 ts.length,.os 27 2 0 ms.length,.d (oD true)],.agg [.d (aE b),.d (iD (i+9:Nat))]]∧
 ∃g1 g2 g3,S'=[.cells (au (rs.flatMap iw)),.cells (au (rs.map fun r=>iD r.w)),.cells (au (ms.flatMap jP)),.cells (au (ts.flatMap jg)),.cells (au (ts.map fun t=>iD t.w)),.cells (au (qs.flatMap jh)),.cells g1,.cells g2,.cells g3]
theorem Od{P:Program}{t:TypeId}{s:ByteArray}(h:s.size≤3):gT P .add t (.string ⟨#[114]⟩) (.string s)=some (.string (⟨#[114]⟩++s)):=yc2 (by have:(⟨#[114]⟩:ByteArray).size=1:=rfl;omega)
def ew:bq:=.cells [.d nS,.d nS,.d (.val (.slice none 0 0)),.d (.val (.slice none 0 0)),.d (.val (.slice none 0 0)),.d (.val (.slice none 0 0))]
def iL:bq:=.cells [.d (.val (.slice none 0 0)),.d (.val (.slice none 0 0)),.d (.val (.slice none 0 0)),.d (oD false)]
def iK:bq:=.cells [.d (.val (.slice none 0 0)),.d (iD 0)]
theorem vN{p q:Prop}(hq:q)(h:p=q:=by
 conv=>lhs;simp -dsimp -implicitDefEqProofs (disch:=first|assumption|omega|(simp only[aK,mu,mr,mq,lR]<;>omega)|decide) only[aP,↓reduceIte,Nat.reduceEqDiff,Nat.reduceAdd,D.fix,Int.reduceToNat,Nat.reduceMul,Nat.reduceBNe,Nat.reduceBEq,fF,bo,ew,iL,iK,nS,sD,Int.toNat_natCast,k8,bw]):p:=h.mpr hq
theorem O4{p q:Prop}(hq:q)(h:p=q:=by
 conv=>lhs;simp -dsimp -implicitDefEqProofs (disch:=first|assumption|omega|(simp only[aK,mu,mr,mq,lR]<;>omega)|decide) only[aP,↓reduceIte,Nat.reduceEqDiff,Nat.reduceAdd,D.fix,Int.reduceToNat,Nat.reduceMul,Nat.reduceBNe,Nat.reduceBEq,fF,bo,ew,iL,iK,nS,sD,Int.toNat_natCast,k8]):p:=h.mpr hq
theorem xB(k:List Nat){m:List Nat}{τ τ1:Fr}{H H1:ak}(h:Rt m (fun t=>c7 k (τ t)) (dg k H) τ1 H1)(a:∀i∈m,k[i]? =some i:=by decide)(b:k.Nodup:=by decide)(c:∀i∈k,i<H.length:=by
 simp[eS,dg]):Rt m τ H τ1 H1:=Rt.trans (Rt.gc a b c) h
theorem xz{m:List Nat}{τ τ':Fr}{H H':ak}(h2:H=H')(h:fm τ τ':=by
 repeat (first|exact bT _|refine bM ?_ (by first|rfl|(simp[aR,mu,mr,mq,lR];done)|simp[aR,mu,mr,mq,lR, *]))):Rt m τ H τ' H':=Rt.end h h2
theorem Aq{p q r:Prop}(e:r)(hq:q)(h:r→p=q:=by
 intro hY
 conv=>lhs;simp -dsimp -implicitDefEqProofs (disch:=first|assumption|omega|(simp only[aK,mu,mr,mq,lR]<;>omega)|decide) only[aP,↓reduceIte,Nat.reduceEqDiff,Nat.reduceAdd,D.fix,Int.reduceToNat,Nat.reduceMul,Nat.reduceBNe,Nat.reduceBEq,fF,bo,ew,iL,iK,nS,sD,Int.toNat_natCast,k8,bw,hY]):p:=(h e).mpr hq
theorem Lt{p q r:Prop}(e:r)(hq:q)(h:r→p=q:=by
 intro hY
 conv=>lhs;simp -dsimp -implicitDefEqProofs (disch:=first|assumption|omega|(simp only[aK,mu,mr,mq,lR]<;>omega)|decide) only[aP,↓reduceIte,Nat.reduceEqDiff,Nat.reduceAdd,D.fix,Int.reduceToNat,Nat.reduceMul,Nat.reduceBNe,Nat.reduceBEq,mz,fF,bo,ew,iL,iK,nS,sD,Int.toNat_natCast,k8,Od zJ,Od uz,bw,hY]):p:=(h e).mpr hq
theorem Ap{p q r:Prop}(e:r)(hq:q)(h:r→p=q:=by
 intro hY
 conv=>lhs;simp -dsimp -implicitDefEqProofs (disch:=first|assumption|omega|(simp only[aK,mu,mr,mq,lR]<;>omega)|decide) only[aP,↓reduceIte,Nat.reduceEqDiff,Nat.reduceAdd,D.fix,Int.reduceToNat,Nat.reduceMul,Nat.reduceBNe,Nat.reduceBEq,mz,fF,bo,ew,iL,iK,nS,sD,Int.toNat_natCast,k8,bw,hY]):p:=(h e).mpr hq
theorem YR{p q:Prop}(hq:q)(h:p=q:=by
 conv=>lhs;simp -dsimp -implicitDefEqProofs (disch:=first|assumption|omega|(simp only[aK,mu,mr,mq,lR]<;>omega)|decide) only[aP,↓reduceIte,Nat.reduceEqDiff,Nat.reduceAdd,D.fix,Int.reduceToNat,Nat.reduceMul,Nat.reduceBNe,Nat.reduceBEq,mz,fF,bo,ew,iL,iK,nS,sD,Int.toNat_natCast,k8,bw]):p:=h.mpr hq
theorem Gw{p:Prop}(h:p:=by
 first|rfl|(simp only[cD,Nat.reduceAdd,↓reduceIte,Nat.reduceEqDiff,fF,bo,ew,iL,iK,nS,sD,Int.toNat_natCast,k8];first|done|rfl)):p:=h
theorem Ec{p q:Prop}(hq:q)(h:p=q:=by
 conv=>lhs;simp only[cD,Nat.reduceAdd,↓reduceIte,Nat.reduceEqDiff,fF,bo,ew,iL,iK,nS,sD,Int.toNat_natCast,k8]):p:=h.mpr hq
theorem jv0(b:List Int)(i:Nat)(hb:mR b)(hl:b.length≤maxLen)(hi:i≤1000000):cM prog [] 54 [fF b i] ([.free,.free,.free,.free,.free,.free,.free,.free,.free]) (FrK b i):=by
 refine fV (fn:=f54) (by kernel_rfl) func54 rfl (bN rfl) fun c hc hp=>?_
 refine Mn ?_
 obtain⟨y,hy⟩:∃y:Nat,kr b i=y:=⟨(kr b i).toNat,by have:=(mg hb i).1;omega⟩
 have CM:=(mg hb i).2
 have mV:=vQ b i hb hl
 rw[hy]at mV
 have Bb:(y:Int) % 4=((y % 4:Nat):Int):=by omega
 have l4:y % 4<4:=Nat.mod_lt _ (by decide)
 obtain⟨p1,p2⟩:=Hc 1 1 2 3 l4
 obtain⟨nr,Bp⟩:∃nr,nr=nth [1,1,2,3] (y % 4):=⟨_,rfl⟩
 rw[←Bp]at p1 p2
 have Bv:=Kg (a:=1) (b:=1) (c:=2) (d:=3) l4
 rw[show nth ([1,1,2,3]:List Int) (y % 4)=(nr:Int) from p1]at Bv
 refine aj (vN ·) ?_
 refine bC hp ax hc rfl fun K2 bG=>?_
 refine vN ?_
 refine cQ (mV) rfl ?_
 refine vN ?_
 refine bG _ _ ?_
 refine aj (vN ·) ?_
 refine aH fun K4 dD=>?_
 refine aj (O4 ·) ?_
 refine aW ?_
 refine c9 hp (fun τ' H' mm=>∃(k:Nat) (rs:List RG),(k≤nr∧rs.length=k∧∀r∈rs,(1≤r.w∧r.w≤3)∧r.name.size≤9)∧mm=nr - k∧H'=[.cells (au (bo b i)),ew,iL,iK,.cells [.d (sD ⟨#[112]⟩),.d (sD ⟨#[97]⟩),.os 13 6 0 rs.length,.d (.val (.slice none 0 0)),.d (.val (.slice none 0 0)),.d (.val (.slice none 0 0))],.cells [.os 1 7 0 rs.length,.d (.val (.slice none 0 0)),.d (.val (.slice none 0 0)),.d (oD true)],.cells (au (rs.flatMap iw)),.cells (au (rs.map fun r=>iD r.w))]∧τ'=aG [(1,.op 0 0),(2,.op 1 0),(3,.op 2 0),(4,.op 3 0),(5,.d (iD y)),(6,.op 4 0),(7,.op 5 0),(8,.d (iD k))]) (nr) ?_ ⟨0,[],⟨cy _,rfl,fun r hr=>by cases hr⟩,rfl,rfl,rfl⟩ ?_
 ·refine Rt.trans (Rt.gq 13 2 13 rfl rfl) ?_
  refine Rt.trans (Rt.gq 14 0 1 rfl rfl) ?_
  refine xB [9,10,11,12,13,14,15,16] ?_
  refine xz ?_
  exact Gw
 rintro τ' H' mm ⟨k,rs,⟨hk,jR,Bl⟩,rfl,rfl,rfl⟩
 refine aH fun K6 cF=>?_
 refine aj (Aq (aL Bb Bv) ·) ?_
 refine aX rfl (fun ht=>?_) (fun ht=>?_)
 ·have aA:k<nr:=by simp at ht;omega
  obtain⟨n,hn⟩:∃n:Nat,kr b (i+(1+k))=n:=⟨(kr b (i+(1+k))).toNat,by have:=(mg hb (i+(1+k))).1;omega⟩
  have db:=(mg hb (i+(1+k))).2
  have Bq:=vQ b (i+(1+k)) hb hl
  rw[hn]at Bq
  have RU:(1:Int)+(k:Int)=((1+k:Nat):Int):=by omega
  have qo:(n:Int) % 4=((n % 4:Nat):Int):=by omega
  have Z1:n % 4<4:=Nat.mod_lt _ (by decide)
  obtain⟨u1,u2⟩:=Hc 1 2 1 3 Z1
  obtain⟨w,hw⟩:∃w,w=nth [1,2,1,3] (n % 4):=⟨_,rfl⟩
  rw[←hw]at u1 u2
  have wJ:=Kg (a:=1) (b:=2) (c:=1) (d:=3) Z1
  rw[show nth ([1,2,1,3]:List Int) (n % 4)=(w:Int) from u1]at wJ
  have E6:(n:Int) / 4=((n / 4:Nat):Int):=by omega
  have zO:(n:Int) / 16=((n / 16:Nat):Int):=by omega
  have uE:((n / 16:Nat):Int) % 3=((n / 16 % 3:Nat):Int):=by omega
  have l163:n / 16 % 3<3:=Nat.mod_lt _ (by decide)
  have hu:IntKind.u64.wrap (w:Int)=w:=An (by omega) (by omega)
  have hs:=BS (w:=w) (by omega)
  have hm:=FT (v:=n / 4) (w:=w) (by omega) (by omega)
  have fg:=Nat.two_pow_pos w
  have tq:2^w≤256:=Nat.le_trans (rj (by decide) (show w≤8 by omega)) (show 2^8≤256 by decide)
  obtain⟨M,hM⟩:∃M:Nat,2^w=M:=⟨_,rfl⟩
  rw[hM]at hs hm fg tq
  obtain⟨s0,zJ,fk⟩:=jk1 (n:=k) (by omega)
  obtain⟨s1,uz,rC⟩:=jk1 (n:=n / 16 % 3) (by omega)
  refine bB (cF _ _ ?_)
  refine aH fun K8 dC=>?_
  refine aW ?_
  refine bC hp ax hc rfl fun K9 cJ=>?_
  refine Aq RU ?_
  refine cQ (vj b i (1+k) (by omega) (by omega)) rfl ?_
  refine Aq RU ?_
  refine cQ (Bq) rfl ?_
  refine Aq RU ?_
  refine cJ _ _ ?_
  refine aj (Aq (aL qo wJ) ·) ?_
  refine jN ax hp hc mixed rfl [(0,[]),(1,[]),(2,[]),(5,[]),(6,[]),(7,[]),(8,[]),(9,[]),(10,[]),(11,[]),(12,[]),(13,[]),(14,[]),(15,[]),(16,[]),(17,[]),(3,[1]),(4,[]),(18,[1]),(19,[]),(20,[1]),(21,[]),(22,[]),(23,[]),(24,[]),(25,[])] [[],[0],[],[2],[2,3],[],[],[6],[],[8],[8,9],[8,9,10],[6,7,8,9,10,11],[],[13],[],[15],[15,16],[2,3,15,16,17],[2,3,15,16,17,18],[2,3,13,14,15,16,17,18,19],[2,3,4,5,6,7,8,9,10,11,12,13,14,15,16,17,18,19,20],[2,3,4,5,6,7,8,9,10,11,12,13,14,15,16,17,18,19,20,21],[0,1,2,3,4,5,6,7,8,9,10,11,12,13,14,15,16,17,18,19,20,21,22],[0,1,2,3,4,5,6,7,8,9,10,11,12,13,14,15,16,17,18,19,20,21,22,23],[0,1,2,3,4,5,6,7,8,9,10,11,12,13,14,15,16,17,18,19,20,21,22,23,24]] 1 (by kernel_rfl) fun lz cm=>?_
  refine Lt (aL E6 (aL zO (aL uE (aL hu (aL hs hm))))) ?_
  refine w4 (fk) rfl ?_
  refine Lt (aL E6 (aL zO (aL uE (aL hu (aL hs hm))))) ?_
  refine w4 (rC) rfl ?_
  refine Lt (aL E6 (aL zO (aL uE (aL hu (aL hs hm))))) ?_
  refine LO (jti (n / 16) (⟨#[114]⟩++s1) (by omega)) rfl fun r hr=>?_
  obtain⟨rk,rf,rn,rfl⟩:=hr;simp only[sD]
  refine Lt (aL E6 (aL zO (aL uE (aL hu (aL hs hm))))) ?_
  refine cm _ _ ?_
  refine jX (vN ·) (dC _ _ ?_)
  refine bA hp ax hc rfl fun rN dQ=>?_
  refine vN ?_
  refine dQ _ _ ⟨_,_,_,?_,⟨k+1,rs++[⟨⟨#[114]⟩++s0,w,n / 4 % M,none,rk,rf,rn⟩],⟨by omega,by simp[jR],MJ Bl ⟨⟨by show 1≤w;omega,by show w≤3;omega⟩,by show((⟨#[114]⟩:ByteArray)++s0).size≤9;rw[ByteArray.size_append,show(⟨#[114]⟩:ByteArray).size=1 from rfl];omega⟩⟩,rfl,rfl,rfl⟩,?_⟩
  ·first|omega|(simp only[List.length_cons];omega)|(dsimp only;omega)
  ·refine xB [0,1,2,3,4,5,11,13] ?_
   refine xz ?_
   refine Ec ?_;simp[iw,kp,EJ,sD,iD,nS,oD]
 ·have cf:k=nr:=by simp at ht;omega
  have Qv:(y:Int) / 4=((y / 4:Nat):Int):=by omega
  have Qu:((y / 4:Nat):Int) % 4=((y / 4 % 4:Nat):Int):=by omega
  obtain⟨n2,db⟩:∃n:Nat,kr b (i+4)=n:=⟨(kr b (i+4)).toNat,by have:=(mg hb (i+4)).1;omega⟩
  have hn22:=(mg hb (i+4)).2
  have HQ:=vQ b (i+4) hb hl
  rw[db]at HQ
  have GR:n2 / 2 % 4<4:=Nat.mod_lt _ (by decide)
  obtain⟨v1,v2⟩:=Hc 2 1 4 2 GR
  obtain⟨wo,Bf⟩:∃w,w=nth [2,1,4,2] (n2 / 2 % 4):=⟨_,rfl⟩
  rw[←Bf]at v1 v2
  have Q4:=ykc (a:=2) (b:=1) (c:=4) (d:=2) GR
  rw[show nth ([2,1,4,2]:List Int) (n2 / 2 % 4)=(wo:Int) from v1]at Q4
  have HT:(n2:Int) / 2=((n2 / 2:Nat):Int):=by omega
  have Br:((n2 / 2:Nat):Int) % 4=((n2 / 2 % 4:Nat):Int):=by omega
  have HS:(n2:Int) % 2=((n2 % 2:Nat):Int):=by omega
  have HU:(n2:Int) / 8=((n2 / 8:Nat):Int):=by omega
  have ow:(1:Int)+((n2 % 2:Nat):Int)=((1+n2 % 2:Nat):Int):=by omega
  have GS:n2 % 2<2:=Nat.mod_lt _ (by decide)
  refine cL (dD _ _ ?_)
  refine aH fun rM dI=>?_
  have IB:∀τ' H',(∃τ1 H1,∃(ms:List MG),(ms.length≤1∧∀m∈ms,(1≤m.w∧m.w≤2∧(m.words=1∨m.words=2∨m.words=4))∧m.name.size≤9)∧H1=[.cells (au (bo b i)),ew,iL,iK,.cells [.d (sD ⟨#[112]⟩),.d (sD ⟨#[97]⟩),.os 13 6 0 rs.length,.os 27 8 0 ms.length,.d (.val (.slice none 0 0)),.d (.val (.slice none 0 0))],.cells [.os 1 7 0 rs.length,.d (.val (.slice none 0 0)),.os 27 8 0 ms.length,.d (oD true)],.cells (au (rs.flatMap iw)),.cells (au (rs.map fun r=>iD r.w)),.cells (au (ms.flatMap jP))]∧τ1=aG [(1,.op 0 0),(2,.op 1 0),(3,.op 2 0),(4,.op 3 0),(5,.d (iD y)),(6,.op 4 0),(7,.op 5 0)]∧Rt [] τ' H' τ1 H1)→rM τ' H':=by
   rintro τ' H' ⟨_,_,ms,⟨mC,zP⟩,rfl,rfl,rq⟩
   refine dI _ _ (bI hp rq ?_)
   clear rq
   refine aH fun tG ea=>?_
   have Z0:y / 16 % 4<4:=Nat.mod_lt _ (by decide)
   obtain⟨q1,q2⟩:=Hc 1 0 1 2 Z0
   obtain⟨nt,hnt⟩:∃nt,nt=nth [1,0,1,2] (y / 16 % 4):=⟨_,rfl⟩
   rw[←hnt]at q1 q2
   have hl4:=Kg (a:=1) (b:=0) (c:=1) (d:=2) Z0
   rw[show nth ([1,0,1,2]:List Int) (y / 16 % 4)=(nt:Int) from q1]at hl4
   have Qx:(y:Int) / 16=((y / 16:Nat):Int):=by omega
   have Hx:((y / 16:Nat):Int) % 4=((y / 16 % 4:Nat):Int):=by omega
   refine aj (O4 ·) ?_
   refine aW ?_
   refine c9 hp (fun τ' H' mm=>∃(k:Nat) (ts:List TG),(k≤nt∧ts.length=k∧∀t∈ts,1≤t.w∧t.w≤2)∧mm=nt - k∧H'=[.cells (au (bo b i)),ew,iL,iK,.cells [.d (sD ⟨#[112]⟩),.d (sD ⟨#[97]⟩),.os 13 6 0 rs.length,.os 27 8 0 ms.length,.os 9 9 0 ts.length,.d (.val (.slice none 0 0))],.cells [.os 1 7 0 rs.length,.os 1 10 0 ts.length,.os 27 8 0 ms.length,.d (oD true)],.cells (au (rs.flatMap iw)),.cells (au (rs.map fun r=>iD r.w)),.cells (au (ms.flatMap jP)),.cells (au (ts.flatMap jg)),.cells (au (ts.map fun t=>iD t.w))]∧τ'=aG [(1,.op 0 0),(2,.op 1 0),(3,.op 2 0),(4,.op 3 0),(5,.d (iD y)),(6,.op 4 0),(7,.op 5 0),(12,.d (iD k))]) (nt) ?_ ⟨0,[],⟨cy _,rfl,fun r hr=>by cases hr⟩,rfl,rfl,rfl⟩ ?_
   ·refine Rt.trans (Rt.gq 4 4 9 rfl rfl) ?_
    refine Rt.trans (Rt.gq 5 1 1 rfl rfl) ?_
    refine xB [0,1,2,3,4,5,6,7,8,9,10] ?_
    refine xz ?_
    exact Gw
   rintro τ' H' mm ⟨k,ts,⟨mZ,vt,CQ⟩,rfl,rfl,rfl⟩
   refine aH fun tF eh=>?_
   refine aj (Aq (aL Qx (aL Hx hl4)) ·) ?_
   refine aX rfl (fun ht=>?_) (fun ht=>?_)
   ·have aA:k<nt:=by simp at ht;omega
    obtain⟨n,hn⟩:∃n:Nat,kr b (i+(5+k))=n:=⟨(kr b (i+(5+k))).toNat,by have:=(mg hb (i+(5+k))).1;omega⟩
    have db:=(mg hb (i+(5+k))).2
    have Bq:=vQ b (i+(5+k)) hb hl
    rw[hn]at Bq
    have RS:(5:Int)+(k:Int)=((5+k:Nat):Int):=by omega
    have tr:(n:Int) % 2=((n % 2:Nat):Int):=by omega
    have ow:(1:Int)+((n % 2:Nat):Int)=((1+n % 2:Nat):Int):=by omega
    have GS:n % 2<2:=Nat.mod_lt _ (by decide)
    refine bB (eh _ _ ?_)
    refine aH fun wT fC=>?_
    refine aW ?_
    refine jN ax hp hc mixed rfl [(0,[]),(1,[]),(2,[]),(3,[]),(4,[]),(5,[]),(6,[1]),(7,[1]),(8,[]),(9,[]),(10,[]),(11,[]),(12,[]),(13,[]),(14,[])] [[],[0],[],[],[],[4],[3,4,5],[3,4,5,6],[3,4,5,6,7],[3,4,5,6,7,8],[2,3,4,5,6,7,8,9],[2,3,4,5,6,7,8,9,10],[0,1,2,3,4,5,6,7,8,9,10,11],[0,1,2,3,4,5,6,7,8,9,10,11,12],[0,1,2,3,4,5,6,7,8,9,10,11,12,13]] 1 (by kernel_rfl) fun uK eG=>?_
    refine Ap (aL RS (aL tr ow)) ?_
    refine w4 (vj b i (5+k) (by omega) (by omega)) rfl ?_
    refine Ap (aL RS (aL tr ow)) ?_
    refine w4 (Bq) rfl ?_
    refine Ap (aL RS (aL tr ow)) ?_
    refine eG _ _ ?_
    refine bI hp (τ':=aG [(1,.op 0 0),(2,.op 1 0),(3,.op 2 0),(4,.op 3 0),(5,.d (iD y)),(6,.op 4 0),(7,.op 5 0),(12,.d (iD k))]) (H':=[.cells (au (bo b i)),ew,iL,iK,.cells [.d (sD ⟨#[112]⟩),.d (sD ⟨#[97]⟩),.os 13 6 0 rs.length,.os 27 8 0 ms.length,.os 9 9 0 (ts++[TG.mk k (1+n % 2) none]).length,.d (.val (.slice none 0 0))],.cells [.os 1 7 0 rs.length,.os 1 10 0 ts.length,.os 27 8 0 ms.length,.d (oD true)],.cells (au (rs.flatMap iw)),.cells (au (rs.map fun r=>iD r.w)),.cells (au (ms.flatMap jP)),.cells (au ((ts++[TG.mk k (1+n % 2) none]).flatMap jg)),.cells (au (ts.map fun t=>iD t.w))]) ?_ ?_
    ·refine xB [0,1,2,3,4,5,6,7,8,13,10] ?_
     refine xz ?_
     refine Ec ?_;simp[jg,kp,EJ,iD,nS,sD,oD]
    have hkt:k<(ts++[TG.mk k (1+n % 2) none]).length:=by simp;omega
    have hnk:nth (ts++[TG.mk k (1+n % 2) none]) k=TG.mk k (1+n % 2) none:=by rw[←vt,JP]
    refine uR ax hc mixed rfl (q:=2) (by kernel_rfl) (by kernel_rfl) fun yU ib=>?_
    simp -dsimp -implicitDefEqProofs (disch:=first|assumption|omega|(simp only[aK,mu,mr,mq,lR]<;>omega)|decide) only[aP,↓reduceIte,Nat.reduceEqDiff,Nat.reduceAdd,D.fix,Int.reduceToNat,Nat.reduceMul,Nat.reduceBNe,Nat.reduceBEq,fF,bo,ew,iL,iK,nS,sD,Int.toNat_natCast,k8,ypp,hnk,bw]
    refine ib _ _ (fC _ _ ?_)
    refine bA hp ax hc rfl fun wS fB=>?_
    refine vN ?_
    refine fB _ _ ⟨_,_,_,?_,⟨k+1,ts++[TG.mk k (1+n % 2) none],⟨by omega,by simp[vt],MJ CQ ⟨by show 1≤1+n % 2;omega,by show 1+n % 2≤2;omega⟩⟩,rfl,rfl,rfl⟩,?_⟩
    ·first|omega|(simp only[List.length_cons];omega)|(dsimp only;omega)
    ·refine xB [0,1,2,3,4,5,6,7,8,9,12] ?_
     refine xz ?_
     refine Ec ?_;simp[iD,oD,sD,nS]
   ·have H8:k=nt:=by simp at ht;omega
    have GP:y / 64 % 4<4:=Nat.mod_lt _ (by decide)
    obtain⟨r1,r2⟩:=Hc 1 1 0 2 GP
    obtain⟨nq,E6⟩:∃nq,nq=nth [1,1,0,2] (y / 64 % 4):=⟨_,rfl⟩
    rw[←E6]at r1 r2
    have hl5:=Kg (a:=1) (b:=1) (c:=0) (d:=2) GP
    rw[show nth ([1,1,0,2]:List Int) (y / 64 % 4)=(nq:Int) from r1]at hl5
    have Qw:(y:Int) / 64=((y / 64:Nat):Int):=by omega
    have Hv:((y / 64:Nat):Int) % 4=((y / 64 % 4:Nat):Int):=by omega
    refine cL (ea _ _ ?_)
    refine aH fun yd gw=>?_
    refine aj (O4 ·) ?_
    refine aW ?_
    refine c9 hp (fun τ' H' mm=>∃(k:Nat) (qs:List QG),(k≤nq∧qs.length=k∧∀q∈qs,1≤q.w∧q.w≤2)∧mm=nq - k∧H'=[.cells (au (bo b i)),ew,iL,iK,.cells [.d (sD ⟨#[112]⟩),.d (sD ⟨#[97]⟩),.os 13 6 0 rs.length,.os 27 8 0 ms.length,.os 9 9 0 ts.length,.os 16 11 0 qs.length],.cells [.os 1 7 0 rs.length,.os 1 10 0 ts.length,.os 27 8 0 ms.length,.d (oD true)],.cells (au (rs.flatMap iw)),.cells (au (rs.map fun r=>iD r.w)),.cells (au (ms.flatMap jP)),.cells (au (ts.flatMap jg)),.cells (au (ts.map fun t=>iD t.w)),.cells (au (qs.flatMap jh))]∧τ'=aG [(1,.op 0 0),(2,.op 1 0),(3,.op 2 0),(4,.op 3 0),(5,.d (iD y)),(6,.op 4 0),(7,.op 5 0),(13,.d (iD k))]) (nq) ?_ ⟨0,[],⟨cy _,rfl,fun r hr=>by cases hr⟩,rfl,rfl,rfl⟩ ?_
    ·refine Rt.trans (Rt.gq 4 5 16 rfl rfl) ?_
     refine xB [0,1,2,3,4,5,6,7,8,9,10,12] ?_
     refine xz ?_
     exact Gw
    rintro τ' H' mm ⟨k,qs,⟨Ia,wI,E3⟩,rfl,rfl,rfl⟩
    refine aH fun BK jn=>?_
    refine aj (Aq (aL Qw (aL Hv hl5)) ·) ?_
    refine aX rfl (fun ht=>?_) (fun ht=>?_)
    ·have aA:k<nq:=by simp at ht;omega
     obtain⟨n,hn⟩:∃n:Nat,kr b (i+(7+k))=n:=⟨(kr b (i+(7+k))).toNat,by have:=(mg hb (i+(7+k))).1;omega⟩
     have db:=(mg hb (i+(7+k))).2
     have Bq:=vQ b (i+(7+k)) hb hl
     rw[hn]at Bq
     have RR:(7:Int)+(k:Int)=((7+k:Nat):Int):=by omega
     have tr:(n:Int) % 2=((n % 2:Nat):Int):=by omega
     have ow:(1:Int)+((n % 2:Nat):Int)=((1+n % 2:Nat):Int):=by omega
     have kX:(ts.length:Int)+(k:Int)=((ts.length+k:Nat):Int):=by omega
     have GS:n % 2<2:=Nat.mod_lt _ (by decide)
     refine bB (jn _ _ ?_)
     refine aH fun IZ l7=>?_
     refine aW ?_
     refine y6 ax hp hc mixed rfl [(0,[]),(1,[]),(2,[]),(3,[]),(4,[]),(5,[]),(6,[]),(7,[]),(8,[]),(9,[]),(10,[1,3]),(11,[1,3]),(12,[]),(13,[]),(14,[]),(15,[]),(16,[]),(17,[]),(18,[])] [[],[0],[],[2],[2,3],[],[2,3,4,5],[],[],[8],[7,8,9],[7,8,9,10],[7,8,9,10,11],[7,8,9,10,11,12],[2,3,4,5,6,7,8,9,10,11,12,13],[2,3,4,5,6,7,8,9,10,11,12,13,14],[0,1,2,3,4,5,6,7,8,9,10,11,12,13,14,15],[0,1,2,3,4,5,6,7,8,9,10,11,12,13,14,15,16],[0,1,2,3,4,5,6,7,8,9,10,11,12,13,14,15,16,17]] 1 (by kernel_rfl) fun Aa iU=>?_
     refine Ap (aL RR (aL tr (aL ow kX))) ?_
     refine w4 (vj b i (7+k) (by omega) (by omega)) rfl ?_
     refine Ap (aL RR (aL tr (aL ow kX))) ?_
     refine w4 (Bq) rfl ?_
     refine Ap (aL RR (aL tr (aL ow kX))) ?_
     refine iU _ _ (l7 _ _ ?_)
     refine bA hp ax hc rfl fun BJ iT=>?_
     refine vN ?_
     refine iT _ _ ⟨_,_,_,?_,⟨k+1,qs++[⟨ts.length+k,1+n % 2,none,none⟩],⟨by omega,by simp[wI],MJ E3 ⟨by show 1≤1+n % 2;omega,by show 1+n % 2≤2;omega⟩⟩,rfl,rfl,rfl⟩,?_⟩
     ·first|omega|(simp only[List.length_cons];omega)|(dsimp only;omega)
     ·refine xB [0,1,2,3,4,5,6,7,8,9,10,14] ?_
      refine xz ?_
      refine Ec ?_;simp[jh,kp,EJ,iD,nS,oD,sD]
    ·have H7:k=nq:=by simp at ht;omega
     refine cL (gw _ _ ?_)
     refine jN ax hp hc mixed rfl [(0,[]),(1,[]),(2,[]),(3,[0,1]),(4,[1]),(5,[]),(6,[])] [[],[],[],[2],[0,2,3],[0,1,2,3,4],[0,1,2,3,4,5]] 0 (by kernel_rfl) fun IY nf=>?_
     refine YR ?_
     refine w4 (vj b i 9 (by omega) (by omega)) rfl ?_
     refine YR ?_
     refine nf _ _ ?_
     refine bI hp (τ':=aG [(2,.op 6 0),(3,.op 7 0),(4,.op 8 0)]) (H':=[.cells (au (rs.flatMap iw)),.cells (au (rs.map fun r=>iD r.w)),.cells (au (ms.flatMap jP)),.cells (au (ts.flatMap jg)),.cells (au (ts.map fun t=>iD t.w)),.cells (au (qs.flatMap jh)),.cells [.d (sD ⟨#[112]⟩),.d (sD ⟨#[97]⟩),.os 13 0 0 rs.length,.os 27 2 0 ms.length,.os 9 3 0 ts.length,.os 16 5 0 qs.length],.cells [.os 1 1 0 rs.length,.os 1 4 0 ts.length,.os 27 2 0 ms.length,.d (oD true)],.cells [.d (aE b),.d (iD (i+9:Nat))]]) ?_ ?_
     ·refine xB [6,7,8,9,10,11,1,2,3] ?_
      refine xz ?_
      refine Ec ?_;simp[aE,iD,oD,sD]
     refine bh ?_
     try dsimp only[fb,fc]
     refine jgh rfl ?_
     simp -dsimp -implicitDefEqProofs (disch:=first|assumption|omega|(simp only[aK,mu,mr,mq,lR]<;>omega)|decide) only[aP,↓reduceIte,Nat.reduceEqDiff,Nat.reduceAdd,D.fix,Int.reduceToNat,Nat.reduceMul,Nat.reduceBNe,Nat.reduceBEq,fF,bo,ew,iL,iK,nS,sD,Int.toNat_natCast,k8,zg,F1,Ns,Nr,JO,JN]
     show ∃_,_
     refine⟨rs,ms,ts,qs,⟨by omega,by omega,fun r hr=>(Bl r hr).1,mC,fun m hm=>(zP m hm).1,by omega,CQ,by omega,E3,fun r hr=>(Bl r hr).2,fun m hm=>(zP m hm).2⟩,?_,_,_,_,rfl⟩
     simp[aE,iD,oD,sD]
  refine aj (Aq (aL Qv Qu) ·) ?_
  refine aX rfl (fun ht=>?_) (fun ht=>?_)
  ·refine bC hp ax hc rfl fun K32 x5=>?_
   refine vN ?_
   refine cQ (vj b i 4 (by omega) (by omega)) rfl ?_
   refine vN ?_
   refine cQ (HQ) rfl ?_
   refine vN ?_
   refine x5 _ _ ?_
   refine bI hp (τ':=aG [(1,.op 0 0),(2,.op 1 0),(3,.op 2 0),(4,.op 3 0),(5,.d (iD y)),(6,.op 4 0),(7,.op 5 0),(11,.d (iD n2))]) (H':=[.cells (au (bo b i)),ew,iL,iK,.cells [.d (sD ⟨#[112]⟩),.d (sD ⟨#[97]⟩),.os 13 6 0 rs.length,.os 27 8 0 0,.d (.val (.slice none 0 0)),.d (.val (.slice none 0 0))],.cells [.os 1 7 0 rs.length,.d (.val (.slice none 0 0)),.d (.val (.slice none 0 0)),.d (oD true)],.cells (au (rs.flatMap iw)),.cells (au (rs.map fun r=>iD r.w)),.cells []]) ?_ ?_
   ·refine Rt.trans (Rt.gq 4 3 27 rfl rfl) ?_
    refine xB [0,1,2,3,4,5,6,7,9] ?_
    refine xz ?_
    exact Gw
   refine jN ax hp hc mixed rfl [(0,[]),(1,[]),(2,[]),(3,[]),(4,[]),(5,[]),(6,[]),(7,[]),(8,[]),(9,[]),(10,[]),(11,[]),(12,[]),(13,[1,10]),(14,[]),(15,[]),(16,[]),(17,[]),(18,[])] [[],[0],[],[2],[2,3],[],[],[6],[6,7],[5,6,7,8],[5,6,7,8,9],[],[11],[11,12],[2,3,4,5,6,7,8,9,10,11,12,13],[2,3,4,5,6,7,8,9,10,11,12,13,14],[0,1,2,3,4,5,6,7,8,9,10,11,12,13,14,15],[0,1,2,3,4,5,6,7,8,9,10,11,12,13,14,15,16],[0,1,2,3,4,5,6,7,8,9,10,11,12,13,14,15,16,17]] 2 (by kernel_rfl) fun IW nc=>?_
   refine Ap (aL HT (aL Br (aL HS (aL HU (aL ow Q4))))) ?_
   refine LO (jti (n2 / 8) ⟨#[109,101,109,48]⟩ (by omega)) rfl fun r hr=>?_
   obtain⟨rk,rf,rn,rfl⟩:=hr;simp only[sD]
   refine Ap (aL HT (aL Br (aL HS (aL HU (aL ow Q4))))) ?_
   refine nc _ _ ?_
   refine bA hp ax hc rfl fun Mh pD=>?_
   refine vN ?_
   refine pD _ _ (IB _ _ ⟨_,_,[⟨⟨#[109,101,109,48]⟩,1+n2 % 2,wo,none,none,none,rk,rf,rn⟩],⟨bm _,fun m hm=>by rw[sa.1 hm];exact⟨⟨by show 1≤1+n2 % 2;omega,by show 1+n2 % 2≤2;omega,by show wo=1∨wo=2∨wo=4;omega⟩,by show(⟨#[109,101,109,48]⟩:ByteArray).size≤9;decide⟩⟩,rfl,rfl,?_⟩)
   refine xB [0,1,2,3,4,5,6,7,11] ?_
   refine xz ?_
   refine Ec ?_;simp[jP,kp,EJ,sD,iD,nS,oD,au]
  ·refine bB (IB _ _ ⟨_,_,[],⟨cy _,fun m hm=>by cases hm⟩,rfl,rfl,?_⟩)
   refine Rt.trans (Rt.gq 4 3 27 rfl rfl) ?_
   refine Rt.trans (Rt.cell (id:=5) (j:=2) rfl rfl (np.nil 27 9 0)) ?_
   refine xB [0,1,2,3,4,5,6,7,9] ?_
   refine xz ?_
   exact Gw
end Go.Proofs.YtapjobndmmkanaaGreat
