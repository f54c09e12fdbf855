/- Processes that bytes describe: the frame. -/
import Derived.Test.YtapjobndmmkanaaGreatQr
import Derived.Test.YtapjobndmmkanaaGreatVd
set_option linter.unusedVariables false
set_option linter.unusedSimpArgs false
set_option maxRecDepth 100000
set_option maxHeartbeats 4000000
namespace Go.Proofs.YtapjobndmmkanaaGreat
open Go.Proofs.Tryz
open Go Go.RowKit
theorem ycm{P:Program}{t:TypeId}{a b:ByteArray}(h:a.size+b.size≤1000000):zg0 P .add t (.string a) (.string b)=some (.string (a++b)):=by simp[zg0,h]
theorem Imp.agg(cs:List D):Imp (.d (.agg cs)) (.agg (cs.map .d)):=fun w pl own v h=>by
 cases h with
 |d _ _ h=>
  cases h with
  |agg _ vs hl hx=>
   refine .agg _ vs (by simpa using hl) fun j x hj=>?_
   rw[List.getElem?_map,qah]at hj
   obtain⟨y,hy,rfl⟩:=hj
   exact .d _ _ (hx j y hy)
theorem ScS.dag{P:Program}{ks:List Nat}{f:FuncId}{cs:List D}{xs:List AV}{S:zad}{K:AV→zad→Prop}(h:ScS P ks f (.agg (cs.map .d)::xs) S K):ScS P ks f (.d (.agg cs)::xs) S K:=
 ⟨h.1,fun E w pl vals hl hx hh hE=>h.2 E w pl vals (by simpa using hl) (fun j y hj=>by
  cases j with
  |zero=>cases hj;exact Imp.agg cs _ _ _ _ (hx 0 _ rfl)
  |succ j=>exact hx (j+1) y hj) hh hE⟩
theorem jfm{P:Program}{fn:Func}{Q:AV→zad→Prop}{τ:Fr}{H:zad}{t u v:Tmp}{ta tb tc:TypeId}(h:fn.results.toList=[.cell t ta,.cell u tb,.cell v tc])
  (hq:oK (loadF P H.length H ta (τ t)) (tg fun x=>oK (loadF P H.length H tb (τ u)) (tg fun y=>oK (loadF P H.length H tc (τ v)) (tg fun z=>Q (.tup [x,y,z]) H)))):zgs P fn Q .ret τ H:=by
 obtain⟨x,h1,y,h2,z,h3,h4⟩:=hq
 show zsw P τ H fn.results.toList _
 rw[h];exact⟨x,zg8 h1,y,zg8 h2,z,zg8 h3,h4⟩
theorem ju0{p q:Prop}(hq:q)(h:p=q:=by
 conv=>lhs;simp -dsimp -implicitDefEqProofs (disch:=first|assumption|omega|(simp only[r_z,zb8,zbm]<;>omega)|decide) only[r_r,↓reduceIte,Nat.reduceEqDiff,Nat.reduceAdd,D.fix,Int.reduceToNat,Nat.reduceMul,Nat.reduceBNe,Nat.reduceBEq,zf6,zbk,scV,nI,exR,zei,zb4,zb5,qae]):p:=h.mpr hq
theorem jfn{p q:Prop}(hq:q)(h:p=q:=by
 conv=>lhs;simp -dsimp -implicitDefEqProofs (disch:=first|assumption|omega|(simp only[r_z,zb8,zbm]<;>omega)|decide) only[r_r,↓reduceIte,Nat.reduceEqDiff,Nat.reduceAdd,D.fix,Int.reduceToNat,Nat.reduceMul,Nat.reduceBNe,Nat.reduceBEq,r_w,zf6,zbk,scV,nI,exR,zei,zb4,zb5,qae]):p:=h.mpr hq
theorem yk3{m:List Nat}{τ τ':Fr}{H H':zad}(h2:H=H')(h:zgk τ τ':=by
 repeat (first|exact zaq _|refine zak ?_ (by first|rfl|(simp[r_f,zb8,zbm];done)|simp[r_f,zb8,zbm, *]))):Rt m τ H τ' H':=Rt.end h h2
theorem ycn{p q:Prop}(hq:q)(h:p=q:=by
 conv=>lhs;simp -dsimp -implicitDefEqProofs (disch:=first|assumption|omega|(simp only[r_z,zb8,zbm]<;>omega)|decide) only[r_r,↓reduceIte,Nat.reduceEqDiff,Nat.reduceAdd,D.fix,Int.reduceToNat,Nat.reduceMul,Nat.reduceBNe,Nat.reduceBEq,zf6,zbk,scV,nI,exR,zei,zb4,zb5,zjo,jjh]):p:=h.mpr hq
theorem yk4{p q:Prop}(hq:q)(h:p=q:=by
 conv=>lhs;simp only[r_g,Nat.reduceAdd,↓reduceIte,Nat.reduceEqDiff,zf6,zbk,scV,nI,exR,zei,zb4,zb5]):p:=h.mpr hq
theorem jsj(C:Ct)(s:Sc)(b:List Int)(i:Nat)(hC:CtOk C)(hs:ScOk C s)(hb:zg1 b)(hl:b.length≤maxLen)(hi:i≤7000000):ScS prog [0] 55 [zf6 b i,.agg (scV s)] ([zdv s,.free]) (TyQ C s b i 1 32 10):=by
 refine zbg (fn:=f55) (by kernel_rfl) func55 rfl (qaf rfl) fun c hc hp=>?_
 refine zdq ?_
 have hcp:jfi 2=8000000:=by decide
 have hc2:zx8 2=32:=by decide
 have hb2:byD 2=4:=by decide
 obtain⟨y,hy⟩:∃y:Nat,byN b i=y:=⟨(byN b i).toNat,by have:=(zgn hb i).1;omega⟩
 have hy2:=(zgn hb i).2
 have hyb:=ziw b i hb hl
 rw[hy]at hyb
 have hcn:=ybm 1 1 (by decide) (by decide)
 unfold exC at hcn
 have hT:=ycl C s b (i+1) 1 hC hs hb hl (by decide) (by decide) (by omega)
 refine szq (ju0 ·) ?_
 refine zaa fun K2 hK2=>?_
 refine zaf hp zah hc rfl fun K3 hK3=>?_
 refine ju0 ?_
 refine zbl (hyb) rfl ?_
 refine ju0 ?_
 refine hK3 _ _ ?_
 refine zan rfl (fun ht=>?_) (fun ht=>?_)
 ·refine zbc zah hp hc mixed rfl [(1,[]),(0,[1]),(2,[]),(3,[]),(4,[])] [[],[],[0,1],[0,1,2],[0,1,2,3]] 0 (by kernel_rfl) fun K4 hK4=>?_
  refine jfn ?_
  refine zrp (hcn) rfl ?_
  refine jfn ?_
  refine zrp (jfe b i 1 (by omega) (by omega)) rfl ?_
  refine jfn ?_
  refine hK4 _ _ ?_
  refine zav hp (τ':=frL [(4,.op 1 0)]) (H':=[zdv s,.cells [.d (iD 1),.d nS,.d (iD (1:Nat)),.d nS,.d (iD (1:Nat)),.d nS,.d (.fs [] 0),.d (bytesD b),.d (iD (i+1:Nat))]]) ?_ ?_
  ·refine Rt.trans (Rt.gc (keep:=[0,4]) (by decide) (by decide) (by simp[fzH,gcH])) ?_
   refine yk3 ?_
   refine yk4 ?_;simp[bytesD,iD,nS]
  refine zaj ?_
  try dsimp only[zcg,za5]
  refine za6 rfl ?_
  refine ycn ?_
  show ∃_,_
  exact⟨.con 1 1,i+1,⟨⟨by decide,by decide,by decide⟩,rfl,by simp[za8]⟩,by omega,by omega,by simp[tyV,exC,exR,zbk,nS,iD,bytesD],_,rfl⟩
 ·refine zai (hK2 _ _ ?_)
  refine zbc zah hp hc mixed rfl [(0,[]),(2,[]),(3,[]),(1,[2]),(4,[]),(5,[])] [[],[0],[],[],[0,1,2,3],[0,1,2,3,4]] 0 (by kernel_rfl) fun K5 hK5=>?_
  refine jfn ?_
  refine zrp (jfe b i 1 (by omega) (by omega)) rfl ?_
  refine jfn ?_
  refine zpl (S:=[zdv s,.free]) (T:=[.cells (avs (zbk b i)),.cells (scV s),zei]) (hT.dag) rfl (qaf rfl) (by first|rfl|(simp[AV.allIs,AV.allI,zas,zal,zam,okI,ltI,zae,zaz,zei,zbn,scV,zbk];done)|(intro o ho;simp at ho;done)) (fun t=>zbi (by first|rfl|(simp[AV.allIs,AV.allI,zas,zal,zam,okI,ltI,zae,zaz,zei,zbn,scV,zbk];done)|(intro o ho;simp at ho;done)) t) (fun t=>zbi (by first|rfl|(simp[AV.allIs,AV.allI,zas,zal,zam,okI,ltI,zae,zaz,zei,zbn,scV,zbk];done)|(intro o ho;simp at ho;done)) t) (by first|rfl|(simp[AV.allIs,AV.allI,zas,zal,zam,okI,ltI,zae,zaz,zei,zbn,scV,zbk];done)|(intro o ho;simp at ho;done)) (by first|rfl|(simp[AV.allIs,AV.allI,zas,zal,zam,okI,ltI,zae,zaz,zei,zbn,scV,zbk];done)|(intro o ho;simp at ho;done)) (by first|rfl|(simp[AV.allIs,AV.allI,zas,zal,zam,okI,ltI,zae,zaz,zei,zbn,scV,zbk];done)|(intro o ho;simp at ho;done)) ?_
  rintro _ _ ⟨e,j,he,hj1,hj2,rfl,g,rfl⟩
  refine⟨rfl,?_⟩
  obtain⟨xo,xk,xw,xc,xn,hex⟩:=zce e;unfold tyV;rw[hex];dsimp only[List.map_cons,List.map_nil,List.cons_append,List.nil_append,zbk]
  refine jfn ?_
  refine hK5 _ _ ?_
  refine zav hp (τ':=frL [(4,.op 1 0)]) (H':=[zdv s,.cells [.d (iD xo),.d nS,.d (iD xk),.d nS,.d (iD xw),.d nS,.d (.fs xc xn),.d (bytesD b),.d (iD j)]]) ?_ ?_
  ·refine Rt.trans (Rt.gc (keep:=[0,4]) (by decide) (by decide) (by simp[fzH,gcH])) ?_
   refine yk3 ?_
   refine yk4 ?_;simp[bytesD,iD,nS]
  refine zaj ?_
  try dsimp only[zcg,za5]
  refine za6 rfl ?_
  refine ycn ?_
  show ∃_,_
  exact⟨e,j,⟨he.t,he.w,by have:=he.n;omega⟩,by omega,by omega,by unfold tyV;rw[hex];simp[zbk,iD,bytesD],_,rfl⟩
theorem zho{s:ByteArray}:zcm (.d (.val (.string s)))=some [.d (.val (.string s))]:=rfl
theorem zxd{p q:Prop}(hq:q)(h:p=q:=by
 conv=>lhs;simp -dsimp -implicitDefEqProofs (disch:=first|assumption|omega|(simp only[r_z]<;>omega)|decide) only[r_r,↓reduceIte,Nat.reduceEqDiff,Nat.reduceAdd,D.fix,Int.reduceToNat,Nat.reduceMul,Nat.reduceBNe,Nat.reduceBEq,sD,zho,qae]):p:=h.mpr hq
theorem jnr{p q:Prop}(hq:q)(h:p=q:=by
 conv=>lhs;simp -dsimp -implicitDefEqProofs (disch:=first|assumption|omega|(simp only[r_z]<;>omega)|decide) only[r_r,↓reduceIte,Nat.reduceEqDiff,Nat.reduceAdd,D.fix,Int.reduceToNat,Nat.reduceMul,Nat.reduceBNe,Nat.reduceBEq,sD,zho,jjg,yaq]):p:=h.mpr hq
theorem ygx{p q:Prop}(hq:q)(h:p=q:=by
 conv=>lhs;simp (disch:=first|assumption|omega|(simp only[r_z]<;>omega)|decide) only[r_c,Nat.reduceAdd,D.fix,↓reduceIte,Nat.reduceEqDiff,sD,zho]):p:=h.mpr hq
theorem jsk(n:Nat)(s:ByteArray)(hn:n<1000):zg5 prog 110 [iD n,sD s] (fun r=>∃rk rf rn,r= .d (.agg [iD rk,sD rf,iD rn])):=by
 have h4:(n:Int) % 4=((n % 4:Nat):Int):=by omega
 refine zj9 (fn:=f110) (by kernel_rfl) func110 rfl (qaf rfl) fun c hc hp=>?_
 refine za0 (τ':=frL [(0,.d (iD n)),(1,.d (sD s))]) (by repeat (first|exact zaq _|refine zak ?_ (by first|rfl|(simp[r_f];done)|simp[r_f, *]))) ?_
 refine szq (zxd ·) ?_
 refine zaa fun K2 hK2=>?_
 refine zaf hp zah hc rfl fun K3 hK3=>?_
 simp -dsimp -implicitDefEqProofs (disch:=first|assumption|omega|(simp only[r_z]<;>omega)|decide) only[r_r,↓reduceIte,Nat.reduceEqDiff,Nat.reduceAdd,D.fix,Int.reduceToNat,Nat.reduceMul,Nat.reduceBNe,Nat.reduceBEq,sD,zho,h4,qae]
 refine hK3 _ _ ?_
 refine zag ?_
 refine szq (zxd ·) ?_
 refine zan rfl (fun ht=>?_) (fun ht=>?_)
 ·refine szq (zxd ·) ?_
  refine zaj ?_
  try dsimp only[zcg,za5]
  refine za6 rfl ?_
  refine jnr ?_
  show ∃r,closeA _ _=some r∧_
  refine ygx ?_
  exact⟨_,rfl,1,⟨#[]⟩,0,by simp[iD,sD]⟩
 ·refine szq (zxd ·) ?_
  refine zan rfl (fun ht=>?_) (fun ht=>?_)
  ·refine szq (zxd ·) ?_
   refine zaj ?_
   try dsimp only[zcg,za5]
   refine za6 rfl ?_
   refine jnr ?_
   show ∃r,closeA _ _=some r∧_
   refine ygx ?_
   exact⟨_,rfl,2,s,0,by simp[iD,sD]⟩
  ·refine szq (zxd ·) ?_
   refine zan rfl (fun ht=>?_) (fun ht=>?_)
   ·refine szq (zxd ·) ?_
    refine zaj ?_
    try dsimp only[zcg,za5]
    refine za6 rfl ?_
    refine jnr ?_
    show ∃r,closeA _ _=some r∧_
    refine ygx ?_
    exact⟨_,rfl,3,s,(n:Int) / 4 % 5,by simp[iD,sD]⟩
   ·refine zai (hK2 _ _ ?_)
    refine szq (zxd ·) ?_
    refine zaj ?_
    try dsimp only[zcg,za5]
    refine za6 rfl ?_
    refine jnr ?_
    show ∃r,closeA _ _=some r∧_
    refine ygx ?_
    exact⟨_,rfl,0,⟨#[]⟩,0,by simp[iD,sD]⟩
def jfo:List D:=[iD 0,nS,iD 0,nS,iD 0,nS,.val (.slice none 0 0)]
def exO:Option Ex→List D
 |none=>jfo
 |some e=>exC e
theorem zju(o:Option Ex):(exO o).length=7:=by cases o<;>simp[exO,jfo,zrv]
structure RG where
 name:ByteArray
 w:Nat
 init:Nat
 nx:Option Ex
 rk:Int
 rf:ByteArray
 rn:Int
 deriving Inhabited
structure MG where
 name:ByteArray
 w:Nat
 words:Nat
 en:Option Ex
 ad:Option Ex
 da:Option Ex
 rk:Int
 rf:ByteArray
 rn:Int
 deriving Inhabited
structure TG where
 chan:Nat
 w:Nat
 wh:Option Ex
 deriving Inhabited
structure QG where
 chan:Nat
 w:Nat
 wh:Option Ex
 da:Option Ex
 deriving Inhabited
def rgC(r:RG):List D:=[sD r.name,iD r.w,iD r.init]++(exO r.nx++[iD r.rk,sD r.rf,iD r.rn])
def mgC(m:MG):List D:=[sD m.name,iD m.w,iD m.words]++(exO m.en++(exO m.ad++(exO m.da++[iD m.rk,sD m.rf,iD m.rn])))
def tgC(t:TG):List D:=[iD t.chan,iD t.w]++exO t.wh
def qgC(q:QG):List D:=[iD q.chan,iD q.w]++(exO q.wh++exO q.da)
theorem yik(r:RG):(rgC r).length=13:=by simp[rgC,zju]
theorem yco(r:MG):(mgC r).length=27:=by simp[mgC,zju]
theorem yil(r:TG):(tgC r).length=9:=by simp[tgC,zju]
theorem ygy(r:QG):(qgC r).length=16:=by simp[qgC,zju]
theorem zcv{l:List RG}:(l.flatMap rgC).length=l.length*13:=zc1 yik l
theorem zcw{l:List MG}:(l.flatMap mgC).length=l.length*27:=zc1 yco l
theorem zcx{l:List TG}:(l.flatMap tgC).length=l.length*9:=zc1 yil l
theorem zct{l:List QG}:(l.flatMap qgC).length=l.length*16:=zc1 ygy l
theorem yk5{l:List RG}{k:Nat}(h:k<l.length):(l.flatMap rgC)[k*13+1]? =some (iD (nth l k).w):=(zdk (j:=1) yik h (by omega)).trans rfl
theorem ym8{l:List MG}{k:Nat}(h:k<l.length):(l.flatMap mgC)[k*27+1]? =some (iD (nth l k).w):=(zdk (j:=1) yco h (by omega)).trans rfl
theorem ym9{l:List TG}{k:Nat}(h:k<l.length):(l.flatMap tgC)[k*9+1]? =some (iD (nth l k).w):=(zdk (j:=1) yil h (by omega)).trans rfl
theorem yna{l:List QG}{k:Nat}(h:k<l.length):(l.flatMap qgC)[k*16+1]? =some (iD (nth l k).w):=(zdk (j:=1) ygy h (by omega)).trans rfl
theorem ygz{a b c d:Int}{i:Nat}(h:i<4):([.d (.val (.int .i64 a)),.d (.val (.int .i64 b)),.d (.val (.int .i64 c)),.d (.val (.int .i64 d))]:List AV)[i]? =some (.d (.val (.int .i64 (nth [a,b,c,d] i)))):=by
 rcases(show i=0∨i=1∨i=2∨i=3 by omega)with rfl|rfl|rfl|rfl<;>rfl
theorem yim{a b c d:Int}{i:Nat}(h:i<4):([.val (.int .i64 a),.val (.int .i64 b),.val (.int .i64 c),.val (.int .i64 d)]:List D)[i]? =some (.val (.int .i64 (nth [a,b,c,d] i))):=by
 rcases(show i=0∨i=1∨i=2∨i=3 by omega)with rfl|rfl|rfl|rfl<;>rfl
theorem jj8(a b c d:Nat){i:Nat}(h:i<4):nth ([(a:Int),b,c,d]:List Int) i=((nth [a,b,c,d] i:Nat):Int)∧(nth [a,b,c,d] i=a∨nth [a,b,c,d] i=b∨nth [a,b,c,d] i=c∨nth [a,b,c,d] i=d):=by
 rcases(show i=0∨i=1∨i=2∨i=3 by omega)with rfl|rfl|rfl|rfl<;>exact⟨rfl,by simp[nth]⟩
structure FrR (rs:List RG) (ms:List MG) (ts:List TG) (qs:List QG):Prop where
 r1:1≤rs.length
 r3:rs.length≤3
 rw:∀r∈rs,1≤r.w∧r.w≤3
 m1:ms.length≤1
 mw:∀m∈ms,1≤m.w∧m.w≤2∧(m.words=1∨m.words=2∨m.words=4)
 t2:ts.length≤2
 tw:∀t∈ts,1≤t.w∧t.w≤2
 q2:qs.length≤2
 qw:∀q∈qs,1≤q.w∧q.w≤2
 nr:∀r∈rs,r.name.size≤9
 nm:∀m∈ms,m.name.size≤9
def FrK(b:List Int)(i:Nat)(x:AV)(S':zad):Prop:=∃(rs:List RG) (ms:List MG) (ts:List TG) (qs:List QG),FrR rs ms ts qs∧
 x= .tup [.agg [.d (sD ⟨#[112]⟩),.d (sD ⟨#[97]⟩),.os 13 0 0 rs.length,.os 27 2 0 ms.length,.os 9 3 0 ts.length,.os 16 5 0 qs.length],.agg [.os 1 1 0 rs.length,.os 1 4 0 ts.length,.os 27 2 0 ms.length,.d (oD true)],.agg [.d (bytesD b),.d (iD (i+9:Nat))]]∧
 ∃g1 g2 g3,S'=[.cells (avs (rs.flatMap rgC)),.cells (avs (rs.map fun r=>iD r.w)),.cells (avs (ms.flatMap mgC)),.cells (avs (ts.flatMap tgC)),.cells (avs (ts.map fun t=>iD t.w)),.cells (avs (qs.flatMap qgC)),.cells g1,.cells g2,.cells g3]
theorem v_r{P:Program}{t:TypeId}{s:ByteArray}(h:s.size≤3):zg0 P .add t (.string ⟨#[114]⟩) (.string s)=some (.string (⟨#[114]⟩++s)):=ycm (by have:(⟨#[114]⟩:ByteArray).size=1:=rfl;omega)
def z81:AObj:=.cells [.d nS,.d nS,.d (.val (.slice none 0 0)),.d (.val (.slice none 0 0)),.d (.val (.slice none 0 0)),.d (.val (.slice none 0 0))]
def zij:AObj:=.cells [.d (.val (.slice none 0 0)),.d (.val (.slice none 0 0)),.d (.val (.slice none 0 0)),.d (oD false)]
def zik:AObj:=.cells [.d (.val (.slice none 0 0)),.d (iD 0)]
theorem zpx{p q:Prop}(hq:q)(h:p=q:=by
 conv=>lhs;simp -dsimp -implicitDefEqProofs (disch:=first|assumption|omega|(simp only[r_z,zcv,zcw,zcx,zct]<;>omega)|decide) only[r_r,↓reduceIte,Nat.reduceEqDiff,Nat.reduceAdd,D.fix,Int.reduceToNat,Nat.reduceMul,Nat.reduceBNe,Nat.reduceBEq,zf6,zbk,z81,zij,zik,nS,sD,Int.toNat_natCast,zho,qae]):p:=h.mpr hq
theorem ju1{p q:Prop}(hq:q)(h:p=q:=by
 conv=>lhs;simp -dsimp -implicitDefEqProofs (disch:=first|assumption|omega|(simp only[r_z,zcv,zcw,zcx,zct]<;>omega)|decide) only[r_r,↓reduceIte,Nat.reduceEqDiff,Nat.reduceAdd,D.fix,Int.reduceToNat,Nat.reduceMul,Nat.reduceBNe,Nat.reduceBEq,zf6,zbk,z81,zij,zik,nS,sD,Int.toNat_natCast,zho]):p:=h.mpr hq
theorem jj9(k:List Nat){m:List Nat}{τ τ1:Fr}{H H1:zad}(h:Rt m (fun t=>gcV k (τ t)) (gcH k H) τ1 H1)(a:∀i∈m,k[i]? =some i:=by decide)(b:k.Nodup:=by decide)(c:∀i∈k,i<H.length:=by
 simp[fzH,gcH]):Rt m τ H τ1 H1:=Rt.trans (Rt.gc a b c) h
theorem jka{m:List Nat}{τ τ':Fr}{H H':zad}(h2:H=H')(h:zgk τ τ':=by
 repeat (first|exact zaq _|refine zak ?_ (by first|rfl|(simp[r_f,zcv,zcw,zcx,zct];done)|simp[r_f,zcv,zcw,zcx,zct, *]))):Rt m τ H τ' H':=Rt.end h h2
theorem zxe{p q r:Prop}(e:r)(hq:q)(h:r→p=q:=by
 intro hY
 conv=>lhs;simp -dsimp -implicitDefEqProofs (disch:=first|assumption|omega|(simp only[r_z,zcv,zcw,zcx,zct]<;>omega)|decide) only[r_r,↓reduceIte,Nat.reduceEqDiff,Nat.reduceAdd,D.fix,Int.reduceToNat,Nat.reduceMul,Nat.reduceBNe,Nat.reduceBEq,zf6,zbk,z81,zij,zik,nS,sD,Int.toNat_natCast,zho,qae,hY]):p:=(h e).mpr hq
theorem jns{p q r:Prop}(e:r)(hq:q)(h:r→p=q:=by
 intro hY
 conv=>lhs;simp -dsimp -implicitDefEqProofs (disch:=first|assumption|omega|(simp only[r_z,zcv,zcw,zcx,zct]<;>omega)|decide) only[r_r,↓reduceIte,Nat.reduceEqDiff,Nat.reduceAdd,D.fix,Int.reduceToNat,Nat.reduceMul,Nat.reduceBNe,Nat.reduceBEq,r_w,zf6,zbk,z81,zij,zik,nS,sD,Int.toNat_natCast,zho,v_r hs0,v_r hs1,qae,hY]):p:=(h e).mpr hq
theorem zxf{p q r:Prop}(e:r)(hq:q)(h:r→p=q:=by
 intro hY
 conv=>lhs;simp -dsimp -implicitDefEqProofs (disch:=first|assumption|omega|(simp only[r_z,zcv,zcw,zcx,zct]<;>omega)|decide) only[r_r,↓reduceIte,Nat.reduceEqDiff,Nat.reduceAdd,D.fix,Int.reduceToNat,Nat.reduceMul,Nat.reduceBNe,Nat.reduceBEq,r_w,zf6,zbk,z81,zij,zik,nS,sD,Int.toNat_natCast,zho,qae,hY]):p:=(h e).mpr hq
theorem ycp{p q:Prop}(hq:q)(h:p=q:=by
 conv=>lhs;simp -dsimp -implicitDefEqProofs (disch:=first|assumption|omega|(simp only[r_z,zcv,zcw,zcx,zct]<;>omega)|decide) only[r_r,↓reduceIte,Nat.reduceEqDiff,Nat.reduceAdd,D.fix,Int.reduceToNat,Nat.reduceMul,Nat.reduceBNe,Nat.reduceBEq,r_w,zf6,zbk,z81,zij,zik,nS,sD,Int.toNat_natCast,zho,qae]):p:=h.mpr hq
theorem ycq{p:Prop}(h:p:=by
 first|rfl|(simp only[r_g,Nat.reduceAdd,↓reduceIte,Nat.reduceEqDiff,zf6,zbk,z81,zij,zik,nS,sD,Int.toNat_natCast,zho];first|done|rfl)):p:=h
theorem jxm{p q:Prop}(hq:q)(h:p=q:=by
 conv=>lhs;simp only[r_g,Nat.reduceAdd,↓reduceIte,Nat.reduceEqDiff,zf6,zbk,z81,zij,zik,nS,sD,Int.toNat_natCast,zho]):p:=h.mpr hq
theorem ju2(b:List Int)(i:Nat)(hb:zg1 b)(hl:b.length≤maxLen)(hi:i≤1000000):ScS prog [] 54 [zf6 b i] ([.free,.free,.free,.free,.free,.free,.free,.free,.free]) (FrK b i):=by
 refine zbg (fn:=f54) (by kernel_rfl) func54 rfl (qaf rfl) fun c hc hp=>?_
 refine zrg ?_
 obtain⟨y,hy⟩:∃y:Nat,byN b i=y:=⟨(byN b i).toNat,by have:=(zgn hb i).1;omega⟩
 have hy2:=(zgn hb i).2
 have hyb:=ziw b i hb hl
 rw[hy]at hyb
 have hy4:(y:Int) % 4=((y % 4:Nat):Int):=by omega
 have l4:y % 4<4:=Nat.mod_lt _ (by decide)
 obtain⟨p1,p2⟩:=jj8 1 1 2 3 l4
 obtain⟨nr,hnr⟩:∃nr,nr=nth [1,1,2,3] (y % 4):=⟨_,rfl⟩
 rw[←hnr]at p1 p2
 have hl1:=ygz (a:=1) (b:=1) (c:=2) (d:=3) l4
 rw[show nth ([1,1,2,3]:List Int) (y % 4)=(nr:Int) from p1]at hl1
 refine szq (zpx ·) ?_
 refine zaf hp zah hc rfl fun K2 hK2=>?_
 refine zpx ?_
 refine zbl (hyb) rfl ?_
 refine zpx ?_
 refine hK2 _ _ ?_
 refine szq (zpx ·) ?_
 refine zaa fun K4 hK4=>?_
 refine szq (ju1 ·) ?_
 refine zag ?_
 refine zao hp (fun τ' H' mm=>∃(k:Nat) (rs:List RG),(k≤nr∧rs.length=k∧∀r∈rs,(1≤r.w∧r.w≤3)∧r.name.size≤9)∧mm=nr - k∧H'=[.cells (avs (zbk b i)),z81,zij,zik,.cells [.d (sD ⟨#[112]⟩),.d (sD ⟨#[97]⟩),.os 13 6 0 rs.length,.d (.val (.slice none 0 0)),.d (.val (.slice none 0 0)),.d (.val (.slice none 0 0))],.cells [.os 1 7 0 rs.length,.d (.val (.slice none 0 0)),.d (.val (.slice none 0 0)),.d (oD true)],.cells (avs (rs.flatMap rgC)),.cells (avs (rs.map fun r=>iD r.w))]∧τ'=frL [(1,.op 0 0),(2,.op 1 0),(3,.op 2 0),(4,.op 3 0),(5,.d (iD y)),(6,.op 4 0),(7,.op 5 0),(8,.d (iD k))]) (nr) ?_ ⟨0,[],⟨qap _,rfl,fun r hr=>by cases hr⟩,rfl,rfl,rfl⟩ ?_
 ·refine Rt.trans (Rt.nilc 13 2 13 rfl rfl) ?_
  refine Rt.trans (Rt.nilc 14 0 1 rfl rfl) ?_
  refine jj9 [9,10,11,12,13,14,15,16] ?_
  refine jka ?_
  exact ycq
 rintro τ' H' mm ⟨k,rs,⟨hk,hrl,hrw⟩,rfl,rfl,rfl⟩
 refine zaa fun K6 hK6=>?_
 refine szq (zxe (sza hy4 hl1) ·) ?_
 refine zan rfl (fun ht=>?_) (fun ht=>?_)
 ·have hlt:k<nr:=by simp at ht;omega
  obtain⟨n,hn⟩:∃n:Nat,byN b (i+(1+k))=n:=⟨(byN b (i+(1+k))).toNat,by have:=(zgn hb (i+(1+k))).1;omega⟩
  have hn2:=(zgn hb (i+(1+k))).2
  have hnb:=ziw b (i+(1+k)) hb hl
  rw[hn]at hnb
  have h1k:(1:Int)+(k:Int)=((1+k:Nat):Int):=by omega
  have hn4:(n:Int) % 4=((n % 4:Nat):Int):=by omega
  have ln4:n % 4<4:=Nat.mod_lt _ (by decide)
  obtain⟨u1,u2⟩:=jj8 1 2 1 3 ln4
  obtain⟨w,hw⟩:∃w,w=nth [1,2,1,3] (n % 4):=⟨_,rfl⟩
  rw[←hw]at u1 u2
  have hl2:=ygz (a:=1) (b:=2) (c:=1) (d:=3) ln4
  rw[show nth ([1,2,1,3]:List Int) (n % 4)=(w:Int) from u1]at hl2
  have hnq:(n:Int) / 4=((n / 4:Nat):Int):=by omega
  have hn16:(n:Int) / 16=((n / 16:Nat):Int):=by omega
  have hn163:((n / 16:Nat):Int) % 3=((n / 16 % 3:Nat):Int):=by omega
  have l163:n / 16 % 3<3:=Nat.mod_lt _ (by decide)
  have hu:IntKind.u64.wrap (w:Int)=w:=je4 (by omega) (by omega)
  have hs:=jff (w:=w) (by omega)
  have hm:=zna (v:=n / 4) (w:=w) (by omega) (by omega)
  have hp0:=Nat.two_pow_pos w
  have hp2:2^w≤256:=Nat.le_trans (qba (by decide) (show w≤8 by omega)) (show 2^8≤256 by decide)
  obtain⟨M,hM⟩:∃M:Nat,2^w=M:=⟨_,rfl⟩
  rw[hM]at hs hm hp0 hp2
  obtain⟨s0,hs0,hc0⟩:=jjw (n:=k) (by omega)
  obtain⟨s1,hs1,hc1⟩:=jjw (n:=n / 16 % 3) (by omega)
  refine zai (hK6 _ _ ?_)
  refine zaa fun K8 hK8=>?_
  refine zag ?_
  refine zaf hp zah hc rfl fun K9 hK9=>?_
  refine zxe h1k ?_
  refine zbl (jfe b i (1+k) (by omega) (by omega)) rfl ?_
  refine zxe h1k ?_
  refine zbl (hnb) rfl ?_
  refine zxe h1k ?_
  refine hK9 _ _ ?_
  refine szq (zxe (sza hn4 hl2) ·) ?_
  refine zbc zah hp hc mixed rfl [(0,[]),(1,[]),(2,[]),(5,[]),(6,[]),(7,[]),(8,[]),(9,[]),(10,[]),(11,[]),(12,[]),(13,[]),(14,[]),(15,[]),(16,[]),(17,[]),(3,[1]),(4,[]),(18,[1]),(19,[]),(20,[1]),(21,[]),(22,[]),(23,[]),(24,[]),(25,[])] [[],[0],[],[2],[2,3],[],[],[6],[],[8],[8,9],[8,9,10],[6,7,8,9,10,11],[],[13],[],[15],[15,16],[2,3,15,16,17],[2,3,15,16,17,18],[2,3,13,14,15,16,17,18,19],[2,3,4,5,6,7,8,9,10,11,12,13,14,15,16,17,18,19,20],[2,3,4,5,6,7,8,9,10,11,12,13,14,15,16,17,18,19,20,21],[0,1,2,3,4,5,6,7,8,9,10,11,12,13,14,15,16,17,18,19,20,21,22],[0,1,2,3,4,5,6,7,8,9,10,11,12,13,14,15,16,17,18,19,20,21,22,23],[0,1,2,3,4,5,6,7,8,9,10,11,12,13,14,15,16,17,18,19,20,21,22,23,24]] 1 (by kernel_rfl) fun K11 hK11=>?_
  refine jns (sza hnq (sza hn16 (sza hn163 (sza hu (sza hs hm))))) ?_
  refine zrp (hc0) rfl ?_
  refine jns (sza hnq (sza hn16 (sza hn163 (sza hu (sza hs hm))))) ?_
  refine zrp (hc1) rfl ?_
  refine jns (sza hnq (sza hn16 (sza hn163 (sza hu (sza hs hm))))) ?_
  refine ji6 (jsk (n / 16) (⟨#[114]⟩++s1) (by omega)) rfl fun r hr=>?_
  obtain⟨rk,rf,rn,rfl⟩:=hr;simp only[sD]
  refine jns (sza hnq (sza hn16 (sza hn163 (sza hu (sza hs hm))))) ?_
  refine hK11 _ _ ?_
  refine szs (zpx ·) (hK8 _ _ ?_)
  refine za1 hp zah hc rfl fun K13 hK13=>?_
  refine zpx ?_
  refine hK13 _ _ ⟨_,_,_,?_,⟨k+1,rs++[⟨⟨#[114]⟩++s0,w,n / 4 % M,none,rk,rf,rn⟩],⟨by omega,by simp[hrl],zu7 hrw ⟨⟨by show 1≤w;omega,by show w≤3;omega⟩,by show((⟨#[114]⟩:ByteArray)++s0).size≤9;rw[ByteArray.size_append,show(⟨#[114]⟩:ByteArray).size=1 from rfl];omega⟩⟩,rfl,rfl,rfl⟩,?_⟩
  ·first|omega|(simp only[List.length_cons];omega)|(dsimp only;omega)
  ·refine jj9 [0,1,2,3,4,5,11,13] ?_
   refine jka ?_
   refine jxm ?_;simp[rgC,exO,jfo,sD,iD,nS,oD]
 ·have hkk:k=nr:=by simp at ht;omega
  have hyq:(y:Int) / 4=((y / 4:Nat):Int):=by omega
  have hyq4:((y / 4:Nat):Int) % 4=((y / 4 % 4:Nat):Int):=by omega
  obtain⟨n2,hn2⟩:∃n:Nat,byN b (i+4)=n:=⟨(byN b (i+4)).toNat,by have:=(zgn hb (i+4)).1;omega⟩
  have hn22:=(zgn hb (i+4)).2
  have hnb2:=ziw b (i+4) hb hl
  rw[hn2]at hnb2
  have ln24:n2 / 2 % 4<4:=Nat.mod_lt _ (by decide)
  obtain⟨v1,v2⟩:=jj8 2 1 4 2 ln24
  obtain⟨wo,hwo⟩:∃w,w=nth [2,1,4,2] (n2 / 2 % 4):=⟨_,rfl⟩
  rw[←hwo]at v1 v2
  have hl3:=yim (a:=2) (b:=1) (c:=4) (d:=2) ln24
  rw[show nth ([2,1,4,2]:List Int) (n2 / 2 % 4)=(wo:Int) from v1]at hl3
  have hn2q:(n2:Int) / 2=((n2 / 2:Nat):Int):=by omega
  have hn2q4:((n2 / 2:Nat):Int) % 4=((n2 / 2 % 4:Nat):Int):=by omega
  have hn2r:(n2:Int) % 2=((n2 % 2:Nat):Int):=by omega
  have hn28:(n2:Int) / 8=((n2 / 8:Nat):Int):=by omega
  have hw1c:(1:Int)+((n2 % 2:Nat):Int)=((1+n2 % 2:Nat):Int):=by omega
  have ln22:n2 % 2<2:=Nat.mod_lt _ (by decide)
  refine zau (hK4 _ _ ?_)
  refine zaa fun K14 hK14=>?_
  have hJ14:∀τ' H',(∃τ1 H1,∃(ms:List MG),(ms.length≤1∧∀m∈ms,(1≤m.w∧m.w≤2∧(m.words=1∨m.words=2∨m.words=4))∧m.name.size≤9)∧H1=[.cells (avs (zbk b i)),z81,zij,zik,.cells [.d (sD ⟨#[112]⟩),.d (sD ⟨#[97]⟩),.os 13 6 0 rs.length,.os 27 8 0 ms.length,.d (.val (.slice none 0 0)),.d (.val (.slice none 0 0))],.cells [.os 1 7 0 rs.length,.d (.val (.slice none 0 0)),.os 27 8 0 ms.length,.d (oD true)],.cells (avs (rs.flatMap rgC)),.cells (avs (rs.map fun r=>iD r.w)),.cells (avs (ms.flatMap mgC))]∧τ1=frL [(1,.op 0 0),(2,.op 1 0),(3,.op 2 0),(4,.op 3 0),(5,.d (iD y)),(6,.op 4 0),(7,.op 5 0)]∧Rt [] τ' H' τ1 H1)→K14 τ' H':=by
   rintro τ' H' ⟨_,_,ms,⟨hml,hmw⟩,rfl,rfl,hrt⟩
   refine hK14 _ _ (zav hp hrt ?_)
   clear hrt
   refine zaa fun K15 hK15=>?_
   have ly4:y / 16 % 4<4:=Nat.mod_lt _ (by decide)
   obtain⟨q1,q2⟩:=jj8 1 0 1 2 ly4
   obtain⟨nt,hnt⟩:∃nt,nt=nth [1,0,1,2] (y / 16 % 4):=⟨_,rfl⟩
   rw[←hnt]at q1 q2
   have hl4:=ygz (a:=1) (b:=0) (c:=1) (d:=2) ly4
   rw[show nth ([1,0,1,2]:List Int) (y / 16 % 4)=(nt:Int) from q1]at hl4
   have hy16:(y:Int) / 16=((y / 16:Nat):Int):=by omega
   have hy164:((y / 16:Nat):Int) % 4=((y / 16 % 4:Nat):Int):=by omega
   refine szq (ju1 ·) ?_
   refine zag ?_
   refine zao hp (fun τ' H' mm=>∃(k:Nat) (ts:List TG),(k≤nt∧ts.length=k∧∀t∈ts,1≤t.w∧t.w≤2)∧mm=nt - k∧H'=[.cells (avs (zbk b i)),z81,zij,zik,.cells [.d (sD ⟨#[112]⟩),.d (sD ⟨#[97]⟩),.os 13 6 0 rs.length,.os 27 8 0 ms.length,.os 9 9 0 ts.length,.d (.val (.slice none 0 0))],.cells [.os 1 7 0 rs.length,.os 1 10 0 ts.length,.os 27 8 0 ms.length,.d (oD true)],.cells (avs (rs.flatMap rgC)),.cells (avs (rs.map fun r=>iD r.w)),.cells (avs (ms.flatMap mgC)),.cells (avs (ts.flatMap tgC)),.cells (avs (ts.map fun t=>iD t.w))]∧τ'=frL [(1,.op 0 0),(2,.op 1 0),(3,.op 2 0),(4,.op 3 0),(5,.d (iD y)),(6,.op 4 0),(7,.op 5 0),(12,.d (iD k))]) (nt) ?_ ⟨0,[],⟨qap _,rfl,fun r hr=>by cases hr⟩,rfl,rfl,rfl⟩ ?_
   ·refine Rt.trans (Rt.nilc 4 4 9 rfl rfl) ?_
    refine Rt.trans (Rt.nilc 5 1 1 rfl rfl) ?_
    refine jj9 [0,1,2,3,4,5,6,7,8,9,10] ?_
    refine jka ?_
    exact ycq
   rintro τ' H' mm ⟨k,ts,⟨hk2,htl,htw⟩,rfl,rfl,rfl⟩
   refine zaa fun K17 hK17=>?_
   refine szq (zxe (sza hy16 (sza hy164 hl4)) ·) ?_
   refine zan rfl (fun ht=>?_) (fun ht=>?_)
   ·have hlt:k<nt:=by simp at ht;omega
    obtain⟨n,hn⟩:∃n:Nat,byN b (i+(5+k))=n:=⟨(byN b (i+(5+k))).toNat,by have:=(zgn hb (i+(5+k))).1;omega⟩
    have hn2:=(zgn hb (i+(5+k))).2
    have hnb:=ziw b (i+(5+k)) hb hl
    rw[hn]at hnb
    have h5k:(5:Int)+(k:Int)=((5+k:Nat):Int):=by omega
    have hnr2:(n:Int) % 2=((n % 2:Nat):Int):=by omega
    have hw1c:(1:Int)+((n % 2:Nat):Int)=((1+n % 2:Nat):Int):=by omega
    have ln22:n % 2<2:=Nat.mod_lt _ (by decide)
    refine zai (hK17 _ _ ?_)
    refine zaa fun K19 hK19=>?_
    refine zag ?_
    refine zbc zah hp hc mixed rfl [(0,[]),(1,[]),(2,[]),(3,[]),(4,[]),(5,[]),(6,[1]),(7,[1]),(8,[]),(9,[]),(10,[]),(11,[]),(12,[]),(13,[]),(14,[])] [[],[0],[],[],[],[4],[3,4,5],[3,4,5,6],[3,4,5,6,7],[3,4,5,6,7,8],[2,3,4,5,6,7,8,9],[2,3,4,5,6,7,8,9,10],[0,1,2,3,4,5,6,7,8,9,10,11],[0,1,2,3,4,5,6,7,8,9,10,11,12],[0,1,2,3,4,5,6,7,8,9,10,11,12,13]] 1 (by kernel_rfl) fun K20 hK20=>?_
    refine zxf (sza h5k (sza hnr2 hw1c)) ?_
    refine zrp (jfe b i (5+k) (by omega) (by omega)) rfl ?_
    refine zxf (sza h5k (sza hnr2 hw1c)) ?_
    refine zrp (hnb) rfl ?_
    refine zxf (sza h5k (sza hnr2 hw1c)) ?_
    refine hK20 _ _ ?_
    refine zav hp (τ':=frL [(1,.op 0 0),(2,.op 1 0),(3,.op 2 0),(4,.op 3 0),(5,.d (iD y)),(6,.op 4 0),(7,.op 5 0),(12,.d (iD k))]) (H':=[.cells (avs (zbk b i)),z81,zij,zik,.cells [.d (sD ⟨#[112]⟩),.d (sD ⟨#[97]⟩),.os 13 6 0 rs.length,.os 27 8 0 ms.length,.os 9 9 0 (ts++[TG.mk k (1+n % 2) none]).length,.d (.val (.slice none 0 0))],.cells [.os 1 7 0 rs.length,.os 1 10 0 ts.length,.os 27 8 0 ms.length,.d (oD true)],.cells (avs (rs.flatMap rgC)),.cells (avs (rs.map fun r=>iD r.w)),.cells (avs (ms.flatMap mgC)),.cells (avs ((ts++[TG.mk k (1+n % 2) none]).flatMap tgC)),.cells (avs (ts.map fun t=>iD t.w))]) ?_ ?_
    ·refine jj9 [0,1,2,3,4,5,6,7,8,13,10] ?_
     refine jka ?_
     refine jxm ?_;simp[tgC,exO,jfo,iD,nS,sD,oD]
    have hkt:k<(ts++[TG.mk k (1+n % 2) none]).length:=by simp;omega
    have hnk:nth (ts++[TG.mk k (1+n % 2) none]) k=TG.mk k (1+n % 2) none:=by rw[←htl,zfj]
    refine zov zah hc mixed rfl (q:=2) (by kernel_rfl) (by kernel_rfl) fun K21 hK21=>?_
    simp -dsimp -implicitDefEqProofs (disch:=first|assumption|omega|(simp only[r_z,zcv,zcw,zcx,zct]<;>omega)|decide) only[r_r,↓reduceIte,Nat.reduceEqDiff,Nat.reduceAdd,D.fix,Int.reduceToNat,Nat.reduceMul,Nat.reduceBNe,Nat.reduceBEq,zf6,zbk,z81,zij,zik,nS,sD,Int.toNat_natCast,zho,ym9,hnk,qae]
    refine hK21 _ _ (hK19 _ _ ?_)
    refine za1 hp zah hc rfl fun K22 hK22=>?_
    refine zpx ?_
    refine hK22 _ _ ⟨_,_,_,?_,⟨k+1,ts++[TG.mk k (1+n % 2) none],⟨by omega,by simp[htl],zu7 htw ⟨by show 1≤1+n % 2;omega,by show 1+n % 2≤2;omega⟩⟩,rfl,rfl,rfl⟩,?_⟩
    ·first|omega|(simp only[List.length_cons];omega)|(dsimp only;omega)
    ·refine jj9 [0,1,2,3,4,5,6,7,8,9,12] ?_
     refine jka ?_
     refine jxm ?_;simp[iD,oD,sD,nS]
   ·have hkk2:k=nt:=by simp at ht;omega
    have ly64:y / 64 % 4<4:=Nat.mod_lt _ (by decide)
    obtain⟨r1,r2⟩:=jj8 1 1 0 2 ly64
    obtain⟨nq,hnq⟩:∃nq,nq=nth [1,1,0,2] (y / 64 % 4):=⟨_,rfl⟩
    rw[←hnq]at r1 r2
    have hl5:=ygz (a:=1) (b:=1) (c:=0) (d:=2) ly64
    rw[show nth ([1,1,0,2]:List Int) (y / 64 % 4)=(nq:Int) from r1]at hl5
    have hy64:(y:Int) / 64=((y / 64:Nat):Int):=by omega
    have hy644:((y / 64:Nat):Int) % 4=((y / 64 % 4:Nat):Int):=by omega
    refine zau (hK15 _ _ ?_)
    refine zaa fun K23 hK23=>?_
    refine szq (ju1 ·) ?_
    refine zag ?_
    refine zao hp (fun τ' H' mm=>∃(k:Nat) (qs:List QG),(k≤nq∧qs.length=k∧∀q∈qs,1≤q.w∧q.w≤2)∧mm=nq - k∧H'=[.cells (avs (zbk b i)),z81,zij,zik,.cells [.d (sD ⟨#[112]⟩),.d (sD ⟨#[97]⟩),.os 13 6 0 rs.length,.os 27 8 0 ms.length,.os 9 9 0 ts.length,.os 16 11 0 qs.length],.cells [.os 1 7 0 rs.length,.os 1 10 0 ts.length,.os 27 8 0 ms.length,.d (oD true)],.cells (avs (rs.flatMap rgC)),.cells (avs (rs.map fun r=>iD r.w)),.cells (avs (ms.flatMap mgC)),.cells (avs (ts.flatMap tgC)),.cells (avs (ts.map fun t=>iD t.w)),.cells (avs (qs.flatMap qgC))]∧τ'=frL [(1,.op 0 0),(2,.op 1 0),(3,.op 2 0),(4,.op 3 0),(5,.d (iD y)),(6,.op 4 0),(7,.op 5 0),(13,.d (iD k))]) (nq) ?_ ⟨0,[],⟨qap _,rfl,fun r hr=>by cases hr⟩,rfl,rfl,rfl⟩ ?_
    ·refine Rt.trans (Rt.nilc 4 5 16 rfl rfl) ?_
     refine jj9 [0,1,2,3,4,5,6,7,8,9,10,12] ?_
     refine jka ?_
     exact ycq
    rintro τ' H' mm ⟨k,qs,⟨hk3,hql,hqw⟩,rfl,rfl,rfl⟩
    refine zaa fun K25 hK25=>?_
    refine szq (zxe (sza hy64 (sza hy644 hl5)) ·) ?_
    refine zan rfl (fun ht=>?_) (fun ht=>?_)
    ·have hlt:k<nq:=by simp at ht;omega
     obtain⟨n,hn⟩:∃n:Nat,byN b (i+(7+k))=n:=⟨(byN b (i+(7+k))).toNat,by have:=(zgn hb (i+(7+k))).1;omega⟩
     have hn2:=(zgn hb (i+(7+k))).2
     have hnb:=ziw b (i+(7+k)) hb hl
     rw[hn]at hnb
     have h7k:(7:Int)+(k:Int)=((7+k:Nat):Int):=by omega
     have hnr2:(n:Int) % 2=((n % 2:Nat):Int):=by omega
     have hw1c:(1:Int)+((n % 2:Nat):Int)=((1+n % 2:Nat):Int):=by omega
     have htk:(ts.length:Int)+(k:Int)=((ts.length+k:Nat):Int):=by omega
     have ln22:n % 2<2:=Nat.mod_lt _ (by decide)
     refine zai (hK25 _ _ ?_)
     refine zaa fun K27 hK27=>?_
     refine zag ?_
     refine zmu zah hp hc mixed rfl [(0,[]),(1,[]),(2,[]),(3,[]),(4,[]),(5,[]),(6,[]),(7,[]),(8,[]),(9,[]),(10,[1,3]),(11,[1,3]),(12,[]),(13,[]),(14,[]),(15,[]),(16,[]),(17,[]),(18,[])] [[],[0],[],[2],[2,3],[],[2,3,4,5],[],[],[8],[7,8,9],[7,8,9,10],[7,8,9,10,11],[7,8,9,10,11,12],[2,3,4,5,6,7,8,9,10,11,12,13],[2,3,4,5,6,7,8,9,10,11,12,13,14],[0,1,2,3,4,5,6,7,8,9,10,11,12,13,14,15],[0,1,2,3,4,5,6,7,8,9,10,11,12,13,14,15,16],[0,1,2,3,4,5,6,7,8,9,10,11,12,13,14,15,16,17]] 1 (by kernel_rfl) fun K28 hK28=>?_
     refine zxf (sza h7k (sza hnr2 (sza hw1c htk))) ?_
     refine zrp (jfe b i (7+k) (by omega) (by omega)) rfl ?_
     refine zxf (sza h7k (sza hnr2 (sza hw1c htk))) ?_
     refine zrp (hnb) rfl ?_
     refine zxf (sza h7k (sza hnr2 (sza hw1c htk))) ?_
     refine hK28 _ _ (hK27 _ _ ?_)
     refine za1 hp zah hc rfl fun K29 hK29=>?_
     refine zpx ?_
     refine hK29 _ _ ⟨_,_,_,?_,⟨k+1,qs++[⟨ts.length+k,1+n % 2,none,none⟩],⟨by omega,by simp[hql],zu7 hqw ⟨by show 1≤1+n % 2;omega,by show 1+n % 2≤2;omega⟩⟩,rfl,rfl,rfl⟩,?_⟩
     ·first|omega|(simp only[List.length_cons];omega)|(dsimp only;omega)
     ·refine jj9 [0,1,2,3,4,5,6,7,8,9,10,14] ?_
      refine jka ?_
      refine jxm ?_;simp[qgC,exO,jfo,iD,nS,oD,sD]
    ·have hkk3:k=nq:=by simp at ht;omega
     refine zau (hK23 _ _ ?_)
     refine zbc zah hp hc mixed rfl [(0,[]),(1,[]),(2,[]),(3,[0,1]),(4,[1]),(5,[]),(6,[])] [[],[],[],[2],[0,2,3],[0,1,2,3,4],[0,1,2,3,4,5]] 0 (by kernel_rfl) fun K30 hK30=>?_
     refine ycp ?_
     refine zrp (jfe b i 9 (by omega) (by omega)) rfl ?_
     refine ycp ?_
     refine hK30 _ _ ?_
     refine zav hp (τ':=frL [(2,.op 6 0),(3,.op 7 0),(4,.op 8 0)]) (H':=[.cells (avs (rs.flatMap rgC)),.cells (avs (rs.map fun r=>iD r.w)),.cells (avs (ms.flatMap mgC)),.cells (avs (ts.flatMap tgC)),.cells (avs (ts.map fun t=>iD t.w)),.cells (avs (qs.flatMap qgC)),.cells [.d (sD ⟨#[112]⟩),.d (sD ⟨#[97]⟩),.os 13 0 0 rs.length,.os 27 2 0 ms.length,.os 9 3 0 ts.length,.os 16 5 0 qs.length],.cells [.os 1 1 0 rs.length,.os 1 4 0 ts.length,.os 27 2 0 ms.length,.d (oD true)],.cells [.d (bytesD b),.d (iD (i+9:Nat))]]) ?_ ?_
     ·refine jj9 [6,7,8,9,10,11,1,2,3] ?_
      refine jka ?_
      refine jxm ?_;simp[bytesD,iD,oD,sD]
     refine zaj ?_
     try dsimp only[zcg,za5]
     refine jfm rfl ?_
     simp -dsimp -implicitDefEqProofs (disch:=first|assumption|omega|(simp only[r_z,zcv,zcw,zcx,zct]<;>omega)|decide) only[r_r,↓reduceIte,Nat.reduceEqDiff,Nat.reduceAdd,D.fix,Int.reduceToNat,Nat.reduceMul,Nat.reduceBNe,Nat.reduceBEq,zf6,zbk,z81,zij,zik,nS,sD,Int.toNat_natCast,zho,zi2,zpq,zhy,zhz,zgf,zgg]
     show ∃_,_
     refine⟨rs,ms,ts,qs,⟨by omega,by omega,fun r hr=>(hrw r hr).1,hml,fun m hm=>(hmw m hm).1,by omega,htw,by omega,hqw,fun r hr=>(hrw r hr).2,fun m hm=>(hmw m hm).2⟩,?_,_,_,_,rfl⟩
     simp[bytesD,iD,oD,sD]
  refine szq (zxe (sza hyq hyq4) ·) ?_
  refine zan rfl (fun ht=>?_) (fun ht=>?_)
  ·refine zaf hp zah hc rfl fun K32 hK32=>?_
   refine zpx ?_
   refine zbl (jfe b i 4 (by omega) (by omega)) rfl ?_
   refine zpx ?_
   refine zbl (hnb2) rfl ?_
   refine zpx ?_
   refine hK32 _ _ ?_
   refine zav hp (τ':=frL [(1,.op 0 0),(2,.op 1 0),(3,.op 2 0),(4,.op 3 0),(5,.d (iD y)),(6,.op 4 0),(7,.op 5 0),(11,.d (iD n2))]) (H':=[.cells (avs (zbk b i)),z81,zij,zik,.cells [.d (sD ⟨#[112]⟩),.d (sD ⟨#[97]⟩),.os 13 6 0 rs.length,.os 27 8 0 0,.d (.val (.slice none 0 0)),.d (.val (.slice none 0 0))],.cells [.os 1 7 0 rs.length,.d (.val (.slice none 0 0)),.d (.val (.slice none 0 0)),.d (oD true)],.cells (avs (rs.flatMap rgC)),.cells (avs (rs.map fun r=>iD r.w)),.cells []]) ?_ ?_
   ·refine Rt.trans (Rt.nilc 4 3 27 rfl rfl) ?_
    refine jj9 [0,1,2,3,4,5,6,7,9] ?_
    refine jka ?_
    exact ycq
   refine zbc zah hp hc mixed rfl [(0,[]),(1,[]),(2,[]),(3,[]),(4,[]),(5,[]),(6,[]),(7,[]),(8,[]),(9,[]),(10,[]),(11,[]),(12,[]),(13,[1,10]),(14,[]),(15,[]),(16,[]),(17,[]),(18,[])] [[],[0],[],[2],[2,3],[],[],[6],[6,7],[5,6,7,8],[5,6,7,8,9],[],[11],[11,12],[2,3,4,5,6,7,8,9,10,11,12,13],[2,3,4,5,6,7,8,9,10,11,12,13,14],[0,1,2,3,4,5,6,7,8,9,10,11,12,13,14,15],[0,1,2,3,4,5,6,7,8,9,10,11,12,13,14,15,16],[0,1,2,3,4,5,6,7,8,9,10,11,12,13,14,15,16,17]] 2 (by kernel_rfl) fun K33 hK33=>?_
   refine zxf (sza hn2q (sza hn2q4 (sza hn2r (sza hn28 (sza hw1c hl3))))) ?_
   refine ji6 (jsk (n2 / 8) ⟨#[109,101,109,48]⟩ (by omega)) rfl fun r hr=>?_
   obtain⟨rk,rf,rn,rfl⟩:=hr;simp only[sD]
   refine zxf (sza hn2q (sza hn2q4 (sza hn2r (sza hn28 (sza hw1c hl3))))) ?_
   refine hK33 _ _ ?_
   refine za1 hp zah hc rfl fun K34 hK34=>?_
   refine zpx ?_
   refine hK34 _ _ (hJ14 _ _ ⟨_,_,[⟨⟨#[109,101,109,48]⟩,1+n2 % 2,wo,none,none,none,rk,rf,rn⟩],⟨qao _,fun m hm=>by rw[qau.1 hm];exact⟨⟨by show 1≤1+n2 % 2;omega,by show 1+n2 % 2≤2;omega,by show wo=1∨wo=2∨wo=4;omega⟩,by show(⟨#[109,101,109,48]⟩:ByteArray).size≤9;decide⟩⟩,rfl,rfl,?_⟩)
   refine jj9 [0,1,2,3,4,5,6,7,11] ?_
   refine jka ?_
   refine jxm ?_;simp[mgC,exO,jfo,sD,iD,nS,oD,avs]
  ·refine zai (hJ14 _ _ ⟨_,_,[],⟨qap _,fun m hm=>by cases hm⟩,rfl,rfl,?_⟩)
   refine Rt.trans (Rt.nilc 4 3 27 rfl rfl) ?_
   refine Rt.trans (Rt.cell (id:=5) (j:=2) rfl rfl (Imp.nil 27 9 0)) ?_
   refine jj9 [0,1,2,3,4,5,6,7,9] ?_
   refine jka ?_
   exact ycq
end Go.Proofs.YtapjobndmmkanaaGreat
