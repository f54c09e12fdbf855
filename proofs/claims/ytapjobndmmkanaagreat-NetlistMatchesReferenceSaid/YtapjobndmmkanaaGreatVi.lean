/- Processes that bytes describe: rows that are filled. -/
import Derived.Test.YtapjobndmmkanaaGreatVf
import Derived.Test.YtapjobndmmkanaaGreatQr
set_option linter.unusedVariables false
set_option linter.unusedSimpArgs false
namespace Go.Proofs.YtapjobndmmkanaaGreat
open Go.Proofs.Tryz
open Go Go.RowKit
section
theorem My:∀(xs A B:List AV) (i:Nat),iF (A++B) (A.length+i) xs=A++iF B i xs
 |[],A,B,i=>rfl
 |x::xs,A,B,i=>by
  rw[iF,iF,List.set_append_right _ _ (by omega),show A.length+i - A.length=i by omega,Nat.add_assoc,My xs]
theorem MI:∀(xs A B:List AV) (i:Nat),i+xs.length≤A.length→iF (A++B) i xs=iF A i xs++B
 |[],A,B,i,_=>rfl
 |x::xs,A,B,i,h=>by
  rw[List.length_cons]at h
  rw[iF,iF,List.set_append_left _ _ (by omega),MI xs _ _ _ (by simp;omega)]
theorem jl2{α:Type}[Inhabited α]{l:List α}{k:Nat}(h:k<l.length):l=l.take k++(nth l k::l.drop (k+1)):=by
 rw[o7 h,List.getElem_cons_drop,List.take_append_drop]
theorem jy0{α:Type}{l:List α}{k:Nat}{a:α}(h:k<l.length):l.set k a=l.take k++(a::l.drop (k+1)):=by
 rw[List.set_eq_take_append_cons_drop,if_pos h]
theorem B0{α:Type}[Inhabited α]{f:α→List D}{w:Nat}(hw:∀a,(f a).length=w){l:List α}{k off i:Nat}{a:α}{xs:List AV}(hk:k<l.length)(hi:i=k*w+off)(ho:off+xs.length≤w)(ha:iF (ak (f (nth l k))) off xs=ak (f a)):
  iF (ak (l.flatMap f)) i xs=ak ((l.set k a).flatMap f):=by
 have e1:ak (l.flatMap f)=ak ((l.take k).flatMap f)++(ak (f (nth l k))++ak ((l.drop (k+1)).flatMap f)):=by
  conv=>lhs;rw[jl2 hk]
  simp[ak]
 have hl:(ak ((l.take k).flatMap f)).length=k*w:=by
  rw[oe,o9 hw,List.length_take,Nat.min_eq_left (by omega)]
 rw[e1,hi,←hl,My,MI _ _ _ _ (by rw[oe,hw];exact ho),ha,jy0 hk]
 simp[ak]
theorem Ce{A B:List D}{e:Ex}{cs:List D}(hc:cs.length=7)(he:bR e=cs){z:List D}(hz:z.length=7):iF (ak (A++(z++B))) A.length (ak cs)=ak (A++(bR e++B)):=by
 have e1:ak (A++(z++B))=ak A++(ak z++ak B):=by simp[ak]
 have key:∀(z c:List AV),z.length=7→c.length=7→iF z 0 c=c:=by
  intro z c h1 h2
  match z,h1,c,h2 with
  |[_,_,_,_,_,_,_],_,[_,_,_,_,_,_,_],_=>rfl
 rw[e1]
 have:=My (ak cs) (ak A) (ak z++ak B) 0
 rw[oe,Nat.add_zero]at this
 rw[this,MI _ _ _ _ (by rw[oe,oe];omega),key _ _ (by rw[oe];exact hz) (by rw[oe];exact hc),he]
 simp[ak]
def GF(t:TG)(e:Ex):TG:={t with wh:=some e}
def AK(r:RG)(e:Ex):RG:={r with nx:=some e}
def GD(q:QG)(e:Ex):QG:={q with wh:=some e}
def GC(q:QG)(e:Ex):QG:={q with da:=some e}
def Bo(m:MG)(e:Ex):MG:={m with en:=some e}
def Bn(m:MG)(e:Ex):MG:={m with ad:=some e}
def Eb(m:MG)(e:Ex):MG:={m with da:=some e}
section
variable {e:Ex} {cs:List D} {k i:Nat}
theorem ye5{l:List TG}(hk:k<l.length)(hi:i=k*9+2)(hc:cs.length=7)(he:bR e=cs):iF (ak (l.flatMap jh)) i (ak cs)=ak ((l.set k (GF (nth l k) e)).flatMap jh):=
 B0 Np hk hi (by rw[oe];omega) (by have:=Ce (A:=[iD (nth l k).chan,iD (nth l k).w]) (B:=[]) hc he (qv (nth l k).wh);simpa[jh,GF,kG]using this)
theorem Yk{l:List RG}(hk:k<l.length)(hi:i=k*13+3)(hc:cs.length=7)(he:bR e=cs):iF (ak (l.flatMap iH)) i (ak cs)=ak ((l.set k (AK (nth l k) e)).flatMap iH):=
 B0 Nq hk hi (by rw[oe];omega) (Ce (A:=[sD (nth l k).name,iD (nth l k).w,iD (nth l k).init]) (B:=[iD (nth l k).rk,sD (nth l k).rf,iD (nth l k).rn]) hc he (qv (nth l k).nx))
theorem jy2{l:List QG}(hk:k<l.length)(hi:i=k*16+2)(hc:cs.length=7)(he:bR e=cs):iF (ak (l.flatMap ji)) i (ak cs)=ak ((l.set k (GD (nth l k) e)).flatMap ji):=
 B0 JT hk hi (by rw[oe];omega) (Ce (A:=[iD (nth l k).chan,iD (nth l k).w]) (B:=kG (nth l k).da) hc he (qv (nth l k).wh))
theorem jy3{l:List QG}(hk:k<l.length)(hi:i=k*16+9)(hc:cs.length=7)(he:bR e=cs):iF (ak (l.flatMap ji)) i (ak cs)=ak ((l.set k (GC (nth l k) e)).flatMap ji):=
 B0 JT hk hi (by rw[oe];omega) (by
  have:=Ce (A:=[iD (nth l k).chan,iD (nth l k).w]++kG (nth l k).wh) (B:=[]) hc he (qv (nth l k).da)
  rw[List.length_append,qv]at this
  simpa[ji,GC,kG]using this)
theorem jy4{l:List MG}(hk:k<l.length)(hi:i=k*27+3)(hc:cs.length=7)(he:bR e=cs):iF (ak (l.flatMap jU)) i (ak cs)=ak ((l.set k (Bo (nth l k) e)).flatMap jU):=
 B0 F9 hk hi (by rw[oe];omega) (Ce (A:=[sD (nth l k).name,iD (nth l k).w,iD (nth l k).words]) hc he (qv (nth l k).en))
theorem jy5{l:List MG}(hk:k<l.length)(hi:i=k*27+10)(hc:cs.length=7)(he:bR e=cs):iF (ak (l.flatMap jU)) i (ak cs)=ak ((l.set k (Bn (nth l k) e)).flatMap jU):=
 B0 F9 hk hi (by rw[oe];omega) (by
  have:=Ce (A:=[sD (nth l k).name,iD (nth l k).w,iD (nth l k).words]++kG (nth l k).en) (B:=kG (nth l k).da++[iD (nth l k).rk,sD (nth l k).rf,iD (nth l k).rn]) hc he (qv (nth l k).ad)
  rw[List.length_append,qv]at this
  simpa[jU,Bn,kG]using this)
theorem jy6{l:List MG}(hk:k<l.length)(hi:i=k*27+17)(hc:cs.length=7)(he:bR e=cs):iF (ak (l.flatMap jU)) i (ak cs)=ak ((l.set k (Eb (nth l k) e)).flatMap jU):=
 B0 F9 hk hi (by rw[oe];omega) (by
  have:=Ce (A:=[sD (nth l k).name,iD (nth l k).w,iD (nth l k).words]++(kG (nth l k).en++kG (nth l k).ad)) (B:=[iD (nth l k).rk,sD (nth l k).rf,iD (nth l k).rn]) hc he (qv (nth l k).da)
  rw[List.length_append,List.length_append,qv,qv]at this
  simpa[jU,Eb,kG]using this)
end
end
theorem Rt.yd{m:List Nat}{τ:Fr}{H:av}:Rt m τ H τ (H++[.free,.free,.free,.free,.free,.free,.free,.free,.free]):=fun c a w _ h=>R.eV 9 H h
theorem cY.Ii{P:Program}{ks:List Nat}{f:FuncId}{x y y':AV}{xs:List AV}{S:av}{K:AV→av→Prop}(h:cY P ks f (x::y::xs) S K)(hi:nC y' y):cY P ks f (x::y'::xs) S K:=
 ⟨h.1,fun E w pl vals hl hx hh hE=>h.2 E w pl vals (by simpa using hl) (fun j z hj=>by
  match j,hj with
  |0,hj=>exact hx 0 z hj
  |1,hj=>cases hj;exact hi _ _ _ _ (hx 1 _ rfl)
  |j+2,hj=>exact hx (j+2) z hj) hh hE⟩
theorem nC.FT{a b b':AV}{l:List AV}(h:nC b' b):nC (.agg (a::b'::l)) (.agg (a::b::l)):=fun w pl own v hv=>by
 cases hv with
 |agg _ vs hl hx=>
  refine .agg _ vs (by simpa using hl) fun j x hj=>?_
  match j,hj with
  |0,hj=>exact hx 0 x hj
  |1,hj=>cases hj;exact h _ _ _ _ (hx 1 _ rfl)
  |j+2,hj=>exact hx (j+2) x hj
def DT(m:MG):SM:=⟨sD m.name,m.w,iD m.words::(kG m.en++(kG m.ad++(kG m.da++[iD m.rk,sD m.rf,iD m.rn])))⟩
theorem ye6(m:MG):Aq (DT m)=jU m:=by
 unfold Aq DT jU
 simp only
 rw[List.take_append_of_le_length (by simp[qv]),ui (by simp[qv])];rfl
def oL(ms:List MG):Sc:=⟨[],[],ms.map DT,true⟩
theorem xE(ms:List MG):dZ (oL ms)= .cells (ak (ms.flatMap jU)):=by
 unfold dZ oL
 simp only
 rw[List.flatMap_map]
 rw[show(fun a=>Aq (DT a))=jU from funext ye6]
def kH(rw tw:List Nat)(mw:List (Nat × Nat)):Ct:=⟨rw,tw,mw⟩
def xR(rw tw:List Nat)(ms:List MG)(q:Bool):Sc:=⟨rw,if q then tw else[],ms.map DT,q⟩
structure pA (rw tw:List Nat) (mw:List (Nat × Nat)):Prop where
 r1:1≤rw.length
 r3:rw.length≤3
 r:∀w∈rw,1≤w∧w≤3
 t2:tw.length≤2
 t:∀w∈tw,1≤w∧w≤2
 m1:mw.length≤1
 m:∀x∈mw,(x.1=1∨x.1=2∨x.1=4)∧1≤x.2∧x.2≤2
theorem pA.ct{rw tw:List Nat}{mw:List (Nat × Nat)}(h:pA rw tw mw):nE (kH rw tw mw):=
 ⟨fun i hi=>by have:=h.r _ (ll (l:=rw) hi);show 1≤nth rw i∧nth rw i≤8;omega,fun i hi=>by have:=h.t _ (ll (l:=tw) hi);show 1≤nth tw i∧nth tw i≤8;omega,
  fun i hi=>by have:=h.m _ (ll (l:=mw) hi);show 1≤(nth mw i).1∧(nth mw i).1≤8∧1≤(nth mw i).2∧(nth mw i).2≤8;omega,by have:=h.m1;show mw.length≤8;omega⟩
theorem pA.sc{rw tw:List Nat}{mw:List (Nat × Nat)}(h:pA rw tw mw){ms:List MG}(hm:(ms.map fun m=>(m.words,m.w))=mw)(q:Bool):pC (kH rw tw mw) (xR rw tw ms q):=by
 have p9:ms.length=mw.length:=by rw[←hm];simp
 refine⟨rfl,fun e=>?_,?_,by have:=h.r3;show rw.length≤100;omega,?_,by have:=h.m1;simp[xR];omega⟩
 ·have e:q=true:=e
  subst e;rfl
 ·show mw.map (·.2)=(ms.map DT).map (·.w)
  rw[←hm,List.map_map,List.map_map];rfl
 ·have:=h.t2
  show(if q=true then tw else[]).length≤100
  split
  ·omega
  ·simp
theorem Ag{α β:Type}[Inhabited α]{f:α→β}{l:List α}{k:Nat}{a:α}(hk:k<l.length)(h:f a=f (nth l k)):(l.set k a).map f=l.map f:=by
 rw[List.map_set,h,o7 hk]
 have:f l[k]=(l.map f)[k]'(by simpa using hk):=by simp
 rw[this,List.set_getElem_self]
def EK(C:Ct)(ts:List TG)(k:Nat):Prop:=∀q,q<k→∃e,(nth ts q).wh=some e∧Fit C false 1 32 e
def EL(C:Ct)(rs:List RG)(k:Nat):Prop:=∀q,q<k→∃e,(nth rs q).nx=some e∧Fit C true (nth rs q).w (if q=0 then 128 else 32) e
def EM(C:Ct)(qs:List QG)(k:Nat):Prop:=∀q,q<k→∃e d,(nth qs q).wh=some e∧(nth qs q).da=some d∧Fit C true 1 32 e∧Fit C true (nth qs q).w 32 d
def EN(C:Ct)(ms:List MG)(k:Nat):Prop:=∀q,q<k→∃e a d,(nth ms q).en=some e∧(nth ms q).ad=some a∧(nth ms q).da=some d∧Fit C true 1 32 e∧WT C true a∧cf C a=0∧Fit C true (nth ms q).w 32 d
theorem EK.step{C:Ct}{ts:List TG}{k:Nat}(h:EK C ts k)(hk:k<ts.length){e:Ex}(he:Fit C false 1 32 e):EK C (ts.set k (GF (nth ts k) e)) (k+1):=fun q hq=>by
 by_cases e1:k=q
 ·subst e1;rw[BX hk];exact⟨e,rfl,he⟩
 ·rw[I2 e1];exact h q (by omega)
theorem EL.step{C:Ct}{rs:List RG}{k:Nat}(h:EL C rs k)(hk:k<rs.length){e:Ex}(he:Fit C true (nth rs k).w (if k=0 then 128 else 32) e):EL C (rs.set k (AK (nth rs k) e)) (k+1):=fun q hq=>by
 by_cases e1:k=q
 ·subst e1;rw[BX hk];exact⟨e,rfl,he⟩
 ·rw[I2 e1];exact h q (by omega)
theorem EM.step{C:Ct}{qs:List QG}{k:Nat}(h:EM C qs k)(hk:k<qs.length){e d:Ex}(he:Fit C true 1 32 e)(hd:Fit C true (nth qs k).w 32 d):EM C (qs.set k (GC (GD (nth qs k) e) d)) (k+1):=fun q hq=>by
 by_cases e1:k=q
 ·subst e1;rw[BX hk];exact⟨e,d,rfl,rfl,he,hd⟩
 ·rw[I2 e1];exact h q (by omega)
theorem EN.step{C:Ct}{ms:List MG}{k:Nat}(h:EN C ms k)(hk:k<ms.length){e a d:Ex}(he:Fit C true 1 32 e)(ha:WT C true a)(hc:cf C a=0)(hd:Fit C true (nth ms k).w 32 d):EN C (ms.set k (Eb (Bn (Bo (nth ms k) e) a) d)) (k+1):=fun q hq=>by
 by_cases e1:k=q
 ·subst e1;rw[BX hk];exact⟨e,a,d,rfl,rfl,rfl,he,ha,hc,hd⟩
 ·rw[I2 e1];exact h q (by omega)
set_option maxRecDepth 100000
set_option maxHeartbeats 4000000
section
theorem Od(rw tw:List Nat)(ms:List MG)(q:Bool):dk (xR rw tw ms q)=[.d (nI rw),.d (nI (if q then tw else[])),.os 27 0 0 ms.length,.d (oD q)]:=by simp[dk,xR]
section
variable {rw tw:List Nat} {mw:List (Nat × Nat)} {ms:List MG} {b:List Int} {j:Nat}
theorem jy8(h:pA rw tw mw)(hm:(ms.map fun m=>(m.words,m.w))=mw)(hb:rJ b)(hl:b.length≤maxLen)(hj:j≤7000000):
  cY prog [0] 55 [fJ b j,.agg [.d (nI rw),.d (.val (.slice none 0 0)),.os 27 0 0 ms.length,.d (oD false)]] [dZ (oL ms),.free] (Bf (kH rw tw mw) (xR rw tw ms false) b j 1 32 10):=by
 have:=Z6 (kH rw tw mw) (xR rw tw ms false) b j h.ct (h.sc hm false) hb hl hj
 rw[Od]at this
 exact this.Ii (nC.FT nC.w4)
theorem ZA(h:pA rw tw mw)(hm:(ms.map fun m=>(m.words,m.w))=mw)(hb:rJ b)(hl:b.length≤maxLen)(hj:j≤7000000):
  cY prog [0] 55 [fJ b j,.agg [.d (nI rw),.d (nI tw),.os 27 0 0 ms.length,.d (oD true)]] [dZ (oL ms),.free] (Bf (kH rw tw mw) (xR rw tw ms true) b j 1 32 10):=by
 have:=Z6 (kH rw tw mw) (xR rw tw ms true) b j h.ct (h.sc hm true) hb hl hj
 rw[Od]at this
 exact this
theorem Gc{d w:Nat}(hT:EE d)(h:pA rw tw mw)(hm:(ms.map fun m=>(m.words,m.w))=mw)(hb:rJ b)(hl:b.length≤maxLen)(h1:1≤w)(h2:w+d≤8)(hj:j≤uq d):
  cY prog [0] 56 [fJ b j,.agg [.d (nI rw),.d (nI tw),.os 27 0 0 ms.length,.d (oD true)],.agg [.d (iD w),.d (iD d)]] [dZ (oL ms),.free] (Bf (kH rw tw mw) (xR rw tw ms true) b j w (rz d) (nU d)):=by
 have:=hT (kH rw tw mw) (xR rw tw ms true) b j w h.ct (h.sc hm true) hb hl h1 h2 hj
 rw[Od]at this
 exact this
end
structure uT (rw tw:List Nat) (mw:List (Nat × Nat)) (rs:List RG) (ms:List MG) (ts:List TG) (qs:List QG):Prop where
 wd:pA rw tw mw
 rl:rs.map (·.w)=rw
 tl:ts.map (·.w)=tw
 ml:(ms.map fun m=>(m.words,m.w))=mw
 q2:qs.length≤2
 qw:∀q,q<qs.length→1≤(nth qs q).w∧(nth qs q).w≤2
 r:EL (kH rw tw mw) rs rs.length
 t:EK (kH rw tw mw) ts ts.length
 q:EM (kH rw tw mw) qs qs.length
 m:EN (kH rw tw mw) ms ms.length
 nr:∀x∈rs.map (·.name),x.size≤9
 nm:∀x∈ms.map (·.name),x.size≤9
def NJ(rs:List RG)(ms:List MG)(ts:List TG)(qs:List QG):List D:=[sD ⟨#[112]⟩,sD ⟨#[97]⟩,.fs (rs.flatMap iH) rs.length,.fs (ms.flatMap jU) ms.length,.fs (ts.flatMap jh) ts.length,.fs (qs.flatMap ji) qs.length]
theorem uX(l:List Nat):lQ (.d (nI l))=some [.d (nI l)]:=rfl
theorem EZ{α:Type}[Inhabited α]{f:α→Nat}{l:List α}{w:List Nat}(h:l.map f=w){k:Nat}(hk:k<l.length):k<w.length∧nth w k=f (nth l k):=by
 subst h
 exact⟨by simpa using hk,BL hk⟩
theorem jO{p q:Prop}(hq:q)(h:p=q:=by
 conv=>lhs;simp -dsimp -implicitDefEqProofs (disch:=first|assumption|omega|(simp only[aH,mA,mz,my,l7]<;>omega)|decide) only[aN,↓reduceIte,Nat.reduceEqDiff,Nat.reduceAdd,D.fix,Int.reduceToNat,Nat.reduceMul,Nat.reduceBNe,Nat.reduceBEq,uX,fJ,bG,eW,iQ,iP,eT,gP,gO,bw]):p:=h.mpr hq
theorem wj(k:List Nat){m:List Nat}{τ τ1:Fr}{H H1:av}(h:Rt m (fun t=>du k (τ t)) (dg k H) τ1 H1)(a:∀i∈m,k[i]? =some i:=by decide)(b:k.Nodup:=by decide)(c:∀i∈k,i<H.length:=by
 simp[eJ,dg]):Rt m τ H τ1 H1:=Rt.trans (Rt.gc a b c) h
theorem r9{m:List Nat}{τ τ':Fr}{H H':av}(h2:H=H')(h:fw τ τ':=by
 repeat (first|exact cw _|refine cg ?_ (by first|rfl|(simp[aX,mA,mz,my,l7];done)|simp[aX,mA,mz,my,l7, *]))):Rt m τ H τ' H':=Rt.end h h2
theorem F4{P:Program}{sm:List Nat}{N:Nat}{τ:Fr}{H:av}{f:FuncId}{args:List AV}{K0 KK:AV→av→Prop}{ks:List Nat}(S T:av)(h:cY P ks f args S K0)(hK:∀x S',K0 x S'→S'.length=S.length∧KK x (S'++T))(hH:H=S++T:=by
 rfl) (hm:sm.all (aL ks S.length)=true:=by
 first|rfl|(simp[AV.aj,AV.allI,bo,bq,bp,aL,aO,bn,br,eW,iQ,iP,eT,ff,bG];done)|(intro o ho;simp at ho;done)) (hτ:∀t,(τ t).allI (aL ks S.length)=true:=by
 exact fun t=>fL (by first|rfl|(simp[AV.aj,AV.allI,bo,bq,bp,aL,aO,bn,br,eW,iQ,iP,eT,ff,bG];done)|(intro o ho;simp at ho;done)) t) (ha:AV.aj (aO S.length) args=true:=by
 first|rfl|(simp[AV.aj,AV.allI,bo,bq,bp,aL,aO,bn,br,eW,iQ,iP,eT,ff,bG];done)|(intro o ho;simp at ho;done)) (hS:∀o∈S,o.allI (aO S.length)=true:=by
 first|rfl|(simp[AV.aj,AV.allI,bo,bq,bp,aL,aO,bn,br,eW,iQ,iP,eT,ff,bG];done)|(intro o ho;simp at ho;done)) (hT:∀o∈T,o.allI (aL ks S.length)=true:=by
 first|rfl|(simp[AV.aj,AV.allI,bo,bq,bp,aL,aO,bn,br,eW,iQ,iP,eT,ff,bG];done)|(intro o ho;simp at ho;done)):kC P sm N H τ (.d (.val (.func (.func f) #[] #[]))) args true (tg KK):=rH h hH hm hτ ha hS hT hK
theorem Kt{p q:Prop}(hq:q)(h:p=q:=by
 conv=>lhs;simp -dsimp -implicitDefEqProofs (disch:=first|assumption|omega|(simp only[aH,mA,mz,my,l7]<;>omega)|decide) only[aN,↓reduceIte,Nat.reduceEqDiff,Nat.reduceAdd,D.fix,Int.reduceToNat,Nat.reduceMul,Nat.reduceBNe,Nat.reduceBEq,uX,fJ,bG,eW,iQ,iP,eT,gP,gO]):p:=h.mpr hq
theorem zT{p q r:Prop}(e:r)(hq:q)(h:r→p=q:=by
 intro hY
 conv=>lhs;simp -dsimp -implicitDefEqProofs (disch:=first|assumption|omega|(simp only[aH,mA,mz,my,l7]<;>omega)|decide) only[aN,↓reduceIte,Nat.reduceEqDiff,Nat.reduceAdd,D.fix,Int.reduceToNat,Nat.reduceMul,Nat.reduceBNe,Nat.reduceBEq,mC,uX,fJ,bG,eW,iQ,iP,eT,gP,gO,bw,hY]):p:=(h e).mpr hq
theorem Jz{P:Program}{sm:List Nat}{N:Nat}{τ0 τ:Fr}{H:av}{f:FuncId}{args:List AV}{K0 KK:AV→av→Prop}{ks:List Nat}(S T:av)(h:cY P ks f args S K0)(hK:∀x S',K0 x S'→S'.length=S.length∧KK x (S'++T))(hH:H=S++T:=by
 rfl) (hN:S.length≤N:=by
 exact cn rfl) (hm:sm.all (aL ks S.length)=true:=by
 first|rfl|(simp[AV.aj,AV.allI,bo,bq,bp,aL,aO,bn,br,eW,iQ,iP,eT,ff,bG];done)|(intro o ho;simp at ho;done)) (hτ:∀t,(τ t).allI (aL ks S.length)=true:=by
 exact fun t=>fL (by first|rfl|(simp[AV.aj,AV.allI,bo,bq,bp,aL,aO,bn,br,eW,iQ,iP,eT,ff,bG];done)|(intro o ho;simp at ho;done)) t) (h0:∀t,(τ0 t).allI (aL ks S.length)=true:=by
 exact fun t=>fL (by first|rfl|(simp[AV.aj,AV.allI,bo,bq,bp,aL,aO,bn,br,eW,iQ,iP,eT,ff,bG];done)|(intro o ho;simp at ho;done)) t) (ha:AV.aj (aO S.length) args=true:=by
 first|rfl|(simp[AV.aj,AV.allI,bo,bq,bp,aL,aO,bn,br,eW,iQ,iP,eT,ff,bG];done)|(intro o ho;simp at ho;done)) (hS:∀o∈S,o.allI (aO S.length)=true:=by
 first|rfl|(simp[AV.aj,AV.allI,bo,bq,bp,aL,aO,bn,br,eW,iQ,iP,eT,ff,bG];done)|(intro o ho;simp at ho;done)) (hT:∀o∈T,o.allI (aL ks S.length)=true:=by
 first|rfl|(simp[AV.aj,AV.allI,bo,bq,bp,aL,aO,bn,br,eW,iQ,iP,eT,ff,bG];done)|(intro o ho;simp at ho;done)):kE P sm N τ0 τ H (.d (.val (.func (.func f) #[] #[]))) args (tg KK):=tm h hH hN hm hτ h0 ha hS hT hK
theorem AJ{p:Prop}(h:p:=by
 first|rfl|(simp only[cP,Nat.reduceAdd,↓reduceIte,Nat.reduceEqDiff,uX,fJ,bG,eW,iQ,iP,eT,gP,gO];first|done|rfl)):p:=h
theorem Cd{p q:Prop}(hq:q)(h:p=q:=by
 conv=>lhs;simp only[cP,Nat.reduceAdd,↓reduceIte,Nat.reduceEqDiff,uX,fJ,bG,eW,iQ,iP,eT,gP,gO]):p:=h.mpr hq
theorem jse(b:List Int)(hb:rJ b)(hl:b.length≤maxLen):tq prog 9 [.agg [aI b]] (fun r=>∃rw tw mw rs ms ts qs,uT rw tw mw rs ms ts qs∧r= .d (.agg (NJ rs ms ts qs))):=by
 unfold maxLen at hl
 have gr:b.length≤maxLen:=by unfold maxLen;exact hl
 have hcp3:uq 3=7000000:=by decide
 have P5:uq 2=8000000:=by decide
 have hcp1:uq 1=9000000:=by decide
 have hc3:rz 3=128:=by decide
 have A9:rz 2=32:=by decide
 have tO:rz 1=0:=by decide
 have hb3:nU 3=13:=by decide
 have Hw:nU 2=4:=by decide
 have CE:nU 1=1:=by decide
 refine I3 (fn:=f9) (by kernel_rfl) func9 rfl (cn rfl) fun c hc hp=>?_
 refine dY (τ':=aF [(0,.d (.agg [aI b]))]) (by repeat (first|exact cw _|refine cg ?_ (by first|rfl|(simp[aX,mA,mz,my,l7];done)|simp[aX,mA,mz,my,l7, *]))) ?_
 refine ah (jO ·) ?_
 refine bC hp (τ':=aF [(1,.op 9 0),(2,.op 10 0)]) (H':=[.free,.free,.free,.free,.free,.free,.free,.free,.free,.cells [.d (aI b)],eW]) ?_ ?_
 ·refine Rt.trans (Rt.yd) ?_
  refine wj [2,3,4,5,6,7,8,9,10,0,1] ?_
  refine r9 ?_
  exact AJ
 refine aZ hp ax hc rfl fun K2 bS=>?_
 refine jO ?_
 refine F4 ([.free,.free,.free,.free,.free,.free,.free,.free,.free]) ([.cells [.d (aI b)],eW]) (jsa b 0 hb gr (by omega)) ?_
 rintro _ _ ⟨rs,ms,vV,oM,sM,rfl,g1,g2,g3,rfl⟩
 refine⟨rfl,?_⟩
 refine jO ?_
 refine bS _ _ ?_
 refine aD fun K3 cm=>?_
 obtain⟨rw,wC⟩:∃rw,rw=rs.map (·.w):=⟨_,rfl⟩
 obtain⟨tw,y8⟩:∃tw,tw=vV.map (·.w):=⟨_,rfl⟩
 obtain⟨mw,qN⟩:∃mw,mw=ms.map fun m=>(m.words,m.w):=⟨_,rfl⟩
 have wv:pA rw tw mw:=⟨by rw[wC];simpa using sM.r1,by rw[wC];simpa using sM.r3,fun w hw=>by rw[wC]at hw;obtain⟨r,hr,rfl⟩:=mF.1 hw;exact sM.rw r hr,by rw[y8];simpa using sM.t2,fun w hw=>by rw[y8]at hw;obtain⟨r,hr,rfl⟩:=mF.1 hw;exact sM.tw r hr,by rw[qN];simpa using sM.m1,fun x hx=>by rw[qN]at hx;obtain⟨m,hm,rfl⟩:=mF.1 hx;have:=sM.mw m hm;exact⟨this.2.2,this.1,this.2.1⟩⟩
 have f1:=sM.r3;have f2:=sM.t2;have f3:=sM.m1;have f4:=sM.q2
 refine ah (Kt ·) ?_
 refine aW ?_
 refine cU hp (fun τ' H' mm=>∃(k j:Nat) (ts:List TG),(k≤vV.length∧ts.length=vV.length∧ts.map (·.w)=tw∧EK (kH rw tw mw) ts k∧j≤9+100*k)∧mm=vV.length - k∧H'=[dZ (oL ms),.free,.cells [.d (aI b)],eW,.cells [.d (sD ⟨#[112]⟩),.d (sD ⟨#[97]⟩),.os 13 7 0 rs.length,.os 27 0 0 ms.length,.os 9 8 0 ts.length,.os 16 9 0 oM.length],.cells [.d (nI rw),.d (nI tw),.os 27 0 0 ms.length,.d (oD true)],.cells (ak (bG b j)),.cells (ak (rs.flatMap iH)),.cells (ak (ts.flatMap jh)),.cells (ak (oM.flatMap ji))]∧τ'=aF [(1,.op 2 0),(2,.op 3 0),(3,.op 4 0),(4,.op 5 0),(5,.op 6 0),(6,.d (iD k))]) (vV.length) ?_ ⟨0,9,vV,⟨cF _,rfl,y8.symm,fun q hq=>by omega,by omega⟩,rfl,rfl,rfl⟩ ?_
 ·refine Rt.trans (Rt.ye) ?_
  refine Rt.trans (Rt.fz (id:=1) (l:=(rs.map fun r=>iD r.w)) rfl) ?_
  refine Rt.trans (Rt.heap (H':=[.cells (ak (rs.flatMap iH)),.dead,.cells (ak (ms.flatMap jU)),.cells (ak (vV.flatMap jh)),.cells (ak (vV.map fun t=>iD t.w)),.cells (ak (oM.flatMap ji)),.cells (iX 1 (rs.map fun r=>iD r.w) g1),.cells (iX 1 (rs.map fun r=>iD r.w) g2),.cells (iX 1 (rs.map fun r=>iD r.w) g3),.cells [.d (aI b)],eW,.cells [.d (sD ⟨#[112]⟩),.d (sD ⟨#[97]⟩),.os 13 0 0 rs.length,.os 27 2 0 ms.length,.os 9 3 0 vV.length,.os 16 5 0 oM.length],.cells [.d (.fs (rs.map fun r=>iD r.w) rs.length),.os 1 4 0 vV.length,.os 27 2 0 ms.length,.d (oD true)],.cells [.d (aI b),.d (iD 9)],.free]) (by simp only[cP,Nat.reduceAdd,↓reduceIte,Nat.reduceEqDiff,uX,fJ,bG,eW,iQ,iP,eT,gP,gO,xE,fE,mz,mA,my,l7];first|done|rfl)) ?_
  refine Rt.trans (Rt.fz (id:=4) (l:=(vV.map fun t=>iD t.w)) rfl) ?_
  refine wj [2,14,9,10,11,12,13,0,3,5] ?_
  refine r9 ?_
  refine Cd ?_;rw[xE,wC,y8];simp[nI,fE,List.map_map,Function.comp_def,aI,iD,oD,sD,nS,du]
 rintro τ' H' mm ⟨k,j,ts,⟨hk,vt,Cm,oy,hj⟩,rfl,rfl,rfl⟩
 refine aD fun K5 dx=>?_
 refine ah (jO ·) ?_
 refine bf rfl (fun ht=>?_) (fun ht=>?_)
 ·have aA:k<ts.length:=by simp at ht;omega
  refine bg (dx _ _ ?_)
  refine aD fun K7 cL=>?_
  refine aW ?_
  refine aZ hp ax hc rfl fun K8 dP=>?_
  refine jO ?_
  refine F4 ([dZ (oL ms),.free]) ([.cells [.d (aI b)],eW,.cells [.d (sD ⟨#[112]⟩),.d (sD ⟨#[97]⟩),.os 13 7 0 rs.length,.os 27 0 0 ms.length,.os 9 8 0 ts.length,.os 16 9 0 oM.length],.cells [.d (nI rw),.d (nI tw),.os 27 0 0 ms.length,.d (oD true)],.cells (ak (bG b j)),.cells (ak (rs.flatMap iH)),.cells (ak (ts.flatMap jh)),.cells (ak (oM.flatMap ji))]) (jy8 (j:=j) wv qN.symm hb gr (by omega)) ?_
  rintro _ _ ⟨e,j',he,rU,wL,rfl,g,rfl⟩
  refine⟨rfl,?_⟩
  obtain⟨xo,xk,xw,xc,xn,hex⟩:=pZ e;unfold kZ;rw[hex];dsimp only[List.map_cons,List.map_nil,List.cons_append,List.nil_append,bG]
  refine jO ?_
  refine dP _ _ ?_
  refine ah (jO ·) ?_
  refine fj (jO ·) (cL _ _ ?_)
  refine bT hp ax hc rfl fun mh cQ=>?_
  refine jO ?_
  refine cQ _ _ ⟨_,_,_,?_,⟨k+1,j',ts.set k (GF (nth ts k) e),⟨by omega,by simp[vt],(Ag (a:=GF (nth ts k) e) aA rfl).trans Cm,oy.step aA he,by omega⟩,rfl,rfl,rfl⟩,?_⟩
  ·first|omega|(simp only[List.length_cons];omega)|(dsimp only;omega)
  ·refine Rt.trans (Rt.ye) ?_
   refine wj [0,11,2,3,4,5,6,7,8,9] ?_
   refine r9 ?_
   refine Cd ?_;have cd:=ye5 (l:=ts) (i:=k*9+2) aA rfl rfl hex;rw[←cd];simp[aI,iD,oD,sD,nS,ak,iF];rfl
 ·have bM:k=ts.length:=by simp at ht;omega
  have hdT:EK (kH rw tw mw) ts ts.length:=bM▸oy
  refine cJ (cm _ _ ?_)
  refine aD fun lK bN=>?_
  refine ah (Kt ·) ?_
  refine aW ?_
  refine cU hp (fun τ' H' mm=>∃(k1 j1:Nat) (r1:List RG),(k1≤rs.length∧r1.length=rs.length∧r1.map (·.w)=rw∧EL (kH rw tw mw) r1 k1∧j1≤209+100*k1∧r1.map (·.name)=rs.map (·.name))∧mm=rs.length - k1∧H'=[dZ (oL ms),.free,.cells [.d (aI b)],eW,.cells [.d (sD ⟨#[112]⟩),.d (sD ⟨#[97]⟩),.os 13 7 0 r1.length,.os 27 0 0 ms.length,.os 9 8 0 ts.length,.os 16 9 0 oM.length],.cells [.d (nI rw),.d (nI tw),.os 27 0 0 ms.length,.d (oD true)],.cells (ak (bG b j1)),.cells (ak (r1.flatMap iH)),.cells (ak (ts.flatMap jh)),.cells (ak (oM.flatMap ji))]∧τ'=aF [(1,.op 2 0),(2,.op 3 0),(3,.op 4 0),(4,.op 5 0),(5,.op 6 0),(8,.d (iD k1))]) (rs.length) ?_ ⟨0,j,rs,⟨cF _,rfl,wC.symm,fun q hq=>by omega,by omega,rfl⟩,rfl,rfl,rfl⟩ ?_
  ·refine r9 ?_
   exact AJ
  rintro τ' H' mm ⟨k1,j1,r1,⟨qQ,p7,tI,Cw,rU,Pv⟩,rfl,rfl,rfl⟩
  refine aD fun re dT=>?_
  refine ah (jO ·) ?_
  refine bf rfl (fun ht=>?_) (fun ht=>?_)
  ·have aA:k1<r1.length:=by simp at ht;omega
   have wu:=EZ tI aA
   have Ph:=wv.r _ (ll (l:=rw) wu.1)
   rw[wu.2]at Ph
   refine bg (dT _ _ ?_)
   refine aD fun pE dB=>?_
   refine aW ?_
   refine jP ax hp hc mixed rfl [(0,[]),(1,[]),(2,[]),(3,[]),(4,[]),(5,[]),(6,[]),(7,[]),(8,[]),(9,[]),(10,[]),(11,[]),(13,[]),(12,[]),(14,[])] [[],[],[],[2],[],[2,3,4],[2,3,4,5],[2,3,4,5,6],[],[8],[8,9],[2,3,4,5,6,7,8,9,10],[0,1,2,3,4,5,6,7,8,9,10,11],[],[0,1,2,3,4,5,6,7,8,9,10,11,12,13]] 1 (by kernel_rfl) fun rZ ey=>?_
   by_cases hg:k1=0
   ·subst hg
    have rS:(r1.flatMap iH)[1]? =some (iD (nth r1 0).w):=by simpa using Wj aA
    have q3:(3:Int) - min ((0:Nat):Int) 1=((3:Nat):Int):=by decide
    refine zT (aw rS q3) ?_
    refine Jz ([dZ (oL ms),.free]) ([.cells [.d (aI b)],eW,.cells [.d (sD ⟨#[112]⟩),.d (sD ⟨#[97]⟩),.os 13 7 0 r1.length,.os 27 0 0 ms.length,.os 9 8 0 ts.length,.os 16 9 0 oM.length],.cells [.d (nI rw),.d (nI tw),.os 27 0 0 ms.length,.d (oD true)],.cells (ak (bG b j1)),.cells (ak (r1.flatMap iH)),.cells (ak (ts.flatMap jh)),.cells (ak (oM.flatMap ji)),eT]) (Gc (d:=3) (j:=j1) (w:=(nth r1 0).w) yj2 wv qN.symm hb gr Ph.1 (by omega) (by omega)) ?_
    rintro _ _ ⟨e,j',he,sK,PV,rfl,g,rfl⟩
    refine⟨rfl,?_⟩
    obtain⟨xT,xW,xP,yg,xU,vT⟩:=pZ e;unfold kZ;rw[vT];dsimp only[List.map_cons,List.map_nil,List.cons_append,List.nil_append,bG]
    refine zT (aw rS q3) ?_
    refine ey _ _ ?_
    refine ah (jO ·) ?_
    refine fj (jO ·) (dB _ _ ?_)
    refine bT hp ax hc rfl fun sX fa=>?_
    refine jO ?_
    refine fa _ _ ⟨_,_,_,?_,⟨0+1,j',r1.set 0 (AK (nth r1 0) e),⟨by omega,by simp[p7],(Ag (a:=AK (nth r1 0) e) aA rfl).trans tI,Cw.step aA (by rw[if_pos rfl];exact hc3▸he),by omega,(Ag (f:=fun r:RG=>r.name) (a:=AK (nth r1 0) e) aA rfl).trans Pv⟩,rfl,rfl,rfl⟩,?_⟩
    ·first|omega|(simp only[List.length_cons];omega)|(dsimp only;omega)
    ·refine Rt.trans (Rt.ye) ?_
     refine wj [0,11,2,3,4,5,6,7,8,9] ?_
     refine r9 ?_
     refine Cd ?_;have cd:=Yk (l:=r1) (i:=0*13+3) aA rfl rfl vT;rw[←cd];simp[aI,iD,oD,sD,nS,ak,iF];rfl
   ·have rS:=Wj aA
    have q3:(3:Int) - min (k1:Int) 1=((2:Nat):Int):=by omega
    refine zT (aw rS q3) ?_
    refine Jz ([dZ (oL ms),.free]) ([.cells [.d (aI b)],eW,.cells [.d (sD ⟨#[112]⟩),.d (sD ⟨#[97]⟩),.os 13 7 0 r1.length,.os 27 0 0 ms.length,.os 9 8 0 ts.length,.os 16 9 0 oM.length],.cells [.d (nI rw),.d (nI tw),.os 27 0 0 ms.length,.d (oD true)],.cells (ak (bG b j1)),.cells (ak (r1.flatMap iH)),.cells (ak (ts.flatMap jh)),.cells (ak (oM.flatMap ji)),eT]) (Gc (d:=2) (j:=j1) (w:=(nth r1 k1).w) Ga wv qN.symm hb gr Ph.1 (by omega) (by omega)) ?_
    rintro _ _ ⟨e,j',he,sK,PV,rfl,g,rfl⟩
    refine⟨rfl,?_⟩
    obtain⟨xT,xW,xP,yg,xU,vT⟩:=pZ e;unfold kZ;rw[vT];dsimp only[List.map_cons,List.map_nil,List.cons_append,List.nil_append,bG]
    refine zT (aw rS q3) ?_
    refine ey _ _ ?_
    refine ah (jO ·) ?_
    refine fj (jO ·) (dB _ _ ?_)
    refine bT hp ax hc rfl fun vA fM=>?_
    refine jO ?_
    refine fM _ _ ⟨_,_,_,?_,⟨k1+1,j',r1.set k1 (AK (nth r1 k1) e),⟨by omega,by simp[p7],(Ag (a:=AK (nth r1 k1) e) aA rfl).trans tI,Cw.step aA (by rw[if_neg hg];exact A9▸he),by omega,(Ag (f:=fun r:RG=>r.name) (a:=AK (nth r1 k1) e) aA rfl).trans Pv⟩,rfl,rfl,rfl⟩,?_⟩
    ·first|omega|(simp only[List.length_cons];omega)|(dsimp only;omega)
    ·refine Rt.trans (Rt.ye) ?_
     refine wj [0,11,2,3,4,5,6,7,8,9] ?_
     refine r9 ?_
     refine Cd ?_;have cd:=Yk (l:=r1) (i:=k1*13+3) aA rfl rfl vT;rw[←cd];simp[aI,iD,oD,sD,nS,ak,iF];rfl
  ·have PT:k1=r1.length:=by simp at ht;omega
   have hdR:EL (kH rw tw mw) r1 r1.length:=PT▸Cw
   refine cJ (bN _ _ ?_)
   refine aD fun yh fG=>?_
   refine ah (Kt ·) ?_
   refine aW ?_
   refine cU hp (fun τ' H' mm=>∃(k2 j2:Nat) (q1:List QG),(k2≤oM.length∧q1.length=oM.length∧q1.map (·.w)=oM.map (·.w)∧EM (kH rw tw mw) q1 k2∧j2≤509+100*k2)∧mm=oM.length - k2∧H'=[dZ (oL ms),.free,.cells [.d (aI b)],eW,.cells [.d (sD ⟨#[112]⟩),.d (sD ⟨#[97]⟩),.os 13 7 0 r1.length,.os 27 0 0 ms.length,.os 9 8 0 ts.length,.os 16 9 0 q1.length],.cells [.d (nI rw),.d (nI tw),.os 27 0 0 ms.length,.d (oD true)],.cells (ak (bG b j2)),.cells (ak (r1.flatMap iH)),.cells (ak (ts.flatMap jh)),.cells (ak (q1.flatMap ji))]∧τ'=aF [(1,.op 2 0),(2,.op 3 0),(3,.op 4 0),(4,.op 5 0),(5,.op 6 0),(10,.d (iD k2))]) (oM.length) ?_ ⟨0,j1,oM,⟨cF _,rfl,rfl,fun q hq=>by omega,by omega⟩,rfl,rfl,rfl⟩ ?_
   ·refine r9 ?_
    exact AJ
   rintro τ' H' mm ⟨k2,j2,q1,⟨qP,wF,Ep,Hp,wL⟩,rfl,rfl,rfl⟩
   refine aD fun EJ lE=>?_
   refine ah (jO ·) ?_
   refine bf rfl (fun ht=>?_) (fun ht=>?_)
   ·have aA:k2<q1.length:=by simp at ht;omega
    have wu:=EZ Ep aA
    have hwq:1≤(nth q1 k2).w∧(nth q1 k2).w≤2:=by
     obtain⟨q,hq,e⟩:=mF.1 (ll (l:=oM.map (·.w)) wu.1)
     rw[←wu.2,←e];exact sM.qw q hq
    have rS:=yj5 aA
    refine bg (lE _ _ ?_)
    refine aD fun Bk jX=>?_
    refine aW ?_
    refine aZ hp ax hc rfl fun Ir nu=>?_
    refine jO ?_
    refine F4 ([dZ (oL ms),.free]) ([.cells [.d (aI b)],eW,.cells [.d (sD ⟨#[112]⟩),.d (sD ⟨#[97]⟩),.os 13 7 0 r1.length,.os 27 0 0 ms.length,.os 9 8 0 ts.length,.os 16 9 0 q1.length],.cells [.d (nI rw),.d (nI tw),.os 27 0 0 ms.length,.d (oD true)],.cells (ak (bG b j2)),.cells (ak (r1.flatMap iH)),.cells (ak (ts.flatMap jh)),.cells (ak (q1.flatMap ji))]) (ZA (j:=j2) wv qN.symm hb gr (by omega)) ?_
    rintro _ _ ⟨e,je,he,sK,PV,rfl,g,rfl⟩
    refine⟨rfl,?_⟩
    obtain⟨xT,xW,xP,yg,xU,vT⟩:=pZ e;unfold kZ;rw[vT];dsimp only[List.map_cons,List.map_nil,List.cons_append,List.nil_append,bG]
    refine jO ?_
    refine nu _ _ ?_
    refine bC hp (τ':=aF [(1,.op 2 0),(2,.op 3 0),(3,.op 4 0),(4,.op 5 0),(5,.op 6 0),(10,.d (iD k2)),(11,.op 10 0)]) (H':=[dZ (oL ms),.free,.cells [.d (aI b)],eW,.cells [.d (sD ⟨#[112]⟩),.d (sD ⟨#[97]⟩),.os 13 7 0 r1.length,.os 27 0 0 ms.length,.os 9 8 0 ts.length,.os 16 9 0 q1.length],.cells [.d (nI rw),.d (nI tw),.os 27 0 0 ms.length,.d (oD true)],.cells (ak (bG b j2)),.cells (ak (r1.flatMap iH)),.cells (ak (ts.flatMap jh)),.cells (ak (q1.flatMap ji)),.cells (ak ([iD xT,nS,iD xW,nS,iD xP,nS,.fs yg xU]++bG b je))]) ?_ ?_
    ·refine Rt.trans (Rt.ye) ?_
     refine wj [0,11,2,3,4,5,6,7,8,9,10] ?_
     refine r9 ?_
     exact AJ
    refine jP ax hp hc mixed rfl [(0,[]),(1,[]),(2,[]),(3,[]),(4,[]),(5,[]),(6,[]),(7,[]),(8,[]),(9,[]),(11,[]),(10,[]),(12,[])] [[],[0],[],[],[3],[],[3,4,5],[3,4,5,6],[3,4,5,6,7],[3,4,5,6,7,8],[0,1,2,3,4,5,6,7,8,9],[],[0,1,2,3,4,5,6,7,8,9,10,11]] 1 (by kernel_rfl) fun Bj jE=>?_
    refine zT rS ?_
    refine Jz ([dZ (oL ms),.free]) ([.cells [.d (aI b)],eW,.cells [.d (sD ⟨#[112]⟩),.d (sD ⟨#[97]⟩),.os 13 7 0 r1.length,.os 27 0 0 ms.length,.os 9 8 0 ts.length,.os 16 9 0 q1.length],.cells [.d (nI rw),.d (nI tw),.os 27 0 0 ms.length,.d (oD true)],.cells (ak (bG b j2)),.cells (ak (r1.flatMap iH)),.cells (ak (ts.flatMap jh)),.cells (ak (q1.flatMap ji)),.cells (ak ([iD xT,nS,iD xW,nS,iD xP,nS,.fs yg xU]++bG b je)),eT]) (Gc (d:=2) (j:=je) (w:=(nth q1 k2).w) Ga wv qN.symm hb gr hwq.1 (by omega) (by omega)) ?_
    rintro _ _ ⟨d,jd,hd,hjc,hjd,rfl,g',rfl⟩
    refine⟨rfl,?_⟩
    obtain⟨XE,XN,XB,c_d,XF,FJ⟩:=pZ d;unfold kZ;rw[FJ];dsimp only[List.map_cons,List.map_nil,List.cons_append,List.nil_append,bG]
    refine zT rS ?_
    refine jE _ _ ?_
    refine ah (jO ·) ?_
    refine ah (jO ·) ?_
    refine fj (jO ·) (jX _ _ ?_)
    refine bT hp ax hc rfl fun Bi jD=>?_
    refine jO ?_
    refine jD _ _ ⟨_,_,_,?_,⟨k2+1,jd,q1.set k2 (GC (GD (nth q1 k2) e) d),⟨by omega,by simp[wF],(Ag (a:=GC (GD (nth q1 k2) e) d) aA rfl).trans Ep,Hp.step aA he hd,by omega⟩,rfl,rfl,rfl⟩,?_⟩
    ·first|omega|(simp only[List.length_cons];omega)|(dsimp only;omega)
    ·refine Rt.trans (Rt.ye) ?_
     refine wj [0,12,2,3,4,5,6,7,8,9] ?_
     refine r9 ?_
     refine Cd ?_;have kD:=jy2 (l:=q1) (i:=k2*16+2) aA rfl rfl vT;have rR:=jy3 (l:=q1.set k2 (GD (nth q1 k2) e)) (k:=k2) (i:=k2*16+9) (by simpa using aA) rfl rfl FJ;rw[BX aA,List.set_set,←kD]at rR;rw[←rR];simp[aI,iD,oD,sD,nS,ak,iF];rfl
   ·have Hh:k2=q1.length:=by simp at ht;omega
    have hdQ:EM (kH rw tw mw) q1 q1.length:=Hh▸Hp
    refine cJ (fG _ _ ?_)
    refine aD fun CZ kr=>?_
    refine ah (Kt ·) ?_
    refine aW ?_
    refine cU hp (fun τ' H' mm=>∃(k3 j3:Nat) (m1:List MG),(k3≤ms.length∧m1.length=ms.length∧(m1.map fun m=>(m.words,m.w))=mw∧EN (kH rw tw mw) m1 k3∧j3≤809+100*k3∧m1.map (·.name)=ms.map (·.name))∧mm=ms.length - k3∧H'=[dZ (oL m1),.free,.cells [.d (aI b)],eW,.cells [.d (sD ⟨#[112]⟩),.d (sD ⟨#[97]⟩),.os 13 7 0 r1.length,.os 27 0 0 m1.length,.os 9 8 0 ts.length,.os 16 9 0 q1.length],.cells [.d (nI rw),.d (nI tw),.os 27 0 0 m1.length,.d (oD true)],.cells (ak (bG b j3)),.cells (ak (r1.flatMap iH)),.cells (ak (ts.flatMap jh)),.cells (ak (q1.flatMap ji))]∧τ'=aF [(1,.op 2 0),(2,.op 3 0),(3,.op 4 0),(4,.op 5 0),(5,.op 6 0),(13,.d (iD k3))]) (ms.length) ?_ ⟨0,j2,ms,⟨cF _,rfl,qN.symm,fun q hq=>by omega,by omega,rfl⟩,rfl,rfl,rfl⟩ ?_
    ·refine r9 ?_
     exact AJ
    rintro τ' H' mm ⟨k3,j3,m1,⟨Hj,p9,zi,Ho,hj3,hmn⟩,rfl,rfl,rfl⟩
    refine aD fun Lp pt=>?_
    refine ah (jO ·) ?_
    refine bf rfl (fun ht=>?_) (fun ht=>?_)
    ·have aA:k3<m1.length:=by simp at ht;omega
     have wu:k3<mw.length∧nth mw k3=((nth m1 k3).words,(nth m1 k3).w):=by
      rw[←zi];exact⟨by simpa using aA,BL aA⟩
     have Ci:=wv.m _ (ll (l:=mw) wu.1)
     rw[wu.2]at Ci
     have Pj:1≤(nth m1 k3).w∧(nth m1 k3).w≤2:=Ci.2
     have rS:=yj3 aA
     refine bg (pt _ _ ?_)
     refine aD fun QW sU=>?_
     refine aW ?_
     refine aZ hp ax hc rfl fun QV sR=>?_
     refine jO ?_
     refine F4 ([dZ (oL m1),.free]) ([.cells [.d (aI b)],eW,.cells [.d (sD ⟨#[112]⟩),.d (sD ⟨#[97]⟩),.os 13 7 0 r1.length,.os 27 0 0 m1.length,.os 9 8 0 ts.length,.os 16 9 0 q1.length],.cells [.d (nI rw),.d (nI tw),.os 27 0 0 m1.length,.d (oD true)],.cells (ak (bG b j3)),.cells (ak (r1.flatMap iH)),.cells (ak (ts.flatMap jh)),.cells (ak (q1.flatMap ji))]) (ZA (j:=j3) wv zi hb gr (by omega)) ?_
     rintro _ _ ⟨e,je,he,sK,PV,rfl,g,rfl⟩
     refine⟨rfl,?_⟩
     obtain⟨xT,xW,xP,yg,xU,vT⟩:=pZ e;unfold kZ;rw[vT];dsimp only[List.map_cons,List.map_nil,List.cons_append,List.nil_append,bG]
     refine jO ?_
     refine sR _ _ ?_
     refine bC hp (τ':=aF [(1,.op 2 0),(2,.op 3 0),(3,.op 4 0),(4,.op 5 0),(5,.op 6 0),(13,.d (iD k3)),(14,.op 10 0)]) (H':=[dZ (oL m1),.free,.cells [.d (aI b)],eW,.cells [.d (sD ⟨#[112]⟩),.d (sD ⟨#[97]⟩),.os 13 7 0 r1.length,.os 27 0 0 m1.length,.os 9 8 0 ts.length,.os 16 9 0 q1.length],.cells [.d (nI rw),.d (nI tw),.os 27 0 0 m1.length,.d (oD true)],.cells (ak (bG b j3)),.cells (ak (r1.flatMap iH)),.cells (ak (ts.flatMap jh)),.cells (ak (q1.flatMap ji)),.cells (ak ([iD xT,nS,iD xW,nS,iD xP,nS,.fs yg xU]++bG b je))]) ?_ ?_
     ·refine Rt.trans (Rt.ye) ?_
      refine wj [0,11,2,3,4,5,6,7,8,9,10] ?_
      refine r9 ?_
      exact AJ
     refine aZ hp ax hc rfl fun Ip oz=>?_
     refine jO ?_
     refine F4 ([dZ (oL m1),.free]) ([.cells [.d (aI b)],eW,.cells [.d (sD ⟨#[112]⟩),.d (sD ⟨#[97]⟩),.os 13 7 0 r1.length,.os 27 0 0 m1.length,.os 9 8 0 ts.length,.os 16 9 0 q1.length],.cells [.d (nI rw),.d (nI tw),.os 27 0 0 m1.length,.d (oD true)],.cells (ak (bG b j3)),.cells (ak (r1.flatMap iH)),.cells (ak (ts.flatMap jh)),.cells (ak (q1.flatMap ji)),.cells (ak ([iD xT,nS,iD xW,nS,iD xP,nS,.fs yg xU]++bG b je))]) (Gc (d:=1) (j:=je) (w:=1+b.length % 2) Wp wv zi hb gr (by omega) (by omega) (by omega)) ?_
     rintro _ _ ⟨a,ja,ha,hjc,hjd,rfl,g',rfl⟩
     refine⟨rfl,?_⟩
     obtain⟨NF,NL,Nt,QM,NH,Xz⟩:=pZ a;unfold kZ;rw[Xz];dsimp only[List.map_cons,List.map_nil,List.cons_append,List.nil_append,bG]
     refine jO ?_
     refine oz _ _ ?_
     refine bC hp (τ':=aF [(1,.op 2 0),(2,.op 3 0),(3,.op 4 0),(4,.op 5 0),(5,.op 6 0),(13,.d (iD k3)),(14,.op 10 0),(15,.op 11 0)]) (H':=[dZ (oL m1),.free,.cells [.d (aI b)],eW,.cells [.d (sD ⟨#[112]⟩),.d (sD ⟨#[97]⟩),.os 13 7 0 r1.length,.os 27 0 0 m1.length,.os 9 8 0 ts.length,.os 16 9 0 q1.length],.cells [.d (nI rw),.d (nI tw),.os 27 0 0 m1.length,.d (oD true)],.cells (ak (bG b j3)),.cells (ak (r1.flatMap iH)),.cells (ak (ts.flatMap jh)),.cells (ak (q1.flatMap ji)),.cells (ak ([iD xT,nS,iD xW,nS,iD xP,nS,.fs yg xU]++bG b je)),.cells (ak ([iD NF,nS,iD NL,nS,iD Nt,nS,.fs QM NH]++bG b ja))]) ?_ ?_
     ·refine Rt.trans (Rt.ye) ?_
      refine wj [0,12,2,3,4,5,6,7,8,9,10,11] ?_
      refine r9 ?_
      exact AJ
     rw[xE]
     have hty:=Gc (d:=2) (j:=ja) (w:=(nth m1 k3).w) Ga wv zi hb gr Pj.1 (by omega) (by omega)
     rw[xE]at hty
     refine jP ax hp hc mixed rfl [(0,[]),(1,[]),(2,[]),(3,[]),(4,[]),(5,[]),(6,[]),(7,[]),(8,[]),(9,[]),(11,[]),(10,[]),(12,[])] [[],[0],[],[],[3],[],[3,4,5],[3,4,5,6],[3,4,5,6,7],[3,4,5,6,7,8],[0,1,2,3,4,5,6,7,8,9],[],[0,1,2,3,4,5,6,7,8,9,10,11]] 1 (by kernel_rfl) fun Io np=>?_
     refine zT rS ?_
     refine Jz ([.cells (ak (m1.flatMap jU)),.free]) ([.cells [.d (aI b)],eW,.cells [.d (sD ⟨#[112]⟩),.d (sD ⟨#[97]⟩),.os 13 7 0 r1.length,.os 27 0 0 m1.length,.os 9 8 0 ts.length,.os 16 9 0 q1.length],.cells [.d (nI rw),.d (nI tw),.os 27 0 0 m1.length,.d (oD true)],.cells (ak (bG b j3)),.cells (ak (r1.flatMap iH)),.cells (ak (ts.flatMap jh)),.cells (ak (q1.flatMap ji)),.cells (ak ([iD xT,nS,iD xW,nS,iD xP,nS,.fs yg xU]++bG b je)),.cells (ak ([iD NF,nS,iD NL,nS,iD Nt,nS,.fs QM NH]++bG b ja)),eT]) (hty) ?_
     rintro _ _ ⟨d,jd,hd,hje,hjf,rfl,g'',rfl⟩
     refine⟨rfl,?_⟩
     obtain⟨XE,XN,XB,c_d,XF,FJ⟩:=pZ d;unfold kZ;rw[FJ];dsimp only[List.map_cons,List.map_nil,List.cons_append,List.nil_append,bG]
     refine zT rS ?_
     refine np _ _ ?_
     refine bC hp (τ':=aF [(1,.op 2 0),(2,.op 3 0),(3,.op 4 0),(4,.op 5 0),(5,.op 6 0),(13,.d (iD k3)),(14,.op 10 0),(15,.op 11 0),(16,.op 12 0)]) (H':=[dZ (oL m1),.cells g'',.cells [.d (aI b)],eW,.cells [.d (sD ⟨#[112]⟩),.d (sD ⟨#[97]⟩),.os 13 7 0 r1.length,.os 27 0 0 m1.length,.os 9 8 0 ts.length,.os 16 9 0 q1.length],.cells [.d (nI rw),.d (nI tw),.os 27 0 0 m1.length,.d (oD true)],.cells (ak (bG b j3)),.cells (ak (r1.flatMap iH)),.cells (ak (ts.flatMap jh)),.cells (ak (q1.flatMap ji)),.cells (ak ([iD xT,nS,iD xW,nS,iD xP,nS,.fs yg xU]++bG b je)),.cells (ak ([iD NF,nS,iD NL,nS,iD Nt,nS,.fs QM NH]++bG b ja)),.cells (ak ([iD XE,nS,iD XN,nS,iD XB,nS,.fs c_d XF]++bG b jd))]) ?_ ?_
     ·refine r9 ?_
      exact AJ
     rw[xE]
     refine ah (jO ·) ?_
     refine ah (jO ·) ?_
     refine ah (jO ·) ?_
     refine fj (jO ·) (sU _ _ ?_)
     refine bT hp ax hc rfl fun CY jC=>?_
     refine jO ?_
     refine jC _ _ ⟨_,_,_,?_,⟨k3+1,jd,m1.set k3 (Eb (Bn (Bo (nth m1 k3) e) a) d),⟨by omega,by simp[p9],(Ag (f:=fun m:MG=>(m.words,m.w)) (a:=Eb (Bn (Bo (nth m1 k3) e) a) d) aA rfl).trans zi,Ho.step aA he ha.t (by have:=ha.n;simp only[tO]at this;omega) hd,by omega,(Ag (f:=fun m:MG=>m.name) (a:=Eb (Bn (Bo (nth m1 k3) e) a) d) aA rfl).trans hmn⟩,rfl,rfl,rfl⟩,?_⟩
     ·first|omega|(simp only[List.length_cons];omega)|(dsimp only;omega)
     ·refine Rt.trans (Rt.ye) ?_
      refine wj [0,13,2,3,4,5,6,7,8,9] ?_
      refine r9 ?_
      refine Cd ?_;have kD:=jy4 (l:=m1) (i:=k3*27+3) aA rfl rfl vT;have rR:=jy5 (l:=m1.set k3 (Bo (nth m1 k3) e)) (k:=k3) (i:=k3*27+10) (by simpa using aA) rfl rfl Xz;rw[BX aA,List.set_set,←kD]at rR;have hs3:=jy6 (l:=m1.set k3 (Bn (Bo (nth m1 k3) e) a)) (k:=k3) (i:=k3*27+17) (by simpa using aA) rfl rfl FJ;rw[BX aA,List.set_set,←rR]at hs3;rw[xE,←hs3];simp[aI,iD,oD,sD,nS,ak,iF]
    ·have Hg:k3=m1.length:=by simp at ht;omega
     have hdM:EN (kH rw tw mw) m1 m1.length:=Hg▸Ho
     refine cJ (kr _ _ ?_)
     refine bC hp (τ':=aF [(2,.op 5 0),(3,.op 0 0)]) (H':=[.cells [.d (sD ⟨#[112]⟩),.d (sD ⟨#[97]⟩),.d (.fs (r1.flatMap iH) r1.length),.d (.fs (m1.flatMap jU) m1.length),.d (.fs (ts.flatMap jh) ts.length),.d (.fs (q1.flatMap ji) q1.length)],.dead,.dead,.dead,.dead,eW]) ?_ ?_
     ·refine wj [4,0,7,8,9,3] ?_
      refine Rt.trans (Rt.heap (H':=[.cells [.d (sD ⟨#[112]⟩),.d (sD ⟨#[97]⟩),.os 13 2 0 r1.length,.os 27 1 0 m1.length,.os 9 3 0 ts.length,.os 16 4 0 q1.length],.cells (ak (m1.flatMap jU)),.cells (ak (r1.flatMap iH)),.cells (ak (ts.flatMap jh)),.cells (ak (q1.flatMap ji)),eW]) (by simp only[cP,Nat.reduceAdd,↓reduceIte,Nat.reduceEqDiff,uX,fJ,bG,eW,iQ,iP,eT,gP,gO,xE,fE,mz,mA,my,l7];first|done|rfl)) ?_
      refine Rt.trans (Rt.fz (id:=1) (l:=(m1.flatMap jU)) rfl) ?_
      refine Rt.trans (Rt.heap (H':=[.cells [.d (sD ⟨#[112]⟩),.d (sD ⟨#[97]⟩),.os 13 2 0 r1.length,.d (.fs (m1.flatMap jU) m1.length),.os 9 3 0 ts.length,.os 16 4 0 q1.length],.dead,.cells (ak (r1.flatMap iH)),.cells (ak (ts.flatMap jh)),.cells (ak (q1.flatMap ji)),eW]) (by simp only[cP,Nat.reduceAdd,↓reduceIte,Nat.reduceEqDiff,uX,fJ,bG,eW,iQ,iP,eT,gP,gO,xE,fE,mz,mA,my,l7];first|done|rfl)) ?_
      refine Rt.trans (Rt.fz (id:=2) (l:=(r1.flatMap iH)) rfl) ?_
      refine Rt.trans (Rt.heap (H':=[.cells [.d (sD ⟨#[112]⟩),.d (sD ⟨#[97]⟩),.d (.fs (r1.flatMap iH) r1.length),.d (.fs (m1.flatMap jU) m1.length),.os 9 3 0 ts.length,.os 16 4 0 q1.length],.dead,.dead,.cells (ak (ts.flatMap jh)),.cells (ak (q1.flatMap ji)),eW]) (by simp only[cP,Nat.reduceAdd,↓reduceIte,Nat.reduceEqDiff,uX,fJ,bG,eW,iQ,iP,eT,gP,gO,xE,fE,mz,mA,my,l7];first|done|rfl)) ?_
      refine Rt.trans (Rt.fz (id:=3) (l:=(ts.flatMap jh)) rfl) ?_
      refine Rt.trans (Rt.heap (H':=[.cells [.d (sD ⟨#[112]⟩),.d (sD ⟨#[97]⟩),.d (.fs (r1.flatMap iH) r1.length),.d (.fs (m1.flatMap jU) m1.length),.d (.fs (ts.flatMap jh) ts.length),.os 16 4 0 q1.length],.dead,.dead,.dead,.cells (ak (q1.flatMap ji)),eW]) (by simp only[cP,Nat.reduceAdd,↓reduceIte,Nat.reduceEqDiff,uX,fJ,bG,eW,iQ,iP,eT,gP,gO,xE,fE,mz,mA,my,l7];first|done|rfl)) ?_
      refine Rt.trans (Rt.fz (id:=4) (l:=(q1.flatMap ji)) rfl) ?_
      refine r9 ?_
      refine Cd ?_;simp only[fE l7]
     refine ah (jO ·) ?_
     refine aM ?_
     try dsimp only[cC,cI]
     refine cS rfl ?_
     simp -dsimp -implicitDefEqProofs (disch:=first|assumption|omega|(simp only[aH,mA,mz,my,l7]<;>omega)|decide) only[aN,↓reduceIte,Nat.reduceEqDiff,Nat.reduceAdd,D.fix,Int.reduceToNat,Nat.reduceMul,Nat.reduceBNe,Nat.reduceBEq,uX,fJ,bG,eW,iQ,iP,eT,gP,gO,BW,Fp]
     show ∃r,ai _ _=some r∧_
     simp (disch:=first|assumption|omega|(simp only[aH,mA,mz,my,l7]<;>omega)|decide) only[fA,Nat.reduceAdd,D.fix,↓reduceIte,Nat.reduceEqDiff,uX,fJ,bG,eW,iQ,iP,eT,gP,gO]
     refine⟨_,rfl,rw,tw,mw,r1,m1,ts,q1,⟨wv,tI,Cm,zi,by omega,fun q hq=>?_,hdR,hdT,hdQ,hdM,fun x hx=>by rw[Pv]at hx;obtain⟨r,hr,rfl⟩:=mF.1 hx;exact sM.nr r hr,fun x hx=>by rw[hmn]at hx;obtain⟨m,hm,rfl⟩:=mF.1 hx;exact sM.nm m hm⟩,rfl⟩;have wu:=EZ Ep hq;obtain⟨x,hx,e⟩:=mF.1 (ll (l:=oM.map (·.w)) wu.1);rw[←wu.2,←e];exact sM.qw x hx
end
end Go.Proofs.YtapjobndmmkanaaGreat
