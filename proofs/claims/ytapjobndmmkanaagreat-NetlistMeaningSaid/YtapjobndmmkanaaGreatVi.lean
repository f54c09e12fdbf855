/- Processes that bytes describe: rows that are filled. -/
import Derived.Test.YtapjobndmmkanaaGreatVf
import Derived.Test.YtapjobndmmkanaaGreatQr
set_option linter.unusedVariables false
set_option linter.unusedSimpArgs false
namespace Go.Proofs.YtapjobndmmkanaaGreat
open Go.Proofs.Tryz
open Go Go.RowKit
section
theorem Nk:∀(xs A B:List AV) (i:Nat),ir (A++B) (A.length+i) xs=A++ir B i xs
 |[],A,B,i=>rfl
 |x::xs,A,B,i=>by
  rw[ir,ir,List.set_append_right _ _ (by omega),show A.length+i - A.length=i by omega,Nat.add_assoc,Nk xs]
theorem Nq:∀(xs A B:List AV) (i:Nat),i+xs.length≤A.length→ir (A++B) i xs=ir A i xs++B
 |[],A,B,i,_=>rfl
 |x::xs,A,B,i,h=>by
  rw[List.length_cons]at h
  rw[ir,ir,List.set_append_left _ _ (by omega),Nq xs _ _ _ (by simp;omega)]
theorem jo2{α:Type}[Inhabited α]{l:List α}{k:Nat}(h:k<l.length):l=l.take k++(nth l k::l.drop (k+1)):=by
 rw[mS h,List.getElem_cons_drop,List.take_append_drop]
theorem yc7{α:Type}{l:List α}{k:Nat}{a:α}(h:k<l.length):l.set k a=l.take k++(a::l.drop (k+1)):=by
 rw[List.set_eq_take_append_cons_drop,if_pos h]
theorem Cg{α:Type}[Inhabited α]{f:α→List D}{w:Nat}(hw:∀a,(f a).length=w){l:List α}{k off i:Nat}{a:α}{xs:List AV}(hk:k<l.length)(hi:i=k*w+off)(ho:off+xs.length≤w)(ha:ir (au (f (nth l k))) off xs=au (f a)):
  ir (au (l.flatMap f)) i xs=au ((l.set k a).flatMap f):=by
 have e1:au (l.flatMap f)=au ((l.take k).flatMap f)++(au (f (nth l k))++au ((l.drop (k+1)).flatMap f)):=by
  conv=>lhs;rw[jo2 hk]
  simp[au]
 have hl:(au ((l.take k).flatMap f)).length=k*w:=by
  rw[og,pq hw,List.length_take,Nat.min_eq_left (by omega)]
 rw[e1,hi,←hl,Nk,Nq _ _ _ _ (by rw[og,hw];exact ho),ha,yc7 hk]
 simp[au]
theorem CD{A B:List D}{e:Ex}{cs:List D}(hc:cs.length=7)(he:bW e=cs){z:List D}(hz:z.length=7):ir (au (A++(z++B))) A.length (au cs)=au (A++(bW e++B)):=by
 have e1:au (A++(z++B))=au A++(au z++au B):=by simp[au]
 have key:∀(z c:List AV),z.length=7→c.length=7→ir z 0 c=c:=by
  intro z c h1 h2
  match z,h1,c,h2 with
  |[_,_,_,_,_,_,_],_,[_,_,_,_,_,_,_],_=>rfl
 rw[e1]
 have:=Nk (au cs) (au A) (au z++au B) 0
 rw[og,Nat.add_zero]at this
 rw[this,Nq _ _ _ _ (by rw[og,og];omega),key _ _ (by rw[og];exact hz) (by rw[og];exact hc),he]
 simp[au]
def Hb(t:TG)(e:Ex):TG:={t with wh:=some e}
def A1(r:RG)(e:Ex):RG:={r with nx:=some e}
def Ha(q:QG)(e:Ex):QG:={q with wh:=some e}
def G9(q:QG)(e:Ex):QG:={q with da:=some e}
def BR(m:MG)(e:Ex):MG:={m with en:=some e}
def BQ(m:MG)(e:Ex):MG:={m with ad:=some e}
def EI(m:MG)(e:Ex):MG:={m with da:=some e}
section
variable {e:Ex} {cs:List D} {k i:Nat}
theorem ykd{l:List TG}(hk:k<l.length)(hi:i=k*9+2)(hc:cs.length=7)(he:bW e=cs):ir (au (l.flatMap jg)) i (au cs)=au ((l.set k (Hb (nth l k) e)).flatMap jg):=
 Cg NZ hk hi (by rw[og];omega) (by have:=CD (A:=[iD (nth l k).chan,iD (nth l k).w]) (B:=[]) hc he (qA (nth l k).wh);simpa[jg,Hb,kp]using this)
theorem YQ{l:List RG}(hk:k<l.length)(hi:i=k*13+3)(hc:cs.length=7)(he:bW e=cs):ir (au (l.flatMap iw)) i (au cs)=au ((l.set k (A1 (nth l k) e)).flatMap iw):=
 Cg N2 hk hi (by rw[og];omega) (CD (A:=[sD (nth l k).name,iD (nth l k).w,iD (nth l k).init]) (B:=[iD (nth l k).rk,sD (nth l k).rf,iD (nth l k).rn]) hc he (qA (nth l k).nx))
theorem yc9{l:List QG}(hk:k<l.length)(hi:i=k*16+2)(hc:cs.length=7)(he:bW e=cs):ir (au (l.flatMap jh)) i (au cs)=au ((l.set k (Ha (nth l k) e)).flatMap jh):=
 Cg Kh hk hi (by rw[og];omega) (CD (A:=[iD (nth l k).chan,iD (nth l k).w]) (B:=kp (nth l k).da) hc he (qA (nth l k).wh))
theorem yda{l:List QG}(hk:k<l.length)(hi:i=k*16+9)(hc:cs.length=7)(he:bW e=cs):ir (au (l.flatMap jh)) i (au cs)=au ((l.set k (G9 (nth l k) e)).flatMap jh):=
 Cg Kh hk hi (by rw[og];omega) (by
  have:=CD (A:=[iD (nth l k).chan,iD (nth l k).w]++kp (nth l k).wh) (B:=[]) hc he (qA (nth l k).da)
  rw[List.length_append,qA]at this
  simpa[jh,G9,kp]using this)
theorem ydb{l:List MG}(hk:k<l.length)(hi:i=k*27+3)(hc:cs.length=7)(he:bW e=cs):ir (au (l.flatMap jP)) i (au cs)=au ((l.set k (BR (nth l k) e)).flatMap jP):=
 Cg Gx hk hi (by rw[og];omega) (CD (A:=[sD (nth l k).name,iD (nth l k).w,iD (nth l k).words]) hc he (qA (nth l k).en))
theorem ydc{l:List MG}(hk:k<l.length)(hi:i=k*27+10)(hc:cs.length=7)(he:bW e=cs):ir (au (l.flatMap jP)) i (au cs)=au ((l.set k (BQ (nth l k) e)).flatMap jP):=
 Cg Gx hk hi (by rw[og];omega) (by
  have:=CD (A:=[sD (nth l k).name,iD (nth l k).w,iD (nth l k).words]++kp (nth l k).en) (B:=kp (nth l k).da++[iD (nth l k).rk,sD (nth l k).rf,iD (nth l k).rn]) hc he (qA (nth l k).ad)
  rw[List.length_append,qA]at this
  simpa[jP,BQ,kp]using this)
theorem ydd{l:List MG}(hk:k<l.length)(hi:i=k*27+17)(hc:cs.length=7)(he:bW e=cs):ir (au (l.flatMap jP)) i (au cs)=au ((l.set k (EI (nth l k) e)).flatMap jP):=
 Cg Gx hk hi (by rw[og];omega) (by
  have:=CD (A:=[sD (nth l k).name,iD (nth l k).w,iD (nth l k).words]++(kp (nth l k).en++kp (nth l k).ad)) (B:=[iD (nth l k).rk,sD (nth l k).rf,iD (nth l k).rn]) hc he (qA (nth l k).da)
  rw[List.length_append,List.length_append,qA,qA]at this
  simpa[jP,EI,kp]using this)
end
end
theorem Rt.fr9{m:List Nat}{τ:Fr}{H:ak}:Rt m τ H τ (H++[.free,.free,.free,.free,.free,.free,.free,.free,.free]):=fun c a w _ h=>R.eu 9 H h
theorem cM.IP{P:Program}{ks:List Nat}{f:FuncId}{x y y':AV}{xs:List AV}{S:ak}{K:AV→ak→Prop}(h:cM P ks f (x::y::xs) S K)(hi:np y' y):cM P ks f (x::y'::xs) S K:=
 ⟨h.1,fun E w pl vals hl hx hh hE=>h.2 E w pl vals (by simpa using hl) (fun j z hj=>by
  match j,hj with
  |0,hj=>exact hx 0 z hj
  |1,hj=>cases hj;exact hi _ _ _ _ (hx 1 _ rfl)
  |j+2,hj=>exact hx (j+2) z hj) hh hE⟩
theorem np.GM{a b b':AV}{l:List AV}(h:np b' b):np (.agg (a::b'::l)) (.agg (a::b::l)):=fun w pl own v hv=>by
 cases hv with
 |agg _ vs hl hx=>
  refine .agg _ vs (by simpa using hl) fun j x hj=>?_
  match j,hj with
  |0,hj=>exact hx 0 x hj
  |1,hj=>cases hj;exact h _ _ _ _ (hx 1 _ rfl)
  |j+2,hj=>exact hx (j+2) x hj
def Eb(m:MG):SM:=⟨sD m.name,m.w,iD m.words::(kp m.en++(kp m.ad++(kp m.da++[iD m.rk,sD m.rf,iD m.rn])))⟩
theorem yke(m:MG):AM (Eb m)=jP m:=by
 unfold AM Eb jP
 simp only
 rw[List.take_append_of_le_length (by simp[qA]),yE (by simp[qA])];rfl
def oO(ms:List MG):Sc:=⟨[],[],ms.map Eb,true⟩
theorem ym(ms:List MG):dR (oO ms)= .cells (au (ms.flatMap jP)):=by
 unfold dR oO
 simp only
 rw[List.flatMap_map]
 rw[show(fun a=>AM (Eb a))=jP from funext yke]
def kq(rw tw:List Nat)(mw:List (Nat × Nat)):Ct:=⟨rw,tw,mw⟩
def yD(rw tw:List Nat)(ms:List MG)(q:Bool):Sc:=⟨rw,if q then tw else[],ms.map Eb,q⟩
structure pI (rw tw:List Nat) (mw:List (Nat × Nat)):Prop where
 r1:1≤rw.length
 r3:rw.length≤3
 r:∀w∈rw,1≤w∧w≤3
 t2:tw.length≤2
 t:∀w∈tw,1≤w∧w≤2
 m1:mw.length≤1
 m:∀x∈mw,(x.1=1∨x.1=2∨x.1=4)∧1≤x.2∧x.2≤2
theorem pI.ct{rw tw:List Nat}{mw:List (Nat × Nat)}(h:pI rw tw mw):kN (kq rw tw mw):=
 ⟨fun i hi=>by have:=h.r _ (my (l:=rw) hi);show 1≤nth rw i∧nth rw i≤8;omega,fun i hi=>by have:=h.t _ (my (l:=tw) hi);show 1≤nth tw i∧nth tw i≤8;omega,
  fun i hi=>by have:=h.m _ (my (l:=mw) hi);show 1≤(nth mw i).1∧(nth mw i).1≤8∧1≤(nth mw i).2∧(nth mw i).2≤8;omega,by have:=h.m1;show mw.length≤8;omega⟩
theorem pI.sc{rw tw:List Nat}{mw:List (Nat × Nat)}(h:pI rw tw mw){ms:List MG}(hm:(ms.map fun m=>(m.words,m.w))=mw)(q:Bool):pK (kq rw tw mw) (yD rw tw ms q):=by
 have mC:ms.length=mw.length:=by rw[←hm];simp
 refine⟨rfl,fun e=>?_,?_,by have:=h.r3;show rw.length≤100;omega,?_,by have:=h.m1;simp[yD];omega⟩
 ·have e:q=true:=e
  subst e;rfl
 ·show mw.map (·.2)=(ms.map Eb).map (·.w)
  rw[←hm,List.map_map,List.map_map];rfl
 ·have:=h.t2
  show(if q=true then tw else[]).length≤100
  split
  ·omega
  ·simp
theorem AE{α β:Type}[Inhabited α]{f:α→β}{l:List α}{k:Nat}{a:α}(hk:k<l.length)(h:f a=f (nth l k)):(l.set k a).map f=l.map f:=by
 rw[List.map_set,h,mS hk]
 have:f l[k]=(l.map f)[k]'(by simpa using hk):=by simp
 rw[this,List.set_getElem_self]
def Fm(C:Ct)(ts:List TG)(k:Nat):Prop:=∀q,q<k→∃e,(nth ts q).wh=some e∧Fit C false 1 32 e
def Fo(C:Ct)(rs:List RG)(k:Nat):Prop:=∀q,q<k→∃e,(nth rs q).nx=some e∧Fit C true (nth rs q).w (if q=0 then 128 else 32) e
def Fp(C:Ct)(qs:List QG)(k:Nat):Prop:=∀q,q<k→∃e d,(nth qs q).wh=some e∧(nth qs q).da=some d∧Fit C true 1 32 e∧Fit C true (nth qs q).w 32 d
def Fs(C:Ct)(ms:List MG)(k:Nat):Prop:=∀q,q<k→∃e a d,(nth ms q).en=some e∧(nth ms q).ad=some a∧(nth ms q).da=some d∧Fit C true 1 32 e∧WT C true a∧bQ C a=0∧Fit C true (nth ms q).w 32 d
theorem Fm.step{C:Ct}{ts:List TG}{k:Nat}(h:Fm C ts k)(hk:k<ts.length){e:Ex}(he:Fit C false 1 32 e):Fm C (ts.set k (Hb (nth ts k) e)) (k+1):=fun q hq=>by
 by_cases e1:k=q
 ·subst e1;rw[AJ hk];exact⟨e,rfl,he⟩
 ·rw[F4 e1];exact h q (by omega)
theorem Fo.step{C:Ct}{rs:List RG}{k:Nat}(h:Fo C rs k)(hk:k<rs.length){e:Ex}(he:Fit C true (nth rs k).w (if k=0 then 128 else 32) e):Fo C (rs.set k (A1 (nth rs k) e)) (k+1):=fun q hq=>by
 by_cases e1:k=q
 ·subst e1;rw[AJ hk];exact⟨e,rfl,he⟩
 ·rw[F4 e1];exact h q (by omega)
theorem Fp.step{C:Ct}{qs:List QG}{k:Nat}(h:Fp C qs k)(hk:k<qs.length){e d:Ex}(he:Fit C true 1 32 e)(hd:Fit C true (nth qs k).w 32 d):Fp C (qs.set k (G9 (Ha (nth qs k) e) d)) (k+1):=fun q hq=>by
 by_cases e1:k=q
 ·subst e1;rw[AJ hk];exact⟨e,d,rfl,rfl,he,hd⟩
 ·rw[F4 e1];exact h q (by omega)
theorem Fs.step{C:Ct}{ms:List MG}{k:Nat}(h:Fs C ms k)(hk:k<ms.length){e a d:Ex}(he:Fit C true 1 32 e)(ha:WT C true a)(hc:bQ C a=0)(hd:Fit C true (nth ms k).w 32 d):Fs C (ms.set k (EI (BQ (BR (nth ms k) e) a) d)) (k+1):=fun q hq=>by
 by_cases e1:k=q
 ·subst e1;rw[AJ hk];exact⟨e,a,d,rfl,rfl,rfl,he,ha,hc,hd⟩
 ·rw[F4 e1];exact h q (by omega)
set_option maxRecDepth 100000
set_option maxHeartbeats 4000000
section
theorem Pj(rw tw:List Nat)(ms:List MG)(q:Bool):cY (yD rw tw ms q)=[.d (nI rw),.d (nI (if q then tw else[])),.os 27 0 0 ms.length,.d (oD q)]:=by simp[cY,yD]
section
variable {rw tw:List Nat} {mw:List (Nat × Nat)} {ms:List MG} {b:List Int} {j:Nat}
theorem ydf(h:pI rw tw mw)(hm:(ms.map fun m=>(m.words,m.w))=mw)(hb:mR b)(hl:b.length≤maxLen)(hj:j≤7000000):
  cM prog [0] 55 [fF b j,.agg [.d (nI rw),.d (.val (.slice none 0 0)),.os 27 0 0 ms.length,.d (oD false)]] [dR (oO ms),.free] (BI (kq rw tw mw) (yD rw tw ms false) b j 1 32 10):=by
 have:=jth (kq rw tw mw) (yD rw tw ms false) b j h.ct (h.sc hm false) hb hl hj
 rw[Pj]at this
 exact this.IP (np.GM np.x7)
theorem jtk(h:pI rw tw mw)(hm:(ms.map fun m=>(m.words,m.w))=mw)(hb:mR b)(hl:b.length≤maxLen)(hj:j≤7000000):
  cM prog [0] 55 [fF b j,.agg [.d (nI rw),.d (nI tw),.os 27 0 0 ms.length,.d (oD true)]] [dR (oO ms),.free] (BI (kq rw tw mw) (yD rw tw ms true) b j 1 32 10):=by
 have:=jth (kq rw tw mw) (yD rw tw ms true) b j h.ct (h.sc hm true) hb hl hj
 rw[Pj]at this
 exact this
theorem Gt{d w:Nat}(hT:Fh d)(h:pI rw tw mw)(hm:(ms.map fun m=>(m.words,m.w))=mw)(hb:mR b)(hl:b.length≤maxLen)(h1:1≤w)(h2:w+d≤8)(hj:j≤vi d):
  cM prog [0] 56 [fF b j,.agg [.d (nI rw),.d (nI tw),.os 27 0 0 ms.length,.d (oD true)],.agg [.d (iD w),.d (iD d)]] [dR (oO ms),.free] (BI (kq rw tw mw) (yD rw tw ms true) b j w (rQ d) (nM d)):=by
 have:=hT (kq rw tw mw) (yD rw tw ms true) b j w h.ct (h.sc hm true) hb hl h1 h2 hj
 rw[Pj]at this
 exact this
end
structure vH (rw tw:List Nat) (mw:List (Nat × Nat)) (rs:List RG) (ms:List MG) (ts:List TG) (qs:List QG):Prop where
 wd:pI rw tw mw
 rl:rs.map (·.w)=rw
 tl:ts.map (·.w)=tw
 ml:(ms.map fun m=>(m.words,m.w))=mw
 q2:qs.length≤2
 qw:∀q,q<qs.length→1≤(nth qs q).w∧(nth qs q).w≤2
 r:Fo (kq rw tw mw) rs rs.length
 t:Fm (kq rw tw mw) ts ts.length
 q:Fp (kq rw tw mw) qs qs.length
 m:Fs (kq rw tw mw) ms ms.length
 nr:∀x∈rs.map (·.name),x.size≤9
 nm:∀x∈ms.map (·.name),x.size≤9
def Ot(rs:List RG)(ms:List MG)(ts:List TG)(qs:List QG):List D:=[sD ⟨#[112]⟩,sD ⟨#[97]⟩,.fs (rs.flatMap iw) rs.length,.fs (ms.flatMap jP) ms.length,.fs (ts.flatMap jg) ts.length,.fs (qs.flatMap jh) qs.length]
theorem vM(l:List Nat):lS (.d (nI l))=some [.d (nI l)]:=rfl
theorem FA{α:Type}[Inhabited α]{f:α→Nat}{l:List α}{w:List Nat}(h:l.map f=w){k:Nat}(hk:k<l.length):k<w.length∧nth w k=f (nth l k):=by
 subst h
 exact⟨by simpa using hk,vZ hk⟩
theorem jG{p q:Prop}(hq:q)(h:p=q:=by
 conv=>lhs;simp -dsimp -implicitDefEqProofs (disch:=first|assumption|omega|(simp only[aK,mu,mr,mq,lR]<;>omega)|decide) only[aP,↓reduceIte,Nat.reduceEqDiff,Nat.reduceAdd,D.fix,Int.reduceToNat,Nat.reduceMul,Nat.reduceBNe,Nat.reduceBEq,vM,fF,bo,ew,iL,iK,er,gJ,gI,bw]):p:=h.mpr hq
theorem xy(k:List Nat){m:List Nat}{τ τ1:Fr}{H H1:ak}(h:Rt m (fun t=>c7 k (τ t)) (dg k H) τ1 H1)(a:∀i∈m,k[i]? =some i:=by decide)(b:k.Nodup:=by decide)(c:∀i∈k,i<H.length:=by
 simp[eS,dg]):Rt m τ H τ1 H1:=Rt.trans (Rt.gc a b c) h
theorem ss{m:List Nat}{τ τ':Fr}{H H':ak}(h2:H=H')(h:fm τ τ':=by
 repeat (first|exact bT _|refine bM ?_ (by first|rfl|(simp[aR,mu,mr,mq,lR];done)|simp[aR,mu,mr,mq,lR, *]))):Rt m τ H τ' H':=Rt.end h h2
theorem Gr{P:Program}{sm:List Nat}{N:Nat}{τ:Fr}{H:ak}{f:FuncId}{args:List AV}{K0 KK:AV→ak→Prop}{ks:List Nat}(S T:ak)(h:cM P ks f args S K0)(hK:∀x S',K0 x S'→S'.length=S.length∧KK x (S'++T))(hH:H=S++T:=by
 rfl) (hm:sm.all (aJ ks S.length)=true:=by
 first|rfl|(simp[AV.ah,AV.allI,bc,bg,bf,aJ,aN,aY,aZ,ew,iL,iK,er,fj,bo];done)|(intro o ho;simp at ho;done)) (hτ:∀t,(τ t).allI (aJ ks S.length)=true:=by
 exact fun t=>fU (by first|rfl|(simp[AV.ah,AV.allI,bc,bg,bf,aJ,aN,aY,aZ,ew,iL,iK,er,fj,bo];done)|(intro o ho;simp at ho;done)) t) (ha:AV.ah (aN S.length) args=true:=by
 first|rfl|(simp[AV.ah,AV.allI,bc,bg,bf,aJ,aN,aY,aZ,ew,iL,iK,er,fj,bo];done)|(intro o ho;simp at ho;done)) (hS:∀o∈S,o.allI (aN S.length)=true:=by
 first|rfl|(simp[AV.ah,AV.allI,bc,bg,bf,aJ,aN,aY,aZ,ew,iL,iK,er,fj,bo];done)|(intro o ho;simp at ho;done)) (hT:∀o∈T,o.allI (aJ ks S.length)=true:=by
 first|rfl|(simp[AV.ah,AV.allI,bc,bg,bf,aJ,aN,aY,aZ,ew,iL,iK,er,fj,bo];done)|(intro o ho;simp at ho;done)):kC P sm N H τ (.d (.val (.func (.func f) #[] #[]))) args true (tg KK):=r7 h hH hm hτ ha hS hT hK
theorem Ls{p q:Prop}(hq:q)(h:p=q:=by
 conv=>lhs;simp -dsimp -implicitDefEqProofs (disch:=first|assumption|omega|(simp only[aK,mu,mr,mq,lR]<;>omega)|decide) only[aP,↓reduceIte,Nat.reduceEqDiff,Nat.reduceAdd,D.fix,Int.reduceToNat,Nat.reduceMul,Nat.reduceBNe,Nat.reduceBEq,vM,fF,bo,ew,iL,iK,er,gJ,gI]):p:=h.mpr hq
theorem Ao{p q r:Prop}(e:r)(hq:q)(h:r→p=q:=by
 intro hY
 conv=>lhs;simp -dsimp -implicitDefEqProofs (disch:=first|assumption|omega|(simp only[aK,mu,mr,mq,lR]<;>omega)|decide) only[aP,↓reduceIte,Nat.reduceEqDiff,Nat.reduceAdd,D.fix,Int.reduceToNat,Nat.reduceMul,Nat.reduceBNe,Nat.reduceBEq,mz,vM,fF,bo,ew,iL,iK,er,gJ,gI,bw,hY]):p:=(h e).mpr hq
theorem Kf{P:Program}{sm:List Nat}{N:Nat}{τ0 τ:Fr}{H:ak}{f:FuncId}{args:List AV}{K0 KK:AV→ak→Prop}{ks:List Nat}(S T:ak)(h:cM P ks f args S K0)(hK:∀x S',K0 x S'→S'.length=S.length∧KK x (S'++T))(hH:H=S++T:=by
 rfl) (hN:S.length≤N:=by
 exact bN rfl) (hm:sm.all (aJ ks S.length)=true:=by
 first|rfl|(simp[AV.ah,AV.allI,bc,bg,bf,aJ,aN,aY,aZ,ew,iL,iK,er,fj,bo];done)|(intro o ho;simp at ho;done)) (hτ:∀t,(τ t).allI (aJ ks S.length)=true:=by
 exact fun t=>fU (by first|rfl|(simp[AV.ah,AV.allI,bc,bg,bf,aJ,aN,aY,aZ,ew,iL,iK,er,fj,bo];done)|(intro o ho;simp at ho;done)) t) (h0:∀t,(τ0 t).allI (aJ ks S.length)=true:=by
 exact fun t=>fU (by first|rfl|(simp[AV.ah,AV.allI,bc,bg,bf,aJ,aN,aY,aZ,ew,iL,iK,er,fj,bo];done)|(intro o ho;simp at ho;done)) t) (ha:AV.ah (aN S.length) args=true:=by
 first|rfl|(simp[AV.ah,AV.allI,bc,bg,bf,aJ,aN,aY,aZ,ew,iL,iK,er,fj,bo];done)|(intro o ho;simp at ho;done)) (hS:∀o∈S,o.allI (aN S.length)=true:=by
 first|rfl|(simp[AV.ah,AV.allI,bc,bg,bf,aJ,aN,aY,aZ,ew,iL,iK,er,fj,bo];done)|(intro o ho;simp at ho;done)) (hT:∀o∈T,o.allI (aJ ks S.length)=true:=by
 first|rfl|(simp[AV.ah,AV.allI,bc,bg,bf,aJ,aN,aY,aZ,ew,iL,iK,er,fj,bo];done)|(intro o ho;simp at ho;done)):kE P sm N τ0 τ H (.d (.val (.func (.func f) #[] #[]))) args (tg KK):=uL h hH hN hm hτ h0 ha hS hT hK
theorem A0{p:Prop}(h:p:=by
 first|rfl|(simp only[cD,Nat.reduceAdd,↓reduceIte,Nat.reduceEqDiff,vM,fF,bo,ew,iL,iK,er,gJ,gI];first|done|rfl)):p:=h
theorem CC{p q:Prop}(hq:q)(h:p=q:=by
 conv=>lhs;simp only[cD,Nat.reduceAdd,↓reduceIte,Nat.reduceEqDiff,vM,fF,bo,ew,iL,iK,er,gJ,gI]):p:=h.mpr hq
theorem jv4(b:List Int)(hb:mR b)(hl:b.length≤maxLen):tV prog 9 [.agg [aE b]] (fun r=>∃rw tw mw rs ms ts qs,vH rw tw mw rs ms ts qs∧r= .d (.agg (Ot rs ms ts qs))):=by
 unfold maxLen at hl
 have gh:b.length≤maxLen:=by unfold maxLen;exact hl
 have hcp3:vi 3=7000000:=by decide
 have Rk:vi 2=8000000:=by decide
 have hcp1:vi 1=9000000:=by decide
 have hc3:rQ 3=128:=by decide
 have BC:rQ 2=32:=by decide
 have rC:rQ 1=0:=by decide
 have hb3:nM 3=13:=by decide
 have It:nM 2=4:=by decide
 have Fb:nM 1=1:=by decide
 refine JK (fn:=f9) (by kernel_rfl) func9 rfl (bN rfl) fun c hc hp=>?_
 refine dG (τ':=aG [(0,.d (.agg [aE b]))]) (by repeat (first|exact bT _|refine bM ?_ (by first|rfl|(simp[aR,mu,mr,mq,lR];done)|simp[aR,mu,mr,mq,lR, *]))) ?_
 refine aj (jG ·) ?_
 refine bI hp (τ':=aG [(1,.op 9 0),(2,.op 10 0)]) (H':=[.free,.free,.free,.free,.free,.free,.free,.free,.free,.cells [.d (aE b)],ew]) ?_ ?_
 ·refine Rt.trans (Rt.fr9) ?_
  refine xy [2,3,4,5,6,7,8,9,10,0,1] ?_
  refine ss ?_
  exact A0
 refine bC hp ax hc rfl fun K2 bG=>?_
 refine jG ?_
 refine Gr ([.free,.free,.free,.free,.free,.free,.free,.free,.free]) ([.cells [.d (aE b)],ew]) (jv0 b 0 hb gh (by omega)) ?_
 rintro _ _ ⟨rs,ms,xq,oP,qp,rfl,g1,g2,g3,rfl⟩
 refine⟨rfl,?_⟩
 refine jG ?_
 refine bG _ _ ?_
 refine aH fun K3 bS=>?_
 obtain⟨rw,xM⟩:∃rw,rw=rs.map (·.w):=⟨_,rfl⟩
 obtain⟨tw,zG⟩:∃tw,tw=xq.map (·.w):=⟨_,rfl⟩
 obtain⟨mw,rr⟩:∃mw,mw=ms.map fun m=>(m.words,m.w):=⟨_,rfl⟩
 have uv:pI rw tw mw:=⟨by rw[xM];simpa using qp.r1,by rw[xM];simpa using qp.r3,fun w hw=>by rw[xM]at hw;obtain⟨r,hr,rfl⟩:=kV.1 hw;exact qp.rw r hr,by rw[zG];simpa using qp.t2,fun w hw=>by rw[zG]at hw;obtain⟨r,hr,rfl⟩:=kV.1 hw;exact qp.tw r hr,by rw[rr];simpa using qp.m1,fun x hx=>by rw[rr]at hx;obtain⟨m,hm,rfl⟩:=kV.1 hx;have:=qp.mw m hm;exact⟨this.2.2,this.1,this.2.1⟩⟩
 have f1:=qp.r3;have f2:=qp.t2;have f3:=qp.m1;have f4:=qp.q2
 refine aj (Ls ·) ?_
 refine aW ?_
 refine c9 hp (fun τ' H' mm=>∃(k j:Nat) (ts:List TG),(k≤xq.length∧ts.length=xq.length∧ts.map (·.w)=tw∧Fm (kq rw tw mw) ts k∧j≤9+100*k)∧mm=xq.length - k∧H'=[dR (oO ms),.free,.cells [.d (aE b)],ew,.cells [.d (sD ⟨#[112]⟩),.d (sD ⟨#[97]⟩),.os 13 7 0 rs.length,.os 27 0 0 ms.length,.os 9 8 0 ts.length,.os 16 9 0 oP.length],.cells [.d (nI rw),.d (nI tw),.os 27 0 0 ms.length,.d (oD true)],.cells (au (bo b j)),.cells (au (rs.flatMap iw)),.cells (au (ts.flatMap jg)),.cells (au (oP.flatMap jh))]∧τ'=aG [(1,.op 2 0),(2,.op 3 0),(3,.op 4 0),(4,.op 5 0),(5,.op 6 0),(6,.d (iD k))]) (xq.length) ?_ ⟨0,9,xq,⟨cy _,rfl,zG.symm,fun q hq=>by omega,by omega⟩,rfl,rfl,rfl⟩ ?_
 ·refine Rt.trans (Rt.lL) ?_
  refine Rt.trans (Rt.fz (id:=1) (l:=(rs.map fun r=>iD r.w)) rfl) ?_
  refine Rt.trans (Rt.heap (H':=[.cells (au (rs.flatMap iw)),.dead,.cells (au (ms.flatMap jP)),.cells (au (xq.flatMap jg)),.cells (au (xq.map fun t=>iD t.w)),.cells (au (oP.flatMap jh)),.cells (gf 1 (rs.map fun r=>iD r.w) g1),.cells (gf 1 (rs.map fun r=>iD r.w) g2),.cells (gf 1 (rs.map fun r=>iD r.w) g3),.cells [.d (aE b)],ew,.cells [.d (sD ⟨#[112]⟩),.d (sD ⟨#[97]⟩),.os 13 0 0 rs.length,.os 27 2 0 ms.length,.os 9 3 0 xq.length,.os 16 5 0 oP.length],.cells [.d (.fs (rs.map fun r=>iD r.w) rs.length),.os 1 4 0 xq.length,.os 27 2 0 ms.length,.d (oD true)],.cells [.d (aE b),.d (iD 9)],.free]) (by simp only[cD,Nat.reduceAdd,↓reduceIte,Nat.reduceEqDiff,vM,fF,bo,ew,iL,iK,er,gJ,gI,ym,iN,mr,mu,mq,lR];first|done|rfl)) ?_
  refine Rt.trans (Rt.fz (id:=4) (l:=(xq.map fun t=>iD t.w)) rfl) ?_
  refine xy [2,14,9,10,11,12,13,0,3,5] ?_
  refine ss ?_
  refine CC ?_;rw[ym,xM,zG];simp[nI,iN,List.map_map,Function.comp_def,aE,iD,oD,sD,nS,c7]
 rintro τ' H' mm ⟨k,j,ts,⟨hk,vt,CQ,lr,hj⟩,rfl,rfl,rfl⟩
 refine aH fun K5 fA=>?_
 refine aj (jG ·) ?_
 refine aX rfl (fun ht=>?_) (fun ht=>?_)
 ·have aA:k<ts.length:=by simp at ht;omega
  refine bB (fA _ _ ?_)
  refine aH fun K7 de=>?_
  refine aW ?_
  refine bC hp ax hc rfl fun K8 dC=>?_
  refine jG ?_
  refine Gr ([dR (oO ms),.free]) ([.cells [.d (aE b)],ew,.cells [.d (sD ⟨#[112]⟩),.d (sD ⟨#[97]⟩),.os 13 7 0 rs.length,.os 27 0 0 ms.length,.os 9 8 0 ts.length,.os 16 9 0 oP.length],.cells [.d (nI rw),.d (nI tw),.os 27 0 0 ms.length,.d (oD true)],.cells (au (bo b j)),.cells (au (rs.flatMap iw)),.cells (au (ts.flatMap jg)),.cells (au (oP.flatMap jh))]) (ydf (j:=j) uv rr.symm hb gh (by omega)) ?_
  rintro _ _ ⟨e,j',he,sg,xR,rfl,g,rfl⟩
  refine⟨rfl,?_⟩
  obtain⟨xo,xk,xw,xc,xn,hex⟩:=qi e;unfold kU;rw[hex];dsimp only[List.map_cons,List.map_nil,List.cons_append,List.nil_append,bo]
  refine jG ?_
  refine dC _ _ ?_
  refine aj (jG ·) ?_
  refine jX (jG ·) (de _ _ ?_)
  refine bA hp ax hc rfl fun lz cm=>?_
  refine jG ?_
  refine cm _ _ ⟨_,_,_,?_,⟨k+1,j',ts.set k (Hb (nth ts k) e),⟨by omega,by simp[vt],(AE (a:=Hb (nth ts k) e) aA rfl).trans CQ,lr.step aA he,by omega⟩,rfl,rfl,rfl⟩,?_⟩
  ·first|omega|(simp only[List.length_cons];omega)|(dsimp only;omega)
  ·refine Rt.trans (Rt.lL) ?_
   refine xy [0,11,2,3,4,5,6,7,8,9] ?_
   refine ss ?_
   refine CC ?_;have cu:=ykd (l:=ts) (i:=k*9+2) aA rfl rfl hex;rw[←cu];simp[aE,iD,oD,sD,nS,au,ir];rfl
 ·have cf:k=ts.length:=by simp at ht;omega
  have hdT:Fm (kq rw tw mw) ts ts.length:=cf▸lr
  refine cL (bS _ _ ?_)
  refine aH fun nk cU=>?_
  refine aj (Ls ·) ?_
  refine aW ?_
  refine c9 hp (fun τ' H' mm=>∃(k1 j1:Nat) (r1:List RG),(k1≤rs.length∧r1.length=rs.length∧r1.map (·.w)=rw∧Fo (kq rw tw mw) r1 k1∧j1≤209+100*k1∧r1.map (·.name)=rs.map (·.name))∧mm=rs.length - k1∧H'=[dR (oO ms),.free,.cells [.d (aE b)],ew,.cells [.d (sD ⟨#[112]⟩),.d (sD ⟨#[97]⟩),.os 13 7 0 r1.length,.os 27 0 0 ms.length,.os 9 8 0 ts.length,.os 16 9 0 oP.length],.cells [.d (nI rw),.d (nI tw),.os 27 0 0 ms.length,.d (oD true)],.cells (au (bo b j1)),.cells (au (r1.flatMap iw)),.cells (au (ts.flatMap jg)),.cells (au (oP.flatMap jh))]∧τ'=aG [(1,.op 2 0),(2,.op 3 0),(3,.op 4 0),(4,.op 5 0),(5,.op 6 0),(8,.d (iD k1))]) (rs.length) ?_ ⟨0,j,rs,⟨cy _,rfl,xM.symm,fun q hq=>by omega,by omega,rfl⟩,rfl,rfl,rfl⟩ ?_
  ·refine ss ?_
   exact A0
  rintro τ' H' mm ⟨k1,j1,r1,⟨zR,jR,Bl,CY,sg,HG⟩,rfl,rfl,rfl⟩
  refine aH fun rM dI=>?_
  refine aj (jG ·) ?_
  refine aX rfl (fun ht=>?_) (fun ht=>?_)
  ·have aA:k1<r1.length:=by simp at ht;omega
   have xI:=FA Bl aA
   have Qz:=uv.r _ (my (l:=rw) xI.1)
   rw[xI.2]at Qz
   refine bB (dI _ _ ?_)
   refine aH fun pM df=>?_
   refine aW ?_
   refine jN ax hp hc mixed rfl [(0,[]),(1,[]),(2,[]),(3,[]),(4,[]),(5,[]),(6,[]),(7,[]),(8,[]),(9,[]),(10,[]),(11,[]),(13,[]),(12,[]),(14,[])] [[],[],[],[2],[],[2,3,4],[2,3,4,5],[2,3,4,5,6],[],[8],[8,9],[2,3,4,5,6,7,8,9,10],[0,1,2,3,4,5,6,7,8,9,10,11],[],[0,1,2,3,4,5,6,7,8,9,10,11,12,13]] 1 (by kernel_rfl) fun tF eh=>?_
   by_cases hg:k1=0
   ·subst hg
    have se:(r1.flatMap iw)[1]? =some (iD (nth r1 0).w):=by simpa using W4 aA
    have q3:(3:Int) - min ((0:Nat):Int) 1=((3:Nat):Int):=by decide
    refine Ao (aL se q3) ?_
    refine Kf ([dR (oO ms),.free]) ([.cells [.d (aE b)],ew,.cells [.d (sD ⟨#[112]⟩),.d (sD ⟨#[97]⟩),.os 13 7 0 r1.length,.os 27 0 0 ms.length,.os 9 8 0 ts.length,.os 16 9 0 oP.length],.cells [.d (nI rw),.d (nI tw),.os 27 0 0 ms.length,.d (oD true)],.cells (au (bo b j1)),.cells (au (r1.flatMap iw)),.cells (au (ts.flatMap jg)),.cells (au (oP.flatMap jh)),er]) (Gt (d:=3) (j:=j1) (w:=(nth r1 0).w) ypn uv rr.symm hb gh Qz.1 (by omega) (by omega)) ?_
    rintro _ _ ⟨e,j',he,tA,Q7,rfl,g,rfl⟩
    refine⟨rfl,?_⟩
    obtain⟨yF,yH,yA,yT,yG,xp⟩:=qi e;unfold kU;rw[xp];dsimp only[List.map_cons,List.map_nil,List.cons_append,List.nil_append,bo]
    refine Ao (aL se q3) ?_
    refine eh _ _ ?_
    refine aj (jG ·) ?_
    refine jX (jG ·) (df _ _ ?_)
    refine bA hp ax hc rfl fun uK eG=>?_
    refine jG ?_
    refine eG _ _ ⟨_,_,_,?_,⟨0+1,j',r1.set 0 (A1 (nth r1 0) e),⟨by omega,by simp[jR],(AE (a:=A1 (nth r1 0) e) aA rfl).trans Bl,CY.step aA (by rw[if_pos rfl];exact hc3▸he),by omega,(AE (f:=fun r:RG=>r.name) (a:=A1 (nth r1 0) e) aA rfl).trans HG⟩,rfl,rfl,rfl⟩,?_⟩
    ·first|omega|(simp only[List.length_cons];omega)|(dsimp only;omega)
    ·refine Rt.trans (Rt.lL) ?_
     refine xy [0,11,2,3,4,5,6,7,8,9] ?_
     refine ss ?_
     refine CC ?_;have cu:=YQ (l:=r1) (i:=0*13+3) aA rfl rfl xp;rw[←cu];simp[aE,iD,oD,sD,nS,au,ir];rfl
   ·have se:=W4 aA
    have q3:(3:Int) - min (k1:Int) 1=((2:Nat):Int):=by omega
    refine Ao (aL se q3) ?_
    refine Kf ([dR (oO ms),.free]) ([.cells [.d (aE b)],ew,.cells [.d (sD ⟨#[112]⟩),.d (sD ⟨#[97]⟩),.os 13 7 0 r1.length,.os 27 0 0 ms.length,.os 9 8 0 ts.length,.os 16 9 0 oP.length],.cells [.d (nI rw),.d (nI tw),.os 27 0 0 ms.length,.d (oD true)],.cells (au (bo b j1)),.cells (au (r1.flatMap iw)),.cells (au (ts.flatMap jg)),.cells (au (oP.flatMap jh)),er]) (Gt (d:=2) (j:=j1) (w:=(nth r1 k1).w) Gy uv rr.symm hb gh Qz.1 (by omega) (by omega)) ?_
    rintro _ _ ⟨e,j',he,tA,Q7,rfl,g,rfl⟩
    refine⟨rfl,?_⟩
    obtain⟨yF,yH,yA,yT,yG,xp⟩:=qi e;unfold kU;rw[xp];dsimp only[List.map_cons,List.map_nil,List.cons_append,List.nil_append,bo]
    refine Ao (aL se q3) ?_
    refine eh _ _ ?_
    refine aj (jG ·) ?_
    refine jX (jG ·) (df _ _ ?_)
    refine bA hp ax hc rfl fun yd gw=>?_
    refine jG ?_
    refine gw _ _ ⟨_,_,_,?_,⟨k1+1,j',r1.set k1 (A1 (nth r1 k1) e),⟨by omega,by simp[jR],(AE (a:=A1 (nth r1 k1) e) aA rfl).trans Bl,CY.step aA (by rw[if_neg hg];exact BC▸he),by omega,(AE (f:=fun r:RG=>r.name) (a:=A1 (nth r1 k1) e) aA rfl).trans HG⟩,rfl,rfl,rfl⟩,?_⟩
    ·first|omega|(simp only[List.length_cons];omega)|(dsimp only;omega)
    ·refine Rt.trans (Rt.lL) ?_
     refine xy [0,11,2,3,4,5,6,7,8,9] ?_
     refine ss ?_
     refine CC ?_;have cu:=YQ (l:=r1) (i:=k1*13+3) aA rfl rfl xp;rw[←cu];simp[aE,iD,oD,sD,nS,au,ir];rfl
  ·have Q5:k1=r1.length:=by simp at ht;omega
   have hdR:Fo (kq rw tw mw) r1 r1.length:=Q5▸CY
   refine cL (cU _ _ ?_)
   refine aH fun BL iF=>?_
   refine aj (Ls ·) ?_
   refine aW ?_
   refine c9 hp (fun τ' H' mm=>∃(k2 j2:Nat) (q1:List QG),(k2≤oP.length∧q1.length=oP.length∧q1.map (·.w)=oP.map (·.w)∧Fp (kq rw tw mw) q1 k2∧j2≤509+100*k2)∧mm=oP.length - k2∧H'=[dR (oO ms),.free,.cells [.d (aE b)],ew,.cells [.d (sD ⟨#[112]⟩),.d (sD ⟨#[97]⟩),.os 13 7 0 r1.length,.os 27 0 0 ms.length,.os 9 8 0 ts.length,.os 16 9 0 q1.length],.cells [.d (nI rw),.d (nI tw),.os 27 0 0 ms.length,.d (oD true)],.cells (au (bo b j2)),.cells (au (r1.flatMap iw)),.cells (au (ts.flatMap jg)),.cells (au (q1.flatMap jh))]∧τ'=aG [(1,.op 2 0),(2,.op 3 0),(3,.op 4 0),(4,.op 5 0),(5,.op 6 0),(10,.d (iD k2))]) (oP.length) ?_ ⟨0,j1,oP,⟨cy _,rfl,rfl,fun q hq=>by omega,by omega⟩,rfl,rfl,rfl⟩ ?_
   ·refine ss ?_
    exact A0
   rintro τ' H' mm ⟨k2,j2,q1,⟨mZ,wI,E3,Ik,xR⟩,rfl,rfl,rfl⟩
   refine aH fun I0 iV=>?_
   refine aj (jG ·) ?_
   refine aX rfl (fun ht=>?_) (fun ht=>?_)
   ·have aA:k2<q1.length:=by simp at ht;omega
    have xI:=FA E3 aA
    have hwq:1≤(nth q1 k2).w∧(nth q1 k2).w≤2:=by
     obtain⟨q,hq,e⟩:=kV.1 (my (l:=oP.map (·.w)) xI.1)
     rw[←xI.2,←e];exact qp.qw q hq
    have se:=ypq aA
    refine bB (iV _ _ ?_)
    refine aH fun Aa iU=>?_
    refine aW ?_
    refine bC hp ax hc rfl fun BJ iT=>?_
    refine jG ?_
    refine Gr ([dR (oO ms),.free]) ([.cells [.d (aE b)],ew,.cells [.d (sD ⟨#[112]⟩),.d (sD ⟨#[97]⟩),.os 13 7 0 r1.length,.os 27 0 0 ms.length,.os 9 8 0 ts.length,.os 16 9 0 q1.length],.cells [.d (nI rw),.d (nI tw),.os 27 0 0 ms.length,.d (oD true)],.cells (au (bo b j2)),.cells (au (r1.flatMap iw)),.cells (au (ts.flatMap jg)),.cells (au (q1.flatMap jh))]) (jtk (j:=j2) uv rr.symm hb gh (by omega)) ?_
    rintro _ _ ⟨e,je,he,tA,Q7,rfl,g,rfl⟩
    refine⟨rfl,?_⟩
    obtain⟨yF,yH,yA,yT,yG,xp⟩:=qi e;unfold kU;rw[xp];dsimp only[List.map_cons,List.map_nil,List.cons_append,List.nil_append,bo]
    refine jG ?_
    refine iT _ _ ?_
    refine bI hp (τ':=aG [(1,.op 2 0),(2,.op 3 0),(3,.op 4 0),(4,.op 5 0),(5,.op 6 0),(10,.d (iD k2)),(11,.op 10 0)]) (H':=[dR (oO ms),.free,.cells [.d (aE b)],ew,.cells [.d (sD ⟨#[112]⟩),.d (sD ⟨#[97]⟩),.os 13 7 0 r1.length,.os 27 0 0 ms.length,.os 9 8 0 ts.length,.os 16 9 0 q1.length],.cells [.d (nI rw),.d (nI tw),.os 27 0 0 ms.length,.d (oD true)],.cells (au (bo b j2)),.cells (au (r1.flatMap iw)),.cells (au (ts.flatMap jg)),.cells (au (q1.flatMap jh)),.cells (au ([iD yF,nS,iD yH,nS,iD yA,nS,.fs yT yG]++bo b je))]) ?_ ?_
    ·refine Rt.trans (Rt.lL) ?_
     refine xy [0,11,2,3,4,5,6,7,8,9,10] ?_
     refine ss ?_
     exact A0
    refine jN ax hp hc mixed rfl [(0,[]),(1,[]),(2,[]),(3,[]),(4,[]),(5,[]),(6,[]),(7,[]),(8,[]),(9,[]),(11,[]),(10,[]),(12,[])] [[],[0],[],[],[3],[],[3,4,5],[3,4,5,6],[3,4,5,6,7],[3,4,5,6,7,8],[0,1,2,3,4,5,6,7,8,9],[],[0,1,2,3,4,5,6,7,8,9,10,11]] 1 (by kernel_rfl) fun IY nf=>?_
    refine Ao se ?_
    refine Kf ([dR (oO ms),.free]) ([.cells [.d (aE b)],ew,.cells [.d (sD ⟨#[112]⟩),.d (sD ⟨#[97]⟩),.os 13 7 0 r1.length,.os 27 0 0 ms.length,.os 9 8 0 ts.length,.os 16 9 0 q1.length],.cells [.d (nI rw),.d (nI tw),.os 27 0 0 ms.length,.d (oD true)],.cells (au (bo b j2)),.cells (au (r1.flatMap iw)),.cells (au (ts.flatMap jg)),.cells (au (q1.flatMap jh)),.cells (au ([iD yF,nS,iD yH,nS,iD yA,nS,.fs yT yG]++bo b je)),er]) (Gt (d:=2) (j:=je) (w:=(nth q1 k2).w) Gy uv rr.symm hb gh hwq.1 (by omega) (by omega)) ?_
    rintro _ _ ⟨d,jd,hd,hjc,hjd,rfl,g',rfl⟩
    refine⟨rfl,?_⟩
    obtain⟨ZR,Z5,ZM,c_d,ZY,GA⟩:=qi d;unfold kU;rw[GA];dsimp only[List.map_cons,List.map_nil,List.cons_append,List.nil_append,bo]
    refine Ao se ?_
    refine nf _ _ ?_
    refine aj (jG ·) ?_
    refine aj (jG ·) ?_
    refine jX (jG ·) (iU _ _ ?_)
    refine bA hp ax hc rfl fun Mh pD=>?_
    refine jG ?_
    refine pD _ _ ⟨_,_,_,?_,⟨k2+1,jd,q1.set k2 (G9 (Ha (nth q1 k2) e) d),⟨by omega,by simp[wI],(AE (a:=G9 (Ha (nth q1 k2) e) d) aA rfl).trans E3,Ik.step aA he hd,by omega⟩,rfl,rfl,rfl⟩,?_⟩
    ·first|omega|(simp only[List.length_cons];omega)|(dsimp only;omega)
    ·refine Rt.trans (Rt.lL) ?_
     refine xy [0,12,2,3,4,5,6,7,8,9] ?_
     refine ss ?_
     refine CC ?_;have uz:=yc9 (l:=q1) (i:=k2*16+2) aA rfl rfl xp;have uy:=yda (l:=q1.set k2 (Ha (nth q1 k2) e)) (k:=k2) (i:=k2*16+9) (by simpa using aA) rfl rfl GA;rw[AJ aA,List.set_set,←uz]at uy;rw[←uy];simp[aE,iD,oD,sD,nS,au,ir];rfl
   ·have H8:k2=q1.length:=by simp at ht;omega
    have hdQ:Fp (kq rw tw mw) q1 q1.length:=H8▸Ik
    refine cL (iF _ _ ?_)
    refine aH fun Dm jT=>?_
    refine aj (Ls ·) ?_
    refine aW ?_
    refine c9 hp (fun τ' H' mm=>∃(k3 j3:Nat) (m1:List MG),(k3≤ms.length∧m1.length=ms.length∧(m1.map fun m=>(m.words,m.w))=mw∧Fs (kq rw tw mw) m1 k3∧j3≤809+100*k3∧m1.map (·.name)=ms.map (·.name))∧mm=ms.length - k3∧H'=[dR (oO m1),.free,.cells [.d (aE b)],ew,.cells [.d (sD ⟨#[112]⟩),.d (sD ⟨#[97]⟩),.os 13 7 0 r1.length,.os 27 0 0 m1.length,.os 9 8 0 ts.length,.os 16 9 0 q1.length],.cells [.d (nI rw),.d (nI tw),.os 27 0 0 m1.length,.d (oD true)],.cells (au (bo b j3)),.cells (au (r1.flatMap iw)),.cells (au (ts.flatMap jg)),.cells (au (q1.flatMap jh))]∧τ'=aG [(1,.op 2 0),(2,.op 3 0),(3,.op 4 0),(4,.op 5 0),(5,.op 6 0),(13,.d (iD k3))]) (ms.length) ?_ ⟨0,j2,ms,⟨cy _,rfl,rr.symm,fun q hq=>by omega,by omega,rfl⟩,rfl,rfl,rfl⟩ ?_
    ·refine ss ?_
     exact A0
    rintro τ' H' mm ⟨k3,j3,m1,⟨Ia,mC,zP,Ij,Ic,hmn⟩,rfl,rfl,rfl⟩
    refine aH fun R2 tC=>?_
    refine aj (jG ·) ?_
    refine aX rfl (fun ht=>?_) (fun ht=>?_)
    ·have aA:k3<m1.length:=by simp at ht;omega
     have xI:k3<mw.length∧nth mw k3=((nth m1 k3).words,(nth m1 k3).w):=by
      rw[←zP];exact⟨by simpa using aA,vZ aA⟩
     have CN:=uv.m _ (my (l:=mw) xI.1)
     rw[xI.2]at CN
     have QA:1≤(nth m1 k3).w∧(nth m1 k3).w≤2:=CN.2
     have se:=ypo aA
     refine bB (tC _ _ ?_)
     refine aH fun K39 x2=>?_
     refine aW ?_
     refine bC hp ax hc rfl fun K40 Db=>?_
     refine jG ?_
     refine Gr ([dR (oO m1),.free]) ([.cells [.d (aE b)],ew,.cells [.d (sD ⟨#[112]⟩),.d (sD ⟨#[97]⟩),.os 13 7 0 r1.length,.os 27 0 0 m1.length,.os 9 8 0 ts.length,.os 16 9 0 q1.length],.cells [.d (nI rw),.d (nI tw),.os 27 0 0 m1.length,.d (oD true)],.cells (au (bo b j3)),.cells (au (r1.flatMap iw)),.cells (au (ts.flatMap jg)),.cells (au (q1.flatMap jh))]) (jtk (j:=j3) uv zP hb gh (by omega)) ?_
     rintro _ _ ⟨e,je,he,tA,Q7,rfl,g,rfl⟩
     refine⟨rfl,?_⟩
     obtain⟨yF,yH,yA,yT,yG,xp⟩:=qi e;unfold kU;rw[xp];dsimp only[List.map_cons,List.map_nil,List.cons_append,List.nil_append,bo]
     refine jG ?_
     refine Db _ _ ?_
     refine bI hp (τ':=aG [(1,.op 2 0),(2,.op 3 0),(3,.op 4 0),(4,.op 5 0),(5,.op 6 0),(13,.d (iD k3)),(14,.op 10 0)]) (H':=[dR (oO m1),.free,.cells [.d (aE b)],ew,.cells [.d (sD ⟨#[112]⟩),.d (sD ⟨#[97]⟩),.os 13 7 0 r1.length,.os 27 0 0 m1.length,.os 9 8 0 ts.length,.os 16 9 0 q1.length],.cells [.d (nI rw),.d (nI tw),.os 27 0 0 m1.length,.d (oD true)],.cells (au (bo b j3)),.cells (au (r1.flatMap iw)),.cells (au (ts.flatMap jg)),.cells (au (q1.flatMap jh)),.cells (au ([iD yF,nS,iD yH,nS,iD yA,nS,.fs yT yG]++bo b je))]) ?_ ?_
     ·refine Rt.trans (Rt.lL) ?_
      refine xy [0,11,2,3,4,5,6,7,8,9,10] ?_
      refine ss ?_
      exact A0
     refine bC hp ax hc rfl fun K41 xZ=>?_
     refine jG ?_
     refine Gr ([dR (oO m1),.free]) ([.cells [.d (aE b)],ew,.cells [.d (sD ⟨#[112]⟩),.d (sD ⟨#[97]⟩),.os 13 7 0 r1.length,.os 27 0 0 m1.length,.os 9 8 0 ts.length,.os 16 9 0 q1.length],.cells [.d (nI rw),.d (nI tw),.os 27 0 0 m1.length,.d (oD true)],.cells (au (bo b j3)),.cells (au (r1.flatMap iw)),.cells (au (ts.flatMap jg)),.cells (au (q1.flatMap jh)),.cells (au ([iD yF,nS,iD yH,nS,iD yA,nS,.fs yT yG]++bo b je))]) (Gt (d:=1) (j:=je) (w:=1+b.length % 2) Xa uv zP hb gh (by omega) (by omega) (by omega)) ?_
     rintro _ _ ⟨a,ja,ha,hjc,hjd,rfl,g',rfl⟩
     refine⟨rfl,?_⟩
     obtain⟨On,Ou,Ob,RW,Oo,ZL⟩:=qi a;unfold kU;rw[ZL];dsimp only[List.map_cons,List.map_nil,List.cons_append,List.nil_append,bo]
     refine jG ?_
     refine xZ _ _ ?_
     refine bI hp (τ':=aG [(1,.op 2 0),(2,.op 3 0),(3,.op 4 0),(4,.op 5 0),(5,.op 6 0),(13,.d (iD k3)),(14,.op 10 0),(15,.op 11 0)]) (H':=[dR (oO m1),.free,.cells [.d (aE b)],ew,.cells [.d (sD ⟨#[112]⟩),.d (sD ⟨#[97]⟩),.os 13 7 0 r1.length,.os 27 0 0 m1.length,.os 9 8 0 ts.length,.os 16 9 0 q1.length],.cells [.d (nI rw),.d (nI tw),.os 27 0 0 m1.length,.d (oD true)],.cells (au (bo b j3)),.cells (au (r1.flatMap iw)),.cells (au (ts.flatMap jg)),.cells (au (q1.flatMap jh)),.cells (au ([iD yF,nS,iD yH,nS,iD yA,nS,.fs yT yG]++bo b je)),.cells (au ([iD On,nS,iD Ou,nS,iD Ob,nS,.fs RW Oo]++bo b ja))]) ?_ ?_
     ·refine Rt.trans (Rt.lL) ?_
      refine xy [0,12,2,3,4,5,6,7,8,9,10,11] ?_
      refine ss ?_
      exact A0
     rw[ym]
     have hty:=Gt (d:=2) (j:=ja) (w:=(nth m1 k3).w) Gy uv zP hb gh QA.1 (by omega) (by omega)
     rw[ym]at hty
     refine jN ax hp hc mixed rfl [(0,[]),(1,[]),(2,[]),(3,[]),(4,[]),(5,[]),(6,[]),(7,[]),(8,[]),(9,[]),(11,[]),(10,[]),(12,[])] [[],[0],[],[],[3],[],[3,4,5],[3,4,5,6],[3,4,5,6,7],[3,4,5,6,7,8],[0,1,2,3,4,5,6,7,8,9],[],[0,1,2,3,4,5,6,7,8,9,10,11]] 1 (by kernel_rfl) fun R1 tB=>?_
     refine Ao se ?_
     refine Kf ([.cells (au (m1.flatMap jP)),.free]) ([.cells [.d (aE b)],ew,.cells [.d (sD ⟨#[112]⟩),.d (sD ⟨#[97]⟩),.os 13 7 0 r1.length,.os 27 0 0 m1.length,.os 9 8 0 ts.length,.os 16 9 0 q1.length],.cells [.d (nI rw),.d (nI tw),.os 27 0 0 m1.length,.d (oD true)],.cells (au (bo b j3)),.cells (au (r1.flatMap iw)),.cells (au (ts.flatMap jg)),.cells (au (q1.flatMap jh)),.cells (au ([iD yF,nS,iD yH,nS,iD yA,nS,.fs yT yG]++bo b je)),.cells (au ([iD On,nS,iD Ou,nS,iD Ob,nS,.fs RW Oo]++bo b ja)),er]) (hty) ?_
     rintro _ _ ⟨d,jd,hd,hje,hjf,rfl,g'',rfl⟩
     refine⟨rfl,?_⟩
     obtain⟨ZR,Z5,ZM,c_d,ZY,GA⟩:=qi d;unfold kU;rw[GA];dsimp only[List.map_cons,List.map_nil,List.cons_append,List.nil_append,bo]
     refine Ao se ?_
     refine tB _ _ ?_
     refine bI hp (τ':=aG [(1,.op 2 0),(2,.op 3 0),(3,.op 4 0),(4,.op 5 0),(5,.op 6 0),(13,.d (iD k3)),(14,.op 10 0),(15,.op 11 0),(16,.op 12 0)]) (H':=[dR (oO m1),.cells g'',.cells [.d (aE b)],ew,.cells [.d (sD ⟨#[112]⟩),.d (sD ⟨#[97]⟩),.os 13 7 0 r1.length,.os 27 0 0 m1.length,.os 9 8 0 ts.length,.os 16 9 0 q1.length],.cells [.d (nI rw),.d (nI tw),.os 27 0 0 m1.length,.d (oD true)],.cells (au (bo b j3)),.cells (au (r1.flatMap iw)),.cells (au (ts.flatMap jg)),.cells (au (q1.flatMap jh)),.cells (au ([iD yF,nS,iD yH,nS,iD yA,nS,.fs yT yG]++bo b je)),.cells (au ([iD On,nS,iD Ou,nS,iD Ob,nS,.fs RW Oo]++bo b ja)),.cells (au ([iD ZR,nS,iD Z5,nS,iD ZM,nS,.fs c_d ZY]++bo b jd))]) ?_ ?_
     ·refine ss ?_
      exact A0
     rw[ym]
     refine aj (jG ·) ?_
     refine aj (jG ·) ?_
     refine aj (jG ·) ?_
     refine jX (jG ·) (x2 _ _ ?_)
     refine bA hp ax hc rfl fun K47 vF=>?_
     refine jG ?_
     refine vF _ _ ⟨_,_,_,?_,⟨k3+1,jd,m1.set k3 (EI (BQ (BR (nth m1 k3) e) a) d),⟨by omega,by simp[mC],(AE (f:=fun m:MG=>(m.words,m.w)) (a:=EI (BQ (BR (nth m1 k3) e) a) d) aA rfl).trans zP,Ij.step aA he ha.t (by have:=ha.n;simp only[rC]at this;omega) hd,by omega,(AE (f:=fun m:MG=>m.name) (a:=EI (BQ (BR (nth m1 k3) e) a) d) aA rfl).trans hmn⟩,rfl,rfl,rfl⟩,?_⟩
     ·first|omega|(simp only[List.length_cons];omega)|(dsimp only;omega)
     ·refine Rt.trans (Rt.lL) ?_
      refine xy [0,13,2,3,4,5,6,7,8,9] ?_
      refine ss ?_
      refine CC ?_;have uz:=ydb (l:=m1) (i:=k3*27+3) aA rfl rfl xp;have uy:=ydc (l:=m1.set k3 (BR (nth m1 k3) e)) (k:=k3) (i:=k3*27+10) (by simpa using aA) rfl rfl ZL;rw[AJ aA,List.set_set,←uz]at uy;have hs3:=ydd (l:=m1.set k3 (BQ (BR (nth m1 k3) e) a)) (k:=k3) (i:=k3*27+17) (by simpa using aA) rfl rfl GA;rw[AJ aA,List.set_set,←uy]at hs3;rw[ym,←hs3];simp[aE,iD,oD,sD,nS,au,ir]
    ·have H7:k3=m1.length:=by simp at ht;omega
     have hdM:Fs (kq rw tw mw) m1 m1.length:=H7▸Ij
     refine cL (jT _ _ ?_)
     refine bI hp (τ':=aG [(2,.op 5 0),(3,.op 0 0)]) (H':=[.cells [.d (sD ⟨#[112]⟩),.d (sD ⟨#[97]⟩),.d (.fs (r1.flatMap iw) r1.length),.d (.fs (m1.flatMap jP) m1.length),.d (.fs (ts.flatMap jg) ts.length),.d (.fs (q1.flatMap jh) q1.length)],.dead,.dead,.dead,.dead,ew]) ?_ ?_
     ·refine xy [4,0,7,8,9,3] ?_
      refine Rt.trans (Rt.heap (H':=[.cells [.d (sD ⟨#[112]⟩),.d (sD ⟨#[97]⟩),.os 13 2 0 r1.length,.os 27 1 0 m1.length,.os 9 3 0 ts.length,.os 16 4 0 q1.length],.cells (au (m1.flatMap jP)),.cells (au (r1.flatMap iw)),.cells (au (ts.flatMap jg)),.cells (au (q1.flatMap jh)),ew]) (by simp only[cD,Nat.reduceAdd,↓reduceIte,Nat.reduceEqDiff,vM,fF,bo,ew,iL,iK,er,gJ,gI,ym,iN,mr,mu,mq,lR];first|done|rfl)) ?_
      refine Rt.trans (Rt.fz (id:=1) (l:=(m1.flatMap jP)) rfl) ?_
      refine Rt.trans (Rt.heap (H':=[.cells [.d (sD ⟨#[112]⟩),.d (sD ⟨#[97]⟩),.os 13 2 0 r1.length,.d (.fs (m1.flatMap jP) m1.length),.os 9 3 0 ts.length,.os 16 4 0 q1.length],.dead,.cells (au (r1.flatMap iw)),.cells (au (ts.flatMap jg)),.cells (au (q1.flatMap jh)),ew]) (by simp only[cD,Nat.reduceAdd,↓reduceIte,Nat.reduceEqDiff,vM,fF,bo,ew,iL,iK,er,gJ,gI,ym,iN,mr,mu,mq,lR];first|done|rfl)) ?_
      refine Rt.trans (Rt.fz (id:=2) (l:=(r1.flatMap iw)) rfl) ?_
      refine Rt.trans (Rt.heap (H':=[.cells [.d (sD ⟨#[112]⟩),.d (sD ⟨#[97]⟩),.d (.fs (r1.flatMap iw) r1.length),.d (.fs (m1.flatMap jP) m1.length),.os 9 3 0 ts.length,.os 16 4 0 q1.length],.dead,.dead,.cells (au (ts.flatMap jg)),.cells (au (q1.flatMap jh)),ew]) (by simp only[cD,Nat.reduceAdd,↓reduceIte,Nat.reduceEqDiff,vM,fF,bo,ew,iL,iK,er,gJ,gI,ym,iN,mr,mu,mq,lR];first|done|rfl)) ?_
      refine Rt.trans (Rt.fz (id:=3) (l:=(ts.flatMap jg)) rfl) ?_
      refine Rt.trans (Rt.heap (H':=[.cells [.d (sD ⟨#[112]⟩),.d (sD ⟨#[97]⟩),.d (.fs (r1.flatMap iw) r1.length),.d (.fs (m1.flatMap jP) m1.length),.d (.fs (ts.flatMap jg) ts.length),.os 16 4 0 q1.length],.dead,.dead,.dead,.cells (au (q1.flatMap jh)),ew]) (by simp only[cD,Nat.reduceAdd,↓reduceIte,Nat.reduceEqDiff,vM,fF,bo,ew,iL,iK,er,gJ,gI,ym,iN,mr,mu,mq,lR];first|done|rfl)) ?_
      refine Rt.trans (Rt.fz (id:=4) (l:=(q1.flatMap jh)) rfl) ?_
      refine ss ?_
      refine CC ?_;simp only[iN lR]
     refine aj (jG ·) ?_
     refine bh ?_
     try dsimp only[fb,fc]
     refine iH rfl ?_
     simp -dsimp -implicitDefEqProofs (disch:=first|assumption|omega|(simp only[aK,mu,mr,mq,lR]<;>omega)|decide) only[aP,↓reduceIte,Nat.reduceEqDiff,Nat.reduceAdd,D.fix,Int.reduceToNat,Nat.reduceMul,Nat.reduceBNe,Nat.reduceBEq,vM,fF,bo,ew,iL,iK,er,gJ,gI,zg,F1]
     show ∃r,aC _ _=some r∧_
     simp (disch:=first|assumption|omega|(simp only[aK,mu,mr,mq,lR]<;>omega)|decide) only[gF,Nat.reduceAdd,D.fix,↓reduceIte,Nat.reduceEqDiff,vM,fF,bo,ew,iL,iK,er,gJ,gI]
     refine⟨_,rfl,rw,tw,mw,r1,m1,ts,q1,⟨uv,Bl,CQ,zP,by omega,fun q hq=>?_,hdR,hdT,hdQ,hdM,fun x hx=>by rw[HG]at hx;obtain⟨r,hr,rfl⟩:=kV.1 hx;exact qp.nr r hr,fun x hx=>by rw[hmn]at hx;obtain⟨m,hm,rfl⟩:=kV.1 hx;exact qp.nm m hm⟩,rfl⟩;have xI:=FA E3 hq;obtain⟨x,hx,e⟩:=kV.1 (my (l:=oP.map (·.w)) xI.1);rw[←xI.2,←e];exact qp.qw x hx
end
end Go.Proofs.YtapjobndmmkanaaGreat
