/- Processes that bytes describe: rows that are filled. -/
import Derived.Test.YtapjobndmmkanaaGreatVf
import Derived.Test.YtapjobndmmkanaaGreatQr
set_option linter.unusedVariables false
set_option linter.unusedSimpArgs false
namespace Go.Proofs.YtapjobndmmkanaaGreat
open Go.Proofs.Tryz
open Go Go.RowKit
section
theorem zjv:∀(xs A B:List AV) (i:Nat),zbq (A++B) (A.length+i) xs=A++zbq B i xs
 |[],A,B,i=>rfl
 |x::xs,A,B,i=>by
  rw[zbq,zbq,List.set_append_right _ _ (by omega),show A.length+i - A.length=i by omega,Nat.add_assoc,zjv xs]
theorem zil:∀(xs A B:List AV) (i:Nat),i+xs.length≤A.length→zbq (A++B) i xs=zbq A i xs++B
 |[],A,B,i,_=>rfl
 |x::xs,A,B,i,h=>by
  rw[List.length_cons]at h
  rw[zbq,zbq,List.set_append_left _ _ (by omega),zil xs _ _ _ (by simp;omega)]
theorem jnt{α:Type}[Inhabited α]{l:List α}{k:Nat}(h:k<l.length):l=l.take k++(nth l k::l.drop (k+1)):=by
 rw[zdt h,List.getElem_cons_drop,List.take_append_drop]
theorem ycr{α:Type}{l:List α}{k:Nat}{a:α}(h:k<l.length):l.set k a=l.take k++(a::l.drop (k+1)):=by
 rw[List.set_eq_take_append_cons_drop,if_pos h]
theorem zdw{α:Type}[Inhabited α]{f:α→List D}{w:Nat}(hw:∀a,(f a).length=w){l:List α}{k off i:Nat}{a:α}{xs:List AV}(hk:k<l.length)(hi:i=k*w+off)(ho:off+xs.length≤w)(ha:zbq (avs (f (nth l k))) off xs=avs (f a)):
  zbq (avs (l.flatMap f)) i xs=avs ((l.set k a).flatMap f):=by
 have e1:avs (l.flatMap f)=avs ((l.take k).flatMap f)++(avs (f (nth l k))++avs ((l.drop (k+1)).flatMap f)):=by
  conv=>lhs;rw[jnt hk]
  simp[avs]
 have hl:(avs ((l.take k).flatMap f)).length=k*w:=by
  rw[zc7,zc1 hw,List.length_take,Nat.min_eq_left (by omega)]
 rw[e1,hi,←hl,zjv,zil _ _ _ _ (by rw[zc7,hw];exact ho),ha,ycr hk]
 simp[avs]
theorem ju3{A B:List D}{e:Ex}{cs:List D}(hc:cs.length=7)(he:exC e=cs){z:List D}(hz:z.length=7):zbq (avs (A++(z++B))) A.length (avs cs)=avs (A++(exC e++B)):=by
 have e1:avs (A++(z++B))=avs A++(avs z++avs B):=by simp[avs]
 have key:∀(z c:List AV),z.length=7→c.length=7→zbq z 0 c=c:=by
  intro z c h1 h2
  match z,h1,c,h2 with
  |[_,_,_,_,_,_,_],_,[_,_,_,_,_,_,_],_=>rfl
 rw[e1]
 have:=zjv (avs cs) (avs A) (avs z++avs B) 0
 rw[zc7,Nat.add_zero]at this
 rw[this,zil _ _ _ _ (by rw[zc7,zc7];omega),key _ _ (by rw[zc7];exact hz) (by rw[zc7];exact hc),he]
 simp[avs]
def jkb(t:TG)(e:Ex):TG:={t with wh:=some e}
def jsl(r:RG)(e:Ex):RG:={r with nx:=some e}
def jkc(q:QG)(e:Ex):QG:={q with wh:=some e}
def jkd(q:QG)(e:Ex):QG:={q with da:=some e}
def zze(m:MG)(e:Ex):MG:={m with en:=some e}
def zzf(m:MG)(e:Ex):MG:={m with ad:=some e}
def jfq(m:MG)(e:Ex):MG:={m with da:=some e}
section
variable {e:Ex} {cs:List D} {k i:Nat}
theorem yin{l:List TG}(hk:k<l.length)(hi:i=k*9+2)(hc:cs.length=7)(he:exC e=cs):zbq (avs (l.flatMap tgC)) i (avs cs)=avs ((l.set k (jkb (nth l k) e)).flatMap tgC):=
 zdw yil hk hi (by rw[zc7];omega) (by have:=ju3 (A:=[iD (nth l k).chan,iD (nth l k).w]) (B:=[]) hc he (zju (nth l k).wh);simpa[tgC,jkb,exO]using this)
theorem ycs{l:List RG}(hk:k<l.length)(hi:i=k*13+3)(hc:cs.length=7)(he:exC e=cs):zbq (avs (l.flatMap rgC)) i (avs cs)=avs ((l.set k (jsl (nth l k) e)).flatMap rgC):=
 zdw yik hk hi (by rw[zc7];omega) (ju3 (A:=[sD (nth l k).name,iD (nth l k).w,iD (nth l k).init]) (B:=[iD (nth l k).rk,sD (nth l k).rf,iD (nth l k).rn]) hc he (zju (nth l k).nx))
theorem yct{l:List QG}(hk:k<l.length)(hi:i=k*16+2)(hc:cs.length=7)(he:exC e=cs):zbq (avs (l.flatMap qgC)) i (avs cs)=avs ((l.set k (jkc (nth l k) e)).flatMap qgC):=
 zdw ygy hk hi (by rw[zc7];omega) (ju3 (A:=[iD (nth l k).chan,iD (nth l k).w]) (B:=exO (nth l k).da) hc he (zju (nth l k).wh))
theorem ycu{l:List QG}(hk:k<l.length)(hi:i=k*16+9)(hc:cs.length=7)(he:exC e=cs):zbq (avs (l.flatMap qgC)) i (avs cs)=avs ((l.set k (jkd (nth l k) e)).flatMap qgC):=
 zdw ygy hk hi (by rw[zc7];omega) (by
  have:=ju3 (A:=[iD (nth l k).chan,iD (nth l k).w]++exO (nth l k).wh) (B:=[]) hc he (zju (nth l k).da)
  rw[List.length_append,zju]at this
  simpa[qgC,jkd,exO]using this)
theorem ycv{l:List MG}(hk:k<l.length)(hi:i=k*27+3)(hc:cs.length=7)(he:exC e=cs):zbq (avs (l.flatMap mgC)) i (avs cs)=avs ((l.set k (zze (nth l k) e)).flatMap mgC):=
 zdw yco hk hi (by rw[zc7];omega) (ju3 (A:=[sD (nth l k).name,iD (nth l k).w,iD (nth l k).words]) hc he (zju (nth l k).en))
theorem ycw{l:List MG}(hk:k<l.length)(hi:i=k*27+10)(hc:cs.length=7)(he:exC e=cs):zbq (avs (l.flatMap mgC)) i (avs cs)=avs ((l.set k (zzf (nth l k) e)).flatMap mgC):=
 zdw yco hk hi (by rw[zc7];omega) (by
  have:=ju3 (A:=[sD (nth l k).name,iD (nth l k).w,iD (nth l k).words]++exO (nth l k).en) (B:=exO (nth l k).da++[iD (nth l k).rk,sD (nth l k).rf,iD (nth l k).rn]) hc he (zju (nth l k).ad)
  rw[List.length_append,zju]at this
  simpa[mgC,zzf,exO]using this)
theorem ycx{l:List MG}(hk:k<l.length)(hi:i=k*27+17)(hc:cs.length=7)(he:exC e=cs):zbq (avs (l.flatMap mgC)) i (avs cs)=avs ((l.set k (jfq (nth l k) e)).flatMap mgC):=
 zdw yco hk hi (by rw[zc7];omega) (by
  have:=ju3 (A:=[sD (nth l k).name,iD (nth l k).w,iD (nth l k).words]++(exO (nth l k).en++exO (nth l k).ad)) (B:=[iD (nth l k).rk,sD (nth l k).rf,iD (nth l k).rn]) hc he (zju (nth l k).da)
  rw[List.length_append,List.length_append,zju,zju]at this
  simpa[mgC,jfq,exO]using this)
end
end
theorem Rt.fr9{m:List Nat}{τ:Fr}{H:zad}:Rt m τ H τ (H++[.free,.free,.free,.free,.free,.free,.free,.free,.free]):=fun c a w _ h=>R.reserve 9 H h
theorem ScS.arg1{P:Program}{ks:List Nat}{f:FuncId}{x y y':AV}{xs:List AV}{S:zad}{K:AV→zad→Prop}(h:ScS P ks f (x::y::xs) S K)(hi:Imp y' y):ScS P ks f (x::y'::xs) S K:=
 ⟨h.1,fun E w pl vals hl hx hh hE=>h.2 E w pl vals (by simpa using hl) (fun j z hj=>by
  match j,hj with
  |0,hj=>exact hx 0 z hj
  |1,hj=>cases hj;exact hi _ _ _ _ (hx 1 _ rfl)
  |j+2,hj=>exact hx (j+2) z hj) hh hE⟩
theorem Imp.part1{a b b':AV}{l:List AV}(h:Imp b' b):Imp (.agg (a::b'::l)) (.agg (a::b::l)):=fun w pl own v hv=>by
 cases hv with
 |agg _ vs hl hx=>
  refine .agg _ vs (by simpa using hl) fun j x hj=>?_
  match j,hj with
  |0,hj=>exact hx 0 x hj
  |1,hj=>cases hj;exact h _ _ _ _ (hx 1 _ rfl)
  |j+2,hj=>exact hx (j+2) x hj
def jxn(m:MG):SM:=⟨sD m.name,m.w,iD m.words::(exO m.en++(exO m.ad++(exO m.da++[iD m.rk,sD m.rf,iD m.rn])))⟩
theorem yio(m:MG):smC (jxn m)=mgC m:=by
 unfold smC jxn mgC
 simp only
 rw[List.take_append_of_le_length (by simp[zju]),qaw (by simp[zju])];rfl
def scM(ms:List MG):Sc:=⟨[],[],ms.map jxn,true⟩
theorem zlr(ms:List MG):zdv (scM ms)= .cells (avs (ms.flatMap mgC)):=by
 unfold zdv scM
 simp only
 rw[List.flatMap_map]
 rw[show(fun a=>smC (jxn a))=mgC from funext yio]
def ctG(rw tw:List Nat)(mw:List (Nat × Nat)):Ct:=⟨rw,tw,mw⟩
def scG(rw tw:List Nat)(ms:List MG)(q:Bool):Sc:=⟨rw,if q then tw else[],ms.map jxn,q⟩
structure WdOk (rw tw:List Nat) (mw:List (Nat × Nat)):Prop where
 r1:1≤rw.length
 r3:rw.length≤3
 r:∀w∈rw,1≤w∧w≤3
 t2:tw.length≤2
 t:∀w∈tw,1≤w∧w≤2
 m1:mw.length≤1
 m:∀x∈mw,(x.1=1∨x.1=2∨x.1=4)∧1≤x.2∧x.2≤2
theorem WdOk.ct{rw tw:List Nat}{mw:List (Nat × Nat)}(h:WdOk rw tw mw):CtOk (ctG rw tw mw):=
 ⟨fun i hi=>by have:=h.r _ (zcb (l:=rw) hi);show 1≤nth rw i∧nth rw i≤8;omega,fun i hi=>by have:=h.t _ (zcb (l:=tw) hi);show 1≤nth tw i∧nth tw i≤8;omega,
  fun i hi=>by have:=h.m _ (zcb (l:=mw) hi);show 1≤(nth mw i).1∧(nth mw i).1≤8∧1≤(nth mw i).2∧(nth mw i).2≤8;omega,by have:=h.m1;show mw.length≤8;omega⟩
theorem WdOk.sc{rw tw:List Nat}{mw:List (Nat × Nat)}(h:WdOk rw tw mw){ms:List MG}(hm:(ms.map fun m=>(m.words,m.w))=mw)(q:Bool):ScOk (ctG rw tw mw) (scG rw tw ms q):=by
 have hml:ms.length=mw.length:=by rw[←hm];simp
 refine⟨rfl,fun e=>?_,?_,by have:=h.r3;show rw.length≤100;omega,?_,by have:=h.m1;simp[scG];omega⟩
 ·have e:q=true:=e
  subst e;rfl
 ·show mw.map (·.2)=(ms.map jxn).map (·.w)
  rw[←hm,List.map_map,List.map_map];rfl
 ·have:=h.t2
  show(if q=true then tw else[]).length≤100
  split
  ·omega
  ·simp
theorem zhp{α β:Type}[Inhabited α]{f:α→β}{l:List α}{k:Nat}{a:α}(hk:k<l.length)(h:f a=f (nth l k)):(l.set k a).map f=l.map f:=by
 rw[List.map_set,h,zdt hk]
 have:f l[k]=(l.map f)[k]'(by simpa using hk):=by simp
 rw[this,List.set_getElem_self]
def DoT(C:Ct)(ts:List TG)(k:Nat):Prop:=∀q,q<k→∃e,(nth ts q).wh=some e∧Fit C false 1 32 e
def DoR(C:Ct)(rs:List RG)(k:Nat):Prop:=∀q,q<k→∃e,(nth rs q).nx=some e∧Fit C true (nth rs q).w (if q=0 then 128 else 32) e
def DoQ(C:Ct)(qs:List QG)(k:Nat):Prop:=∀q,q<k→∃e d,(nth qs q).wh=some e∧(nth qs q).da=some d∧Fit C true 1 32 e∧Fit C true (nth qs q).w 32 d
def DoM(C:Ct)(ms:List MG)(k:Nat):Prop:=∀q,q<k→∃e a d,(nth ms q).en=some e∧(nth ms q).ad=some a∧(nth ms q).da=some d∧Fit C true 1 32 e∧WT C true a∧za8 C a=0∧Fit C true (nth ms q).w 32 d
theorem DoT.step{C:Ct}{ts:List TG}{k:Nat}(h:DoT C ts k)(hk:k<ts.length){e:Ex}(he:Fit C false 1 32 e):DoT C (ts.set k (jkb (nth ts k) e)) (k+1):=fun q hq=>by
 by_cases e1:k=q
 ·subst e1;rw[zep hk];exact⟨e,rfl,he⟩
 ·rw[zhx e1];exact h q (by omega)
theorem DoR.step{C:Ct}{rs:List RG}{k:Nat}(h:DoR C rs k)(hk:k<rs.length){e:Ex}(he:Fit C true (nth rs k).w (if k=0 then 128 else 32) e):DoR C (rs.set k (jsl (nth rs k) e)) (k+1):=fun q hq=>by
 by_cases e1:k=q
 ·subst e1;rw[zep hk];exact⟨e,rfl,he⟩
 ·rw[zhx e1];exact h q (by omega)
theorem DoQ.step{C:Ct}{qs:List QG}{k:Nat}(h:DoQ C qs k)(hk:k<qs.length){e d:Ex}(he:Fit C true 1 32 e)(hd:Fit C true (nth qs k).w 32 d):DoQ C (qs.set k (jkd (jkc (nth qs k) e) d)) (k+1):=fun q hq=>by
 by_cases e1:k=q
 ·subst e1;rw[zep hk];exact⟨e,d,rfl,rfl,he,hd⟩
 ·rw[zhx e1];exact h q (by omega)
theorem DoM.step{C:Ct}{ms:List MG}{k:Nat}(h:DoM C ms k)(hk:k<ms.length){e a d:Ex}(he:Fit C true 1 32 e)(ha:WT C true a)(hc:za8 C a=0)(hd:Fit C true (nth ms k).w 32 d):DoM C (ms.set k (jfq (zzf (zze (nth ms k) e) a) d)) (k+1):=fun q hq=>by
 by_cases e1:k=q
 ·subst e1;rw[zep hk];exact⟨e,a,d,rfl,rfl,rfl,he,ha,hc,hd⟩
 ·rw[zhx e1];exact h q (by omega)
set_option maxRecDepth 100000
set_option maxHeartbeats 4000000
section
theorem ju4(rw tw:List Nat)(ms:List MG)(q:Bool):scV (scG rw tw ms q)=[.d (nI rw),.d (nI (if q then tw else[])),.os 27 0 0 ms.length,.d (oD q)]:=by simp[scV,scG]
section
variable {rw tw:List Nat} {mw:List (Nat × Nat)} {ms:List MG} {b:List Int} {j:Nat}
theorem ycz(h:WdOk rw tw mw)(hm:(ms.map fun m=>(m.words,m.w))=mw)(hb:zg1 b)(hl:b.length≤maxLen)(hj:j≤7000000):
  ScS prog [0] 55 [zf6 b j,.agg [.d (nI rw),.d (.val (.slice none 0 0)),.os 27 0 0 ms.length,.d (oD false)]] [zdv (scM ms),.free] (TyQ (ctG rw tw mw) (scG rw tw ms false) b j 1 32 10):=by
 have:=jsj (ctG rw tw mw) (scG rw tw ms false) b j h.ct (h.sc hm false) hb hl hj
 rw[ju4]at this
 exact this.arg1 (Imp.part1 Imp.fixnil)
theorem jsm(h:WdOk rw tw mw)(hm:(ms.map fun m=>(m.words,m.w))=mw)(hb:zg1 b)(hl:b.length≤maxLen)(hj:j≤7000000):
  ScS prog [0] 55 [zf6 b j,.agg [.d (nI rw),.d (nI tw),.os 27 0 0 ms.length,.d (oD true)]] [zdv (scM ms),.free] (TyQ (ctG rw tw mw) (scG rw tw ms true) b j 1 32 10):=by
 have:=jsj (ctG rw tw mw) (scG rw tw ms true) b j h.ct (h.sc hm true) hb hl hj
 rw[ju4]at this
 exact this
theorem yc0{d w:Nat}(hT:TyK d)(h:WdOk rw tw mw)(hm:(ms.map fun m=>(m.words,m.w))=mw)(hb:zg1 b)(hl:b.length≤maxLen)(h1:1≤w)(h2:w+d≤8)(hj:j≤jfi d):
  ScS prog [0] 56 [zf6 b j,.agg [.d (nI rw),.d (nI tw),.os 27 0 0 ms.length,.d (oD true)],.agg [.d (iD w),.d (iD d)]] [zdv (scM ms),.free] (TyQ (ctG rw tw mw) (scG rw tw ms true) b j w (zx8 d) (byD d)):=by
 have:=hT (ctG rw tw mw) (scG rw tw ms true) b j w h.ct (h.sc hm true) hb hl h1 h2 hj
 rw[ju4]at this
 exact this
end
structure MdR (rw tw:List Nat) (mw:List (Nat × Nat)) (rs:List RG) (ms:List MG) (ts:List TG) (qs:List QG):Prop where
 wd:WdOk rw tw mw
 rl:rs.map (·.w)=rw
 tl:ts.map (·.w)=tw
 ml:(ms.map fun m=>(m.words,m.w))=mw
 q2:qs.length≤2
 qw:∀q,q<qs.length→1≤(nth qs q).w∧(nth qs q).w≤2
 r:DoR (ctG rw tw mw) rs rs.length
 t:DoT (ctG rw tw mw) ts ts.length
 q:DoQ (ctG rw tw mw) qs qs.length
 m:DoM (ctG rw tw mw) ms ms.length
 nr:∀x∈rs.map (·.name),x.size≤9
 nm:∀x∈ms.map (·.name),x.size≤9
def mdC(rs:List RG)(ms:List MG)(ts:List TG)(qs:List QG):List D:=[sD ⟨#[112]⟩,sD ⟨#[97]⟩,.fs (rs.flatMap rgC) rs.length,.fs (ms.flatMap mgC) ms.length,.fs (ts.flatMap tgC) ts.length,.fs (qs.flatMap qgC) qs.length]
theorem zpy(l:List Nat):zcm (.d (nI l))=some [.d (nI l)]:=rfl
theorem zxg{α:Type}[Inhabited α]{f:α→Nat}{l:List α}{w:List Nat}(h:l.map f=w){k:Nat}(hk:k<l.length):k<w.length∧nth w k=f (nth l k):=by
 subst h
 exact⟨by simpa using hk,zfg hk⟩
theorem zd2{p q:Prop}(hq:q)(h:p=q:=by
 conv=>lhs;simp -dsimp -implicitDefEqProofs (disch:=first|assumption|omega|(simp only[r_z,zcv,zcw,zcx,zct]<;>omega)|decide) only[r_r,↓reduceIte,Nat.reduceEqDiff,Nat.reduceAdd,D.fix,Int.reduceToNat,Nat.reduceMul,Nat.reduceBNe,Nat.reduceBEq,zpy,zf6,zbk,z81,zij,zik,zei,zb4,zb5,qae]):p:=h.mpr hq
theorem jke(k:List Nat){m:List Nat}{τ τ1:Fr}{H H1:zad}(h:Rt m (fun t=>gcV k (τ t)) (gcH k H) τ1 H1)(a:∀i∈m,k[i]? =some i:=by decide)(b:k.Nodup:=by decide)(c:∀i∈k,i<H.length:=by
 simp[fzH,gcH]):Rt m τ H τ1 H1:=Rt.trans (Rt.gc a b c) h
theorem zzg{m:List Nat}{τ τ':Fr}{H H':zad}(h2:H=H')(h:zgk τ τ':=by
 repeat (first|exact zaq _|refine zak ?_ (by first|rfl|(simp[r_f,zcv,zcw,zcx,zct];done)|simp[r_f,zcv,zcw,zcx,zct, *]))):Rt m τ H τ' H':=Rt.end h h2
theorem yc1{P:Program}{sm:List Nat}{N:Nat}{τ:Fr}{H:zad}{f:FuncId}{args:List AV}{K0 KK:AV→zad→Prop}{ks:List Nat}(S T:zad)(h:ScS P ks f args S K0)(hK:∀x S',K0 x S'→S'.length=S.length∧KK x (S'++T))(hH:H=S++T:=by
 rfl) (hm:sm.all (okI ks S.length)=true:=by
 first|rfl|(simp[AV.allIs,AV.allI,zas,zal,zam,okI,ltI,zae,zaz,z81,zij,zik,zei,zbn,zbk];done)|(intro o ho;simp at ho;done)) (hτ:∀t,(τ t).allI (okI ks S.length)=true:=by
 exact fun t=>zbi (by first|rfl|(simp[AV.allIs,AV.allI,zas,zal,zam,okI,ltI,zae,zaz,z81,zij,zik,zei,zbn,zbk];done)|(intro o ho;simp at ho;done)) t) (ha:AV.allIs (ltI S.length) args=true:=by
 first|rfl|(simp[AV.allIs,AV.allI,zas,zal,zam,okI,ltI,zae,zaz,z81,zij,zik,zei,zbn,zbk];done)|(intro o ho;simp at ho;done)) (hS:∀o∈S,o.allI (ltI S.length)=true:=by
 first|rfl|(simp[AV.allIs,AV.allI,zas,zal,zam,okI,ltI,zae,zaz,z81,zij,zik,zei,zbn,zbk];done)|(intro o ho;simp at ho;done)) (hT:∀o∈T,o.allI (okI ks S.length)=true:=by
 first|rfl|(simp[AV.allIs,AV.allI,zas,zal,zam,okI,ltI,zae,zaz,z81,zij,zik,zei,zbn,zbk];done)|(intro o ho;simp at ho;done)):kC P sm N H τ (.d (.val (.func (.func f) #[] #[]))) args true (tg KK):=zk7 h hH hm hτ ha hS hT hK
theorem jnu{p q:Prop}(hq:q)(h:p=q:=by
 conv=>lhs;simp -dsimp -implicitDefEqProofs (disch:=first|assumption|omega|(simp only[r_z,zcv,zcw,zcx,zct]<;>omega)|decide) only[r_r,↓reduceIte,Nat.reduceEqDiff,Nat.reduceAdd,D.fix,Int.reduceToNat,Nat.reduceMul,Nat.reduceBNe,Nat.reduceBEq,zpy,zf6,zbk,z81,zij,zik,zei,zb4,zb5]):p:=h.mpr hq
theorem zxh{p q r:Prop}(e:r)(hq:q)(h:r→p=q:=by
 intro hY
 conv=>lhs;simp -dsimp -implicitDefEqProofs (disch:=first|assumption|omega|(simp only[r_z,zcv,zcw,zcx,zct]<;>omega)|decide) only[r_r,↓reduceIte,Nat.reduceEqDiff,Nat.reduceAdd,D.fix,Int.reduceToNat,Nat.reduceMul,Nat.reduceBNe,Nat.reduceBEq,r_w,zpy,zf6,zbk,z81,zij,zik,zei,zb4,zb5,qae,hY]):p:=(h e).mpr hq
theorem yg0{P:Program}{sm:List Nat}{N:Nat}{τ0 τ:Fr}{H:zad}{f:FuncId}{args:List AV}{K0 KK:AV→zad→Prop}{ks:List Nat}(S T:zad)(h:ScS P ks f args S K0)(hK:∀x S',K0 x S'→S'.length=S.length∧KK x (S'++T))(hH:H=S++T:=by
 rfl) (hN:S.length≤N:=by
 exact qaf rfl) (hm:sm.all (okI ks S.length)=true:=by
 first|rfl|(simp[AV.allIs,AV.allI,zas,zal,zam,okI,ltI,zae,zaz,z81,zij,zik,zei,zbn,zbk];done)|(intro o ho;simp at ho;done)) (hτ:∀t,(τ t).allI (okI ks S.length)=true:=by
 exact fun t=>zbi (by first|rfl|(simp[AV.allIs,AV.allI,zas,zal,zam,okI,ltI,zae,zaz,z81,zij,zik,zei,zbn,zbk];done)|(intro o ho;simp at ho;done)) t) (h0:∀t,(τ0 t).allI (okI ks S.length)=true:=by
 exact fun t=>zbi (by first|rfl|(simp[AV.allIs,AV.allI,zas,zal,zam,okI,ltI,zae,zaz,z81,zij,zik,zei,zbn,zbk];done)|(intro o ho;simp at ho;done)) t) (ha:AV.allIs (ltI S.length) args=true:=by
 first|rfl|(simp[AV.allIs,AV.allI,zas,zal,zam,okI,ltI,zae,zaz,z81,zij,zik,zei,zbn,zbk];done)|(intro o ho;simp at ho;done)) (hS:∀o∈S,o.allI (ltI S.length)=true:=by
 first|rfl|(simp[AV.allIs,AV.allI,zas,zal,zam,okI,ltI,zae,zaz,z81,zij,zik,zei,zbn,zbk];done)|(intro o ho;simp at ho;done)) (hT:∀o∈T,o.allI (okI ks S.length)=true:=by
 first|rfl|(simp[AV.allIs,AV.allI,zas,zal,zam,okI,ltI,zae,zaz,z81,zij,zik,zei,zbn,zbk];done)|(intro o ho;simp at ho;done)):kE P sm N τ0 τ H (.d (.val (.func (.func f) #[] #[]))) args (tg KK):=zpl h hH hN hm hτ h0 ha hS hT hK
theorem jsn{p:Prop}(h:p:=by
 first|rfl|(simp only[r_g,Nat.reduceAdd,↓reduceIte,Nat.reduceEqDiff,zpy,zf6,zbk,z81,zij,zik,zei,zb4,zb5];first|done|rfl)):p:=h
theorem ju5{p q:Prop}(hq:q)(h:p=q:=by
 conv=>lhs;simp only[r_g,Nat.reduceAdd,↓reduceIte,Nat.reduceEqDiff,zpy,zf6,zbk,z81,zij,zik,zei,zb4,zb5]):p:=h.mpr hq
theorem ju6(b:List Int)(hb:zg1 b)(hl:b.length≤maxLen):zg5 prog 9 [.agg [bytesD b]] (fun r=>∃rw tw mw rs ms ts qs,MdR rw tw mw rs ms ts qs∧r= .d (.agg (mdC rs ms ts qs))):=by
 unfold maxLen at hl
 have hl':b.length≤maxLen:=by unfold maxLen;exact hl
 have hcp3:jfi 3=7000000:=by decide
 have hcp2:jfi 2=8000000:=by decide
 have hcp1:jfi 1=9000000:=by decide
 have hc3:zx8 3=128:=by decide
 have hc2:zx8 2=32:=by decide
 have hc1:zx8 1=0:=by decide
 have hb3:byD 3=13:=by decide
 have hb2:byD 2=4:=by decide
 have hb1:byD 1=1:=by decide
 refine zj9 (fn:=f9) (by kernel_rfl) func9 rfl (qaf rfl) fun c hc hp=>?_
 refine za0 (τ':=frL [(0,.d (.agg [bytesD b]))]) (by repeat (first|exact zaq _|refine zak ?_ (by first|rfl|(simp[r_f,zcv,zcw,zcx,zct];done)|simp[r_f,zcv,zcw,zcx,zct, *]))) ?_
 refine szq (zd2 ·) ?_
 refine zav hp (τ':=frL [(1,.op 9 0),(2,.op 10 0)]) (H':=[.free,.free,.free,.free,.free,.free,.free,.free,.free,.cells [.d (bytesD b)],z81]) ?_ ?_
 ·refine Rt.trans (Rt.fr9) ?_
  refine jke [2,3,4,5,6,7,8,9,10,0,1] ?_
  refine zzg ?_
  exact jsn
 refine zaf hp zah hc rfl fun K2 hK2=>?_
 refine zd2 ?_
 refine yc1 ([.free,.free,.free,.free,.free,.free,.free,.free,.free]) ([.cells [.d (bytesD b)],z81]) (ju2 b 0 hb hl' (by omega)) ?_
 rintro _ _ ⟨rs,ms,ts0,qs0,hfr,rfl,g1,g2,g3,rfl⟩
 refine⟨rfl,?_⟩
 refine zd2 ?_
 refine hK2 _ _ ?_
 refine zaa fun K3 hK3=>?_
 obtain⟨rw,hrw0⟩:∃rw,rw=rs.map (·.w):=⟨_,rfl⟩
 obtain⟨tw,htw0⟩:∃tw,tw=ts0.map (·.w):=⟨_,rfl⟩
 obtain⟨mw,hmw0⟩:∃mw,mw=ms.map fun m=>(m.words,m.w):=⟨_,rfl⟩
 have hwd:WdOk rw tw mw:=⟨by rw[hrw0];simpa using hfr.r1,by rw[hrw0];simpa using hfr.r3,fun w hw=>by rw[hrw0]at hw;obtain⟨r,hr,rfl⟩:=qat.1 hw;exact hfr.rw r hr,by rw[htw0];simpa using hfr.t2,fun w hw=>by rw[htw0]at hw;obtain⟨r,hr,rfl⟩:=qat.1 hw;exact hfr.tw r hr,by rw[hmw0];simpa using hfr.m1,fun x hx=>by rw[hmw0]at hx;obtain⟨m,hm,rfl⟩:=qat.1 hx;have:=hfr.mw m hm;exact⟨this.2.2,this.1,this.2.1⟩⟩
 have f1:=hfr.r3;have f2:=hfr.t2;have f3:=hfr.m1;have f4:=hfr.q2
 refine szq (jnu ·) ?_
 refine zag ?_
 refine zao hp (fun τ' H' mm=>∃(k j:Nat) (ts:List TG),(k≤ts0.length∧ts.length=ts0.length∧ts.map (·.w)=tw∧DoT (ctG rw tw mw) ts k∧j≤9+100*k)∧mm=ts0.length - k∧H'=[zdv (scM ms),.free,.cells [.d (bytesD b)],z81,.cells [.d (sD ⟨#[112]⟩),.d (sD ⟨#[97]⟩),.os 13 7 0 rs.length,.os 27 0 0 ms.length,.os 9 8 0 ts.length,.os 16 9 0 qs0.length],.cells [.d (nI rw),.d (nI tw),.os 27 0 0 ms.length,.d (oD true)],.cells (avs (zbk b j)),.cells (avs (rs.flatMap rgC)),.cells (avs (ts.flatMap tgC)),.cells (avs (qs0.flatMap qgC))]∧τ'=frL [(1,.op 2 0),(2,.op 3 0),(3,.op 4 0),(4,.op 5 0),(5,.op 6 0),(6,.d (iD k))]) (ts0.length) ?_ ⟨0,9,ts0,⟨qap _,rfl,htw0.symm,fun q hq=>by omega,by omega⟩,rfl,rfl,rfl⟩ ?_
 ·refine Rt.trans (Rt.fr1) ?_
  refine Rt.trans (Rt.fz (id:=1) (l:=(rs.map fun r=>iD r.w)) rfl) ?_
  refine Rt.trans (Rt.heap (H':=[.cells (avs (rs.flatMap rgC)),.dead,.cells (avs (ms.flatMap mgC)),.cells (avs (ts0.flatMap tgC)),.cells (avs (ts0.map fun t=>iD t.w)),.cells (avs (qs0.flatMap qgC)),.cells (fzVs 1 (rs.map fun r=>iD r.w) g1),.cells (fzVs 1 (rs.map fun r=>iD r.w) g2),.cells (fzVs 1 (rs.map fun r=>iD r.w) g3),.cells [.d (bytesD b)],z81,.cells [.d (sD ⟨#[112]⟩),.d (sD ⟨#[97]⟩),.os 13 0 0 rs.length,.os 27 2 0 ms.length,.os 9 3 0 ts0.length,.os 16 5 0 qs0.length],.cells [.d (.fs (rs.map fun r=>iD r.w) rs.length),.os 1 4 0 ts0.length,.os 27 2 0 ms.length,.d (oD true)],.cells [.d (bytesD b),.d (iD 9)],.free]) (by simp only[r_g,Nat.reduceAdd,↓reduceIte,Nat.reduceEqDiff,zpy,zf6,zbk,z81,zij,zik,zei,zb4,zb5,zlr,zba,zcw,zcv,zcx,zct];first|done|rfl)) ?_
  refine Rt.trans (Rt.fz (id:=4) (l:=(ts0.map fun t=>iD t.w)) rfl) ?_
  refine jke [2,14,9,10,11,12,13,0,3,5] ?_
  refine zzg ?_
  refine ju5 ?_;rw[zlr,hrw0,htw0];simp[nI,zba,List.map_map,Function.comp_def,bytesD,iD,oD,sD,nS,gcV]
 rintro τ' H' mm ⟨k,j,ts,⟨hk,htl,htw,hdo,hj⟩,rfl,rfl,rfl⟩
 refine zaa fun K5 hK5=>?_
 refine szq (zd2 ·) ?_
 refine zan rfl (fun ht=>?_) (fun ht=>?_)
 ·have hlt:k<ts.length:=by simp at ht;omega
  refine zai (hK5 _ _ ?_)
  refine zaa fun K7 hK7=>?_
  refine zag ?_
  refine zaf hp zah hc rfl fun K8 hK8=>?_
  refine zd2 ?_
  refine yc1 ([zdv (scM ms),.free]) ([.cells [.d (bytesD b)],z81,.cells [.d (sD ⟨#[112]⟩),.d (sD ⟨#[97]⟩),.os 13 7 0 rs.length,.os 27 0 0 ms.length,.os 9 8 0 ts.length,.os 16 9 0 qs0.length],.cells [.d (nI rw),.d (nI tw),.os 27 0 0 ms.length,.d (oD true)],.cells (avs (zbk b j)),.cells (avs (rs.flatMap rgC)),.cells (avs (ts.flatMap tgC)),.cells (avs (qs0.flatMap qgC))]) (ycz (j:=j) hwd hmw0.symm hb hl' (by omega)) ?_
  rintro _ _ ⟨e,j',he,hj1,hj2,rfl,g,rfl⟩
  refine⟨rfl,?_⟩
  obtain⟨xo,xk,xw,xc,xn,hex⟩:=zce e;unfold tyV;rw[hex];dsimp only[List.map_cons,List.map_nil,List.cons_append,List.nil_append,zbk]
  refine zd2 ?_
  refine hK8 _ _ ?_
  refine szq (zd2 ·) ?_
  refine szs (zd2 ·) (hK7 _ _ ?_)
  refine za1 hp zah hc rfl fun K11 hK11=>?_
  refine zd2 ?_
  refine hK11 _ _ ⟨_,_,_,?_,⟨k+1,j',ts.set k (jkb (nth ts k) e),⟨by omega,by simp[htl],(zhp (a:=jkb (nth ts k) e) hlt rfl).trans htw,hdo.step hlt he,by omega⟩,rfl,rfl,rfl⟩,?_⟩
  ·first|omega|(simp only[List.length_cons];omega)|(dsimp only;omega)
  ·refine Rt.trans (Rt.fr1) ?_
   refine jke [0,11,2,3,4,5,6,7,8,9] ?_
   refine zzg ?_
   refine ju5 ?_;have hst:=yin (l:=ts) (i:=k*9+2) hlt rfl rfl hex;rw[←hst];simp[bytesD,iD,oD,sD,nS,avs,zbq];rfl
 ·have hkk:k=ts.length:=by simp at ht;omega
  have hdT:DoT (ctG rw tw mw) ts ts.length:=hkk▸hdo
  refine zau (hK3 _ _ ?_)
  refine zaa fun K12 hK12=>?_
  refine szq (jnu ·) ?_
  refine zag ?_
  refine zao hp (fun τ' H' mm=>∃(k1 j1:Nat) (r1:List RG),(k1≤rs.length∧r1.length=rs.length∧r1.map (·.w)=rw∧DoR (ctG rw tw mw) r1 k1∧j1≤209+100*k1∧r1.map (·.name)=rs.map (·.name))∧mm=rs.length - k1∧H'=[zdv (scM ms),.free,.cells [.d (bytesD b)],z81,.cells [.d (sD ⟨#[112]⟩),.d (sD ⟨#[97]⟩),.os 13 7 0 r1.length,.os 27 0 0 ms.length,.os 9 8 0 ts.length,.os 16 9 0 qs0.length],.cells [.d (nI rw),.d (nI tw),.os 27 0 0 ms.length,.d (oD true)],.cells (avs (zbk b j1)),.cells (avs (r1.flatMap rgC)),.cells (avs (ts.flatMap tgC)),.cells (avs (qs0.flatMap qgC))]∧τ'=frL [(1,.op 2 0),(2,.op 3 0),(3,.op 4 0),(4,.op 5 0),(5,.op 6 0),(8,.d (iD k1))]) (rs.length) ?_ ⟨0,j,rs,⟨qap _,rfl,hrw0.symm,fun q hq=>by omega,by omega,rfl⟩,rfl,rfl,rfl⟩ ?_
  ·refine zzg ?_
   exact jsn
  rintro τ' H' mm ⟨k1,j1,r1,⟨hk1,hrl,hrw,hdo1,hj1,hrn⟩,rfl,rfl,rfl⟩
  refine zaa fun K14 hK14=>?_
  refine szq (zd2 ·) ?_
  refine zan rfl (fun ht=>?_) (fun ht=>?_)
  ·have hlt:k1<r1.length:=by simp at ht;omega
   have hwk:=zxg hrw hlt
   have hwr:=hwd.r _ (zcb (l:=rw) hwk.1)
   rw[hwk.2]at hwr
   refine zai (hK14 _ _ ?_)
   refine zaa fun K16 hK16=>?_
   refine zag ?_
   refine zbc zah hp hc mixed rfl [(0,[]),(1,[]),(2,[]),(3,[]),(4,[]),(5,[]),(6,[]),(7,[]),(8,[]),(9,[]),(10,[]),(11,[]),(13,[]),(12,[]),(14,[])] [[],[],[],[2],[],[2,3,4],[2,3,4,5],[2,3,4,5,6],[],[8],[8,9],[2,3,4,5,6,7,8,9,10],[0,1,2,3,4,5,6,7,8,9,10,11],[],[0,1,2,3,4,5,6,7,8,9,10,11,12,13]] 1 (by kernel_rfl) fun K17 hK17=>?_
   by_cases hg:k1=0
   ·subst hg
    have hrd:(r1.flatMap rgC)[1]? =some (iD (nth r1 0).w):=by simpa using yk5 hlt
    have q3:(3:Int) - min ((0:Nat):Int) 1=((3:Nat):Int):=by decide
    refine zxh (sza hrd q3) ?_
    refine yg0 ([zdv (scM ms),.free]) ([.cells [.d (bytesD b)],z81,.cells [.d (sD ⟨#[112]⟩),.d (sD ⟨#[97]⟩),.os 13 7 0 r1.length,.os 27 0 0 ms.length,.os 9 8 0 ts.length,.os 16 9 0 qs0.length],.cells [.d (nI rw),.d (nI tw),.os 27 0 0 ms.length,.d (oD true)],.cells (avs (zbk b j1)),.cells (avs (r1.flatMap rgC)),.cells (avs (ts.flatMap tgC)),.cells (avs (qs0.flatMap qgC)),zei]) (yc0 (d:=3) (j:=j1) (w:=(nth r1 0).w) ym7 hwd hmw0.symm hb hl' hwr.1 (by omega) (by omega)) ?_
    rintro _ _ ⟨e,j',he,hja,hjb,rfl,g,rfl⟩
    refine⟨rfl,?_⟩
    obtain⟨o_e,k_e,w_e,c_e,n_e,x_e⟩:=zce e;unfold tyV;rw[x_e];dsimp only[List.map_cons,List.map_nil,List.cons_append,List.nil_append,zbk]
    refine zxh (sza hrd q3) ?_
    refine hK17 _ _ ?_
    refine szq (zd2 ·) ?_
    refine szs (zd2 ·) (hK16 _ _ ?_)
    refine za1 hp zah hc rfl fun K20 hK20=>?_
    refine zd2 ?_
    refine hK20 _ _ ⟨_,_,_,?_,⟨0+1,j',r1.set 0 (jsl (nth r1 0) e),⟨by omega,by simp[hrl],(zhp (a:=jsl (nth r1 0) e) hlt rfl).trans hrw,hdo1.step hlt (by rw[if_pos rfl];exact hc3▸he),by omega,(zhp (f:=fun r:RG=>r.name) (a:=jsl (nth r1 0) e) hlt rfl).trans hrn⟩,rfl,rfl,rfl⟩,?_⟩
    ·first|omega|(simp only[List.length_cons];omega)|(dsimp only;omega)
    ·refine Rt.trans (Rt.fr1) ?_
     refine jke [0,11,2,3,4,5,6,7,8,9] ?_
     refine zzg ?_
     refine ju5 ?_;have hst:=ycs (l:=r1) (i:=0*13+3) hlt rfl rfl x_e;rw[←hst];simp[bytesD,iD,oD,sD,nS,avs,zbq];rfl
   ·have hrd:=yk5 hlt
    have q3:(3:Int) - min (k1:Int) 1=((2:Nat):Int):=by omega
    refine zxh (sza hrd q3) ?_
    refine yg0 ([zdv (scM ms),.free]) ([.cells [.d (bytesD b)],z81,.cells [.d (sD ⟨#[112]⟩),.d (sD ⟨#[97]⟩),.os 13 7 0 r1.length,.os 27 0 0 ms.length,.os 9 8 0 ts.length,.os 16 9 0 qs0.length],.cells [.d (nI rw),.d (nI tw),.os 27 0 0 ms.length,.d (oD true)],.cells (avs (zbk b j1)),.cells (avs (r1.flatMap rgC)),.cells (avs (ts.flatMap tgC)),.cells (avs (qs0.flatMap qgC)),zei]) (yc0 (d:=2) (j:=j1) (w:=(nth r1 k1).w) ycl hwd hmw0.symm hb hl' hwr.1 (by omega) (by omega)) ?_
    rintro _ _ ⟨e,j',he,hja,hjb,rfl,g,rfl⟩
    refine⟨rfl,?_⟩
    obtain⟨o_e,k_e,w_e,c_e,n_e,x_e⟩:=zce e;unfold tyV;rw[x_e];dsimp only[List.map_cons,List.map_nil,List.cons_append,List.nil_append,zbk]
    refine zxh (sza hrd q3) ?_
    refine hK17 _ _ ?_
    refine szq (zd2 ·) ?_
    refine szs (zd2 ·) (hK16 _ _ ?_)
    refine za1 hp zah hc rfl fun K23 hK23=>?_
    refine zd2 ?_
    refine hK23 _ _ ⟨_,_,_,?_,⟨k1+1,j',r1.set k1 (jsl (nth r1 k1) e),⟨by omega,by simp[hrl],(zhp (a:=jsl (nth r1 k1) e) hlt rfl).trans hrw,hdo1.step hlt (by rw[if_neg hg];exact hc2▸he),by omega,(zhp (f:=fun r:RG=>r.name) (a:=jsl (nth r1 k1) e) hlt rfl).trans hrn⟩,rfl,rfl,rfl⟩,?_⟩
    ·first|omega|(simp only[List.length_cons];omega)|(dsimp only;omega)
    ·refine Rt.trans (Rt.fr1) ?_
     refine jke [0,11,2,3,4,5,6,7,8,9] ?_
     refine zzg ?_
     refine ju5 ?_;have hst:=ycs (l:=r1) (i:=k1*13+3) hlt rfl rfl x_e;rw[←hst];simp[bytesD,iD,oD,sD,nS,avs,zbq];rfl
  ·have hkk1:k1=r1.length:=by simp at ht;omega
   have hdR:DoR (ctG rw tw mw) r1 r1.length:=hkk1▸hdo1
   refine zau (hK12 _ _ ?_)
   refine zaa fun K24 hK24=>?_
   refine szq (jnu ·) ?_
   refine zag ?_
   refine zao hp (fun τ' H' mm=>∃(k2 j2:Nat) (q1:List QG),(k2≤qs0.length∧q1.length=qs0.length∧q1.map (·.w)=qs0.map (·.w)∧DoQ (ctG rw tw mw) q1 k2∧j2≤509+100*k2)∧mm=qs0.length - k2∧H'=[zdv (scM ms),.free,.cells [.d (bytesD b)],z81,.cells [.d (sD ⟨#[112]⟩),.d (sD ⟨#[97]⟩),.os 13 7 0 r1.length,.os 27 0 0 ms.length,.os 9 8 0 ts.length,.os 16 9 0 q1.length],.cells [.d (nI rw),.d (nI tw),.os 27 0 0 ms.length,.d (oD true)],.cells (avs (zbk b j2)),.cells (avs (r1.flatMap rgC)),.cells (avs (ts.flatMap tgC)),.cells (avs (q1.flatMap qgC))]∧τ'=frL [(1,.op 2 0),(2,.op 3 0),(3,.op 4 0),(4,.op 5 0),(5,.op 6 0),(10,.d (iD k2))]) (qs0.length) ?_ ⟨0,j1,qs0,⟨qap _,rfl,rfl,fun q hq=>by omega,by omega⟩,rfl,rfl,rfl⟩ ?_
   ·refine zzg ?_
    exact jsn
   rintro τ' H' mm ⟨k2,j2,q1,⟨hk2,hql,hqw,hdo2,hj2⟩,rfl,rfl,rfl⟩
   refine zaa fun K26 hK26=>?_
   refine szq (zd2 ·) ?_
   refine zan rfl (fun ht=>?_) (fun ht=>?_)
   ·have hlt:k2<q1.length:=by simp at ht;omega
    have hwk:=zxg hqw hlt
    have hwq:1≤(nth q1 k2).w∧(nth q1 k2).w≤2:=by
     obtain⟨q,hq,e⟩:=qat.1 (zcb (l:=qs0.map (·.w)) hwk.1)
     rw[←hwk.2,←e];exact hfr.qw q hq
    have hrd:=yna hlt
    refine zai (hK26 _ _ ?_)
    refine zaa fun K28 hK28=>?_
    refine zag ?_
    refine zaf hp zah hc rfl fun K29 hK29=>?_
    refine zd2 ?_
    refine yc1 ([zdv (scM ms),.free]) ([.cells [.d (bytesD b)],z81,.cells [.d (sD ⟨#[112]⟩),.d (sD ⟨#[97]⟩),.os 13 7 0 r1.length,.os 27 0 0 ms.length,.os 9 8 0 ts.length,.os 16 9 0 q1.length],.cells [.d (nI rw),.d (nI tw),.os 27 0 0 ms.length,.d (oD true)],.cells (avs (zbk b j2)),.cells (avs (r1.flatMap rgC)),.cells (avs (ts.flatMap tgC)),.cells (avs (q1.flatMap qgC))]) (jsm (j:=j2) hwd hmw0.symm hb hl' (by omega)) ?_
    rintro _ _ ⟨e,je,he,hja,hjb,rfl,g,rfl⟩
    refine⟨rfl,?_⟩
    obtain⟨o_e,k_e,w_e,c_e,n_e,x_e⟩:=zce e;unfold tyV;rw[x_e];dsimp only[List.map_cons,List.map_nil,List.cons_append,List.nil_append,zbk]
    refine zd2 ?_
    refine hK29 _ _ ?_
    refine zav hp (τ':=frL [(1,.op 2 0),(2,.op 3 0),(3,.op 4 0),(4,.op 5 0),(5,.op 6 0),(10,.d (iD k2)),(11,.op 10 0)]) (H':=[zdv (scM ms),.free,.cells [.d (bytesD b)],z81,.cells [.d (sD ⟨#[112]⟩),.d (sD ⟨#[97]⟩),.os 13 7 0 r1.length,.os 27 0 0 ms.length,.os 9 8 0 ts.length,.os 16 9 0 q1.length],.cells [.d (nI rw),.d (nI tw),.os 27 0 0 ms.length,.d (oD true)],.cells (avs (zbk b j2)),.cells (avs (r1.flatMap rgC)),.cells (avs (ts.flatMap tgC)),.cells (avs (q1.flatMap qgC)),.cells (avs ([iD o_e,nS,iD k_e,nS,iD w_e,nS,.fs c_e n_e]++zbk b je))]) ?_ ?_
    ·refine Rt.trans (Rt.fr1) ?_
     refine jke [0,11,2,3,4,5,6,7,8,9,10] ?_
     refine zzg ?_
     exact jsn
    refine zbc zah hp hc mixed rfl [(0,[]),(1,[]),(2,[]),(3,[]),(4,[]),(5,[]),(6,[]),(7,[]),(8,[]),(9,[]),(11,[]),(10,[]),(12,[])] [[],[0],[],[],[3],[],[3,4,5],[3,4,5,6],[3,4,5,6,7],[3,4,5,6,7,8],[0,1,2,3,4,5,6,7,8,9],[],[0,1,2,3,4,5,6,7,8,9,10,11]] 1 (by kernel_rfl) fun K30 hK30=>?_
    refine zxh hrd ?_
    refine yg0 ([zdv (scM ms),.free]) ([.cells [.d (bytesD b)],z81,.cells [.d (sD ⟨#[112]⟩),.d (sD ⟨#[97]⟩),.os 13 7 0 r1.length,.os 27 0 0 ms.length,.os 9 8 0 ts.length,.os 16 9 0 q1.length],.cells [.d (nI rw),.d (nI tw),.os 27 0 0 ms.length,.d (oD true)],.cells (avs (zbk b j2)),.cells (avs (r1.flatMap rgC)),.cells (avs (ts.flatMap tgC)),.cells (avs (q1.flatMap qgC)),.cells (avs ([iD o_e,nS,iD k_e,nS,iD w_e,nS,.fs c_e n_e]++zbk b je)),zei]) (yc0 (d:=2) (j:=je) (w:=(nth q1 k2).w) ycl hwd hmw0.symm hb hl' hwq.1 (by omega) (by omega)) ?_
    rintro _ _ ⟨d,jd,hd,hjc,hjd,rfl,g',rfl⟩
    refine⟨rfl,?_⟩
    obtain⟨o_d,k_d,w_d,c_d,n_d,x_d⟩:=zce d;unfold tyV;rw[x_d];dsimp only[List.map_cons,List.map_nil,List.cons_append,List.nil_append,zbk]
    refine zxh hrd ?_
    refine hK30 _ _ ?_
    refine szq (zd2 ·) ?_
    refine szq (zd2 ·) ?_
    refine szs (zd2 ·) (hK28 _ _ ?_)
    refine za1 hp zah hc rfl fun K34 hK34=>?_
    refine zd2 ?_
    refine hK34 _ _ ⟨_,_,_,?_,⟨k2+1,jd,q1.set k2 (jkd (jkc (nth q1 k2) e) d),⟨by omega,by simp[hql],(zhp (a:=jkd (jkc (nth q1 k2) e) d) hlt rfl).trans hqw,hdo2.step hlt he hd,by omega⟩,rfl,rfl,rfl⟩,?_⟩
    ·first|omega|(simp only[List.length_cons];omega)|(dsimp only;omega)
    ·refine Rt.trans (Rt.fr1) ?_
     refine jke [0,12,2,3,4,5,6,7,8,9] ?_
     refine zzg ?_
     refine ju5 ?_;have hs1:=yct (l:=q1) (i:=k2*16+2) hlt rfl rfl x_e;have hs2:=ycu (l:=q1.set k2 (jkc (nth q1 k2) e)) (k:=k2) (i:=k2*16+9) (by simpa using hlt) rfl rfl x_d;rw[zep hlt,List.set_set,←hs1]at hs2;rw[←hs2];simp[bytesD,iD,oD,sD,nS,avs,zbq];rfl
   ·have hkk2:k2=q1.length:=by simp at ht;omega
    have hdQ:DoQ (ctG rw tw mw) q1 q1.length:=hkk2▸hdo2
    refine zau (hK24 _ _ ?_)
    refine zaa fun K35 hK35=>?_
    refine szq (jnu ·) ?_
    refine zag ?_
    refine zao hp (fun τ' H' mm=>∃(k3 j3:Nat) (m1:List MG),(k3≤ms.length∧m1.length=ms.length∧(m1.map fun m=>(m.words,m.w))=mw∧DoM (ctG rw tw mw) m1 k3∧j3≤809+100*k3∧m1.map (·.name)=ms.map (·.name))∧mm=ms.length - k3∧H'=[zdv (scM m1),.free,.cells [.d (bytesD b)],z81,.cells [.d (sD ⟨#[112]⟩),.d (sD ⟨#[97]⟩),.os 13 7 0 r1.length,.os 27 0 0 m1.length,.os 9 8 0 ts.length,.os 16 9 0 q1.length],.cells [.d (nI rw),.d (nI tw),.os 27 0 0 m1.length,.d (oD true)],.cells (avs (zbk b j3)),.cells (avs (r1.flatMap rgC)),.cells (avs (ts.flatMap tgC)),.cells (avs (q1.flatMap qgC))]∧τ'=frL [(1,.op 2 0),(2,.op 3 0),(3,.op 4 0),(4,.op 5 0),(5,.op 6 0),(13,.d (iD k3))]) (ms.length) ?_ ⟨0,j2,ms,⟨qap _,rfl,hmw0.symm,fun q hq=>by omega,by omega,rfl⟩,rfl,rfl,rfl⟩ ?_
    ·refine zzg ?_
     exact jsn
    rintro τ' H' mm ⟨k3,j3,m1,⟨hk3,hml,hmw,hdo3,hj3,hmn⟩,rfl,rfl,rfl⟩
    refine zaa fun K37 hK37=>?_
    refine szq (zd2 ·) ?_
    refine zan rfl (fun ht=>?_) (fun ht=>?_)
    ·have hlt:k3<m1.length:=by simp at ht;omega
     have hwk:k3<mw.length∧nth mw k3=((nth m1 k3).words,(nth m1 k3).w):=by
      rw[←hmw];exact⟨by simpa using hlt,zfg hlt⟩
     have hwm:=hwd.m _ (zcb (l:=mw) hwk.1)
     rw[hwk.2]at hwm
     have hwm1:1≤(nth m1 k3).w∧(nth m1 k3).w≤2:=hwm.2
     have hrd:=ym8 hlt
     refine zai (hK37 _ _ ?_)
     refine zaa fun K39 hK39=>?_
     refine zag ?_
     refine zaf hp zah hc rfl fun K40 hK40=>?_
     refine zd2 ?_
     refine yc1 ([zdv (scM m1),.free]) ([.cells [.d (bytesD b)],z81,.cells [.d (sD ⟨#[112]⟩),.d (sD ⟨#[97]⟩),.os 13 7 0 r1.length,.os 27 0 0 m1.length,.os 9 8 0 ts.length,.os 16 9 0 q1.length],.cells [.d (nI rw),.d (nI tw),.os 27 0 0 m1.length,.d (oD true)],.cells (avs (zbk b j3)),.cells (avs (r1.flatMap rgC)),.cells (avs (ts.flatMap tgC)),.cells (avs (q1.flatMap qgC))]) (jsm (j:=j3) hwd hmw hb hl' (by omega)) ?_
     rintro _ _ ⟨e,je,he,hja,hjb,rfl,g,rfl⟩
     refine⟨rfl,?_⟩
     obtain⟨o_e,k_e,w_e,c_e,n_e,x_e⟩:=zce e;unfold tyV;rw[x_e];dsimp only[List.map_cons,List.map_nil,List.cons_append,List.nil_append,zbk]
     refine zd2 ?_
     refine hK40 _ _ ?_
     refine zav hp (τ':=frL [(1,.op 2 0),(2,.op 3 0),(3,.op 4 0),(4,.op 5 0),(5,.op 6 0),(13,.d (iD k3)),(14,.op 10 0)]) (H':=[zdv (scM m1),.free,.cells [.d (bytesD b)],z81,.cells [.d (sD ⟨#[112]⟩),.d (sD ⟨#[97]⟩),.os 13 7 0 r1.length,.os 27 0 0 m1.length,.os 9 8 0 ts.length,.os 16 9 0 q1.length],.cells [.d (nI rw),.d (nI tw),.os 27 0 0 m1.length,.d (oD true)],.cells (avs (zbk b j3)),.cells (avs (r1.flatMap rgC)),.cells (avs (ts.flatMap tgC)),.cells (avs (q1.flatMap qgC)),.cells (avs ([iD o_e,nS,iD k_e,nS,iD w_e,nS,.fs c_e n_e]++zbk b je))]) ?_ ?_
     ·refine Rt.trans (Rt.fr1) ?_
      refine jke [0,11,2,3,4,5,6,7,8,9,10] ?_
      refine zzg ?_
      exact jsn
     refine zaf hp zah hc rfl fun K41 hK41=>?_
     refine zd2 ?_
     refine yc1 ([zdv (scM m1),.free]) ([.cells [.d (bytesD b)],z81,.cells [.d (sD ⟨#[112]⟩),.d (sD ⟨#[97]⟩),.os 13 7 0 r1.length,.os 27 0 0 m1.length,.os 9 8 0 ts.length,.os 16 9 0 q1.length],.cells [.d (nI rw),.d (nI tw),.os 27 0 0 m1.length,.d (oD true)],.cells (avs (zbk b j3)),.cells (avs (r1.flatMap rgC)),.cells (avs (ts.flatMap tgC)),.cells (avs (q1.flatMap qgC)),.cells (avs ([iD o_e,nS,iD k_e,nS,iD w_e,nS,.fs c_e n_e]++zbk b je))]) (yc0 (d:=1) (j:=je) (w:=1+b.length % 2) ykz hwd hmw hb hl' (by omega) (by omega) (by omega)) ?_
     rintro _ _ ⟨a,ja,ha,hjc,hjd,rfl,g',rfl⟩
     refine⟨rfl,?_⟩
     obtain⟨o_a,k_a,w_a,c_a,n_a,x_a⟩:=zce a;unfold tyV;rw[x_a];dsimp only[List.map_cons,List.map_nil,List.cons_append,List.nil_append,zbk]
     refine zd2 ?_
     refine hK41 _ _ ?_
     refine zav hp (τ':=frL [(1,.op 2 0),(2,.op 3 0),(3,.op 4 0),(4,.op 5 0),(5,.op 6 0),(13,.d (iD k3)),(14,.op 10 0),(15,.op 11 0)]) (H':=[zdv (scM m1),.free,.cells [.d (bytesD b)],z81,.cells [.d (sD ⟨#[112]⟩),.d (sD ⟨#[97]⟩),.os 13 7 0 r1.length,.os 27 0 0 m1.length,.os 9 8 0 ts.length,.os 16 9 0 q1.length],.cells [.d (nI rw),.d (nI tw),.os 27 0 0 m1.length,.d (oD true)],.cells (avs (zbk b j3)),.cells (avs (r1.flatMap rgC)),.cells (avs (ts.flatMap tgC)),.cells (avs (q1.flatMap qgC)),.cells (avs ([iD o_e,nS,iD k_e,nS,iD w_e,nS,.fs c_e n_e]++zbk b je)),.cells (avs ([iD o_a,nS,iD k_a,nS,iD w_a,nS,.fs c_a n_a]++zbk b ja))]) ?_ ?_
     ·refine Rt.trans (Rt.fr1) ?_
      refine jke [0,12,2,3,4,5,6,7,8,9,10,11] ?_
      refine zzg ?_
      exact jsn
     rw[zlr]
     have hty:=yc0 (d:=2) (j:=ja) (w:=(nth m1 k3).w) ycl hwd hmw hb hl' hwm1.1 (by omega) (by omega)
     rw[zlr]at hty
     refine zbc zah hp hc mixed rfl [(0,[]),(1,[]),(2,[]),(3,[]),(4,[]),(5,[]),(6,[]),(7,[]),(8,[]),(9,[]),(11,[]),(10,[]),(12,[])] [[],[0],[],[],[3],[],[3,4,5],[3,4,5,6],[3,4,5,6,7],[3,4,5,6,7,8],[0,1,2,3,4,5,6,7,8,9],[],[0,1,2,3,4,5,6,7,8,9,10,11]] 1 (by kernel_rfl) fun K42 hK42=>?_
     refine zxh hrd ?_
     refine yg0 ([.cells (avs (m1.flatMap mgC)),.free]) ([.cells [.d (bytesD b)],z81,.cells [.d (sD ⟨#[112]⟩),.d (sD ⟨#[97]⟩),.os 13 7 0 r1.length,.os 27 0 0 m1.length,.os 9 8 0 ts.length,.os 16 9 0 q1.length],.cells [.d (nI rw),.d (nI tw),.os 27 0 0 m1.length,.d (oD true)],.cells (avs (zbk b j3)),.cells (avs (r1.flatMap rgC)),.cells (avs (ts.flatMap tgC)),.cells (avs (q1.flatMap qgC)),.cells (avs ([iD o_e,nS,iD k_e,nS,iD w_e,nS,.fs c_e n_e]++zbk b je)),.cells (avs ([iD o_a,nS,iD k_a,nS,iD w_a,nS,.fs c_a n_a]++zbk b ja)),zei]) (hty) ?_
     rintro _ _ ⟨d,jd,hd,hje,hjf,rfl,g'',rfl⟩
     refine⟨rfl,?_⟩
     obtain⟨o_d,k_d,w_d,c_d,n_d,x_d⟩:=zce d;unfold tyV;rw[x_d];dsimp only[List.map_cons,List.map_nil,List.cons_append,List.nil_append,zbk]
     refine zxh hrd ?_
     refine hK42 _ _ ?_
     refine zav hp (τ':=frL [(1,.op 2 0),(2,.op 3 0),(3,.op 4 0),(4,.op 5 0),(5,.op 6 0),(13,.d (iD k3)),(14,.op 10 0),(15,.op 11 0),(16,.op 12 0)]) (H':=[zdv (scM m1),.cells g'',.cells [.d (bytesD b)],z81,.cells [.d (sD ⟨#[112]⟩),.d (sD ⟨#[97]⟩),.os 13 7 0 r1.length,.os 27 0 0 m1.length,.os 9 8 0 ts.length,.os 16 9 0 q1.length],.cells [.d (nI rw),.d (nI tw),.os 27 0 0 m1.length,.d (oD true)],.cells (avs (zbk b j3)),.cells (avs (r1.flatMap rgC)),.cells (avs (ts.flatMap tgC)),.cells (avs (q1.flatMap qgC)),.cells (avs ([iD o_e,nS,iD k_e,nS,iD w_e,nS,.fs c_e n_e]++zbk b je)),.cells (avs ([iD o_a,nS,iD k_a,nS,iD w_a,nS,.fs c_a n_a]++zbk b ja)),.cells (avs ([iD o_d,nS,iD k_d,nS,iD w_d,nS,.fs c_d n_d]++zbk b jd))]) ?_ ?_
     ·refine zzg ?_
      exact jsn
     rw[zlr]
     refine szq (zd2 ·) ?_
     refine szq (zd2 ·) ?_
     refine szq (zd2 ·) ?_
     refine szs (zd2 ·) (hK39 _ _ ?_)
     refine za1 hp zah hc rfl fun K47 hK47=>?_
     refine zd2 ?_
     refine hK47 _ _ ⟨_,_,_,?_,⟨k3+1,jd,m1.set k3 (jfq (zzf (zze (nth m1 k3) e) a) d),⟨by omega,by simp[hml],(zhp (f:=fun m:MG=>(m.words,m.w)) (a:=jfq (zzf (zze (nth m1 k3) e) a) d) hlt rfl).trans hmw,hdo3.step hlt he ha.t (by have:=ha.n;simp only[hc1]at this;omega) hd,by omega,(zhp (f:=fun m:MG=>m.name) (a:=jfq (zzf (zze (nth m1 k3) e) a) d) hlt rfl).trans hmn⟩,rfl,rfl,rfl⟩,?_⟩
     ·first|omega|(simp only[List.length_cons];omega)|(dsimp only;omega)
     ·refine Rt.trans (Rt.fr1) ?_
      refine jke [0,13,2,3,4,5,6,7,8,9] ?_
      refine zzg ?_
      refine ju5 ?_;have hs1:=ycv (l:=m1) (i:=k3*27+3) hlt rfl rfl x_e;have hs2:=ycw (l:=m1.set k3 (zze (nth m1 k3) e)) (k:=k3) (i:=k3*27+10) (by simpa using hlt) rfl rfl x_a;rw[zep hlt,List.set_set,←hs1]at hs2;have hs3:=ycx (l:=m1.set k3 (zzf (zze (nth m1 k3) e) a)) (k:=k3) (i:=k3*27+17) (by simpa using hlt) rfl rfl x_d;rw[zep hlt,List.set_set,←hs2]at hs3;rw[zlr,←hs3];simp[bytesD,iD,oD,sD,nS,avs,zbq]
    ·have hkk3:k3=m1.length:=by simp at ht;omega
     have hdM:DoM (ctG rw tw mw) m1 m1.length:=hkk3▸hdo3
     refine zau (hK35 _ _ ?_)
     refine zav hp (τ':=frL [(2,.op 5 0),(3,.op 0 0)]) (H':=[.cells [.d (sD ⟨#[112]⟩),.d (sD ⟨#[97]⟩),.d (.fs (r1.flatMap rgC) r1.length),.d (.fs (m1.flatMap mgC) m1.length),.d (.fs (ts.flatMap tgC) ts.length),.d (.fs (q1.flatMap qgC) q1.length)],.dead,.dead,.dead,.dead,z81]) ?_ ?_
     ·refine jke [4,0,7,8,9,3] ?_
      refine Rt.trans (Rt.heap (H':=[.cells [.d (sD ⟨#[112]⟩),.d (sD ⟨#[97]⟩),.os 13 2 0 r1.length,.os 27 1 0 m1.length,.os 9 3 0 ts.length,.os 16 4 0 q1.length],.cells (avs (m1.flatMap mgC)),.cells (avs (r1.flatMap rgC)),.cells (avs (ts.flatMap tgC)),.cells (avs (q1.flatMap qgC)),z81]) (by simp only[r_g,Nat.reduceAdd,↓reduceIte,Nat.reduceEqDiff,zpy,zf6,zbk,z81,zij,zik,zei,zb4,zb5,zlr,zba,zcw,zcv,zcx,zct];first|done|rfl)) ?_
      refine Rt.trans (Rt.fz (id:=1) (l:=(m1.flatMap mgC)) rfl) ?_
      refine Rt.trans (Rt.heap (H':=[.cells [.d (sD ⟨#[112]⟩),.d (sD ⟨#[97]⟩),.os 13 2 0 r1.length,.d (.fs (m1.flatMap mgC) m1.length),.os 9 3 0 ts.length,.os 16 4 0 q1.length],.dead,.cells (avs (r1.flatMap rgC)),.cells (avs (ts.flatMap tgC)),.cells (avs (q1.flatMap qgC)),z81]) (by simp only[r_g,Nat.reduceAdd,↓reduceIte,Nat.reduceEqDiff,zpy,zf6,zbk,z81,zij,zik,zei,zb4,zb5,zlr,zba,zcw,zcv,zcx,zct];first|done|rfl)) ?_
      refine Rt.trans (Rt.fz (id:=2) (l:=(r1.flatMap rgC)) rfl) ?_
      refine Rt.trans (Rt.heap (H':=[.cells [.d (sD ⟨#[112]⟩),.d (sD ⟨#[97]⟩),.d (.fs (r1.flatMap rgC) r1.length),.d (.fs (m1.flatMap mgC) m1.length),.os 9 3 0 ts.length,.os 16 4 0 q1.length],.dead,.dead,.cells (avs (ts.flatMap tgC)),.cells (avs (q1.flatMap qgC)),z81]) (by simp only[r_g,Nat.reduceAdd,↓reduceIte,Nat.reduceEqDiff,zpy,zf6,zbk,z81,zij,zik,zei,zb4,zb5,zlr,zba,zcw,zcv,zcx,zct];first|done|rfl)) ?_
      refine Rt.trans (Rt.fz (id:=3) (l:=(ts.flatMap tgC)) rfl) ?_
      refine Rt.trans (Rt.heap (H':=[.cells [.d (sD ⟨#[112]⟩),.d (sD ⟨#[97]⟩),.d (.fs (r1.flatMap rgC) r1.length),.d (.fs (m1.flatMap mgC) m1.length),.d (.fs (ts.flatMap tgC) ts.length),.os 16 4 0 q1.length],.dead,.dead,.dead,.cells (avs (q1.flatMap qgC)),z81]) (by simp only[r_g,Nat.reduceAdd,↓reduceIte,Nat.reduceEqDiff,zpy,zf6,zbk,z81,zij,zik,zei,zb4,zb5,zlr,zba,zcw,zcv,zcx,zct];first|done|rfl)) ?_
      refine Rt.trans (Rt.fz (id:=4) (l:=(q1.flatMap qgC)) rfl) ?_
      refine zzg ?_
      refine ju5 ?_;simp only[zba zct]
     refine szq (zd2 ·) ?_
     refine zaj ?_
     try dsimp only[zcg,za5]
     refine za6 rfl ?_
     simp -dsimp -implicitDefEqProofs (disch:=first|assumption|omega|(simp only[r_z,zcv,zcw,zcx,zct]<;>omega)|decide) only[r_r,↓reduceIte,Nat.reduceEqDiff,Nat.reduceAdd,D.fix,Int.reduceToNat,Nat.reduceMul,Nat.reduceBNe,Nat.reduceBEq,zpy,zf6,zbk,z81,zij,zik,zei,zb4,zb5,zi2,zpq]
     show ∃r,closeA _ _=some r∧_
     simp (disch:=first|assumption|omega|(simp only[r_z,zcv,zcw,zcx,zct]<;>omega)|decide) only[r_c,Nat.reduceAdd,D.fix,↓reduceIte,Nat.reduceEqDiff,zpy,zf6,zbk,z81,zij,zik,zei,zb4,zb5]
     refine⟨_,rfl,rw,tw,mw,r1,m1,ts,q1,⟨hwd,hrw,htw,hmw,by omega,fun q hq=>?_,hdR,hdT,hdQ,hdM,fun x hx=>by rw[hrn]at hx;obtain⟨r,hr,rfl⟩:=qat.1 hx;exact hfr.nr r hr,fun x hx=>by rw[hmn]at hx;obtain⟨m,hm,rfl⟩:=qat.1 hx;exact hfr.nm m hm⟩,rfl⟩;have hwk:=zxg hqw hq;obtain⟨x,hx,e⟩:=qat.1 (zcb (l:=qs0.map (·.w)) hwk.1);rw[←hwk.2,←e];exact hfr.qw x hx
end
end Go.Proofs.YtapjobndmmkanaaGreat
