/- The value of an expression, for closures; the next state. -/
import Derived.Test.YtapjobndmmkanaaGreatQr
import Derived.Test.YtapjobndmmkanaaGreatPh
import Derived.Test.YtapjobndmmkanaaGreatPm
set_option linter.unusedVariables false
set_option linter.unusedSimpArgs false
set_option maxRecDepth 100000
set_option maxHeartbeats 4000000
namespace Go.Proofs.YtapjobndmmkanaaGreat
open Go.Proofs.Tryz
open Go Go.RowKit
theorem jvt(p:Pr)(hp0:PrOk p)(q:Bool)(regs:List Nat)(mems:List (List Int))(data:List Nat)(hs:StOk (ctP p) regs data mems)(hrl:regs.length=p.regs.length)(hdl:data.length=p.takes.length)(e:Ex):EvS p q regs mems data e:=by
 have key:∀(m:Nat) (e:Ex),SizeOf.sizeOf e<m→EvS p q regs mems data e:=by
  intro m
  induction m with
  |zero=>intro e h;omega
  |succ m ihm=>
   intro e h hwt
   have:=yeb p hp0 q regs mems data e hs hrl hdl (fun k hk=>ihm _ (by have:=zxm hk;omega)) hwt
   rw[←zeo]at this
   exact this
 exact key _ e (Nat.lt_succ_self _)
theorem ynn{P:Program}{f:FuncId}{ds:List D}{a b:Int}(h:za2 P f ds (.tup [.d (iD a),.d (iD b)])):zji P f ds (.tup [.d (iD a),.d (iD b)]):=by
 refine⟨h.1,fun w O vals hs hx hO=>(h.2 w O vals hs hx hO).mono ?_⟩
 rintro e w' ⟨v,he,hr,hb⟩
 refine⟨v,he,?_,hb⟩
 cases hr with
 |tup _ vs hl hy=>
  refine .tup _ vs hl fun j x hj=>?_
  have hz:=hy j x hj
  rcases j with _|_|j
  ·simp only[List.getElem?_cons_zero,Option.some.injEq]at hj
   subst hj
   generalize vs.getD 0 undef=y at hz ⊢
   cases hz with
   |d _ _ h=>cases h;exact .d _ _ (.val _)
  ·simp only[List.getElem?_cons_succ,List.getElem?_cons_zero,Option.some.injEq]at hj
   subst hj
   generalize vs.getD (0+1) undef=y at hz ⊢
   cases hz with
   |d _ _ h=>cases h;exact .d _ _ (.val _)
  ·simp at hj
theorem jvu{p q:Prop}(hq:q)(h:p=q:=by
 conv=>lhs;simp -dsimp -implicitDefEqProofs (disch:=first|assumption|omega|(simp only[r_z]<;>omega)|decide) only[r_r,↓reduceIte,Nat.reduceEqDiff,Nat.reduceAdd,D.fix,Int.reduceToNat,Nat.reduceMul,Nat.reduceBNe,Nat.reduceBEq,zf3,zar,exS,exR,sD,nS,intssD,zcq,qae]):p:=h.mpr hq
theorem yeh(p:Pr)(q:Bool)(regs:List Nat)(mems:List (List Int))(data:List Nat)(e:Ex)(hwt:WT (ctP p) q e)(h:EvS p q regs mems data e):za2 prog 81 [.agg (exS e),.fp (zf3 p regs mems data) 0] (.d (iD (evE (ctP p) regs data mems e))):=by
 have h:=h hwt
 rw[zeo]at h
 refine zax (fn:=f81) (by kernel_rfl) func81 rfl (qaf rfl) fun c hc hp=>?_
 refine za0 (τ':=frL [(0,.d (.agg (exS e))),(1,.d (.fp (zf3 p regs mems data) 0))]) (by repeat (first|exact zaq _|refine zak ?_ (by first|rfl|(simp[r_f];done)|simp[r_f, *]))) ?_
 refine szq (jvu ·) ?_
 refine zaf hp zah hc rfl fun K2 hK2=>?_
 refine jvu ?_
 refine zbl (h) rfl ?_
 refine jvu ?_
 refine hK2 _ _ ?_
 refine zaf hp zah hc rfl fun K3 hK3=>?_
 simp -dsimp -implicitDefEqProofs (disch:=first|assumption|omega|(simp only[r_z]<;>omega)|decide) only[r_r,↓reduceIte,Nat.reduceEqDiff,Nat.reduceAdd,D.fix,Int.reduceToNat,Nat.reduceMul,Nat.reduceBNe,Nat.reduceBEq,zf3,zar,exS,exR,sD,nS,intssD,zcq]
 refine hK3 _ _ ?_
 refine zaj ?_
 show closeA _ _=_
 simp (disch:=first|assumption|omega|(simp only[r_z]<;>omega)|decide) only[r_c,Nat.reduceAdd,D.fix,↓reduceIte,Nat.reduceEqDiff,zf3,zar,exS,exR,sD,nS,intssD,zcq]
def prS(r:PReg):List D:=[sD r.name,iD r.w,iD r.init,iD (zcz r.next),nS,iD (kEx r.next),nS,iD (wEx r.next),nS,.fs ((zbd r.next).flatMap exC) (zbd r.next).length,iD r.rk,sD r.rf,iD r.rn]
def ptS(t:PTake):List D:=[iD t.chan,iD t.w,iD (zcz t.wh),nS,iD (kEx t.wh),nS,iD (wEx t.wh),nS,.fs ((zbd t.wh).flatMap exC) (zbd t.wh).length]
def pqS(q:PPut):List D:=[iD q.chan,iD q.w,iD (zcz q.wh),nS,iD (kEx q.wh),nS,iD (wEx q.wh),nS,.fs ((zbd q.wh).flatMap exC) (zbd q.wh).length,iD (zcz q.da),nS,iD (kEx q.da),nS,iD (wEx q.da),nS,.fs ((zbd q.da).flatMap exC) (zbd q.da).length]
def pmS(m:PMem):List D:=[sD m.name,iD m.w,iD m.words,iD (zcz m.en),nS,iD (kEx m.en),nS,iD (wEx m.en),nS,.fs ((zbd m.en).flatMap exC) (zbd m.en).length,iD (zcz m.ad),nS,iD (kEx m.ad),nS,iD (wEx m.ad),nS,.fs ((zbd m.ad).flatMap exC) (zbd m.ad).length,iD (zcz m.da),nS,iD (kEx m.da),nS,iD (wEx m.da),nS,.fs ((zbd m.da).flatMap exC) (zbd m.da).length,iD m.rk,sD m.rf,iD m.rn]
section
theorem yei(r:PReg):prC r=prS r:=by unfold prC;rw[zeo];rfl
theorem yej(r:PTake):ptC r=ptS r:=by unfold ptC;rw[zeo];rfl
theorem yek(r:PPut):pqC r=pqS r:=by unfold pqC;rw[zeo,zeo];rfl
theorem yel(r:PMem):pmC r=pmS r:=by unfold pmC;rw[zeo,zeo,zeo];rfl
theorem zda{l:List PReg}{k:Nat}(h:k<l.length):zbz (l.flatMap prC) (k*13) 13=some (prS (nth l k)):=by rw[←yei];exact zgl zpz h
theorem zdm{l:List PTake}{k:Nat}(h:k<l.length):zbz (l.flatMap ptC) (k*9) 9=some (ptS (nth l k)):=by rw[←yej];exact zgl zsb h
theorem zco{l:List PPut}{k:Nat}(h:k<l.length):zbz (l.flatMap pqC) (k*16) 16=some (pqS (nth l k)):=by rw[←yek];exact zgl znh h
theorem zdr{l:List PMem}{k:Nat}(h:k<l.length):zbz (l.flatMap pmC) (k*27) 27=some (pmS (nth l k)):=by rw[←yel];exact zgl zsa h
end
def zcu(l:List Int)(n:Nat):AObj:=.cells (avs ((l++List.replicate (n - l.length) 0).map iD))
theorem zgy{l:List Int}{n k:Nat}(hk:l.length=k)(h:k<n)(v:Int):((l++List.replicate (n - l.length) 0).map iD).set k (iD v)=((l++[v])++List.replicate (n - (l++[v]).length) 0).map iD:=by
 subst hk
 rw[List.map_append,List.set_append_right _ _ (by simp),List.length_map,Nat.sub_self,show n - l.length=(n - (l++[v]).length)+1 by simp;omega,List.replicate_succ,List.map_cons,List.set_cons_zero]
 simp
section
section
variable (p:Pr) (rg:List Nat) (mems:List (List Int)) (data:List Nat)
def nxV(e:Ex):Nat:=evE (ctP p) rg data mems e
def nxR(k:Nat):List Int:=(List.range k).map fun i=>((nxV p rg mems data (nth p.regs i).next:Nat):Int)
def nxW(i:Nat):List Int:=if nxV p rg mems data (nth p.mems i).en=1 then(nth mems i).set (nxV p rg mems data (nth p.mems i).ad % (nth p.mems i).words) ((nxV p rg mems data (nth p.mems i).da:Nat):Int)else nth mems i
def nxM(k:Nat):List (List Int):=(List.range k).map (nxW p rg mems data)
theorem yje(k:Nat):nxR p rg mems data (k+1)=nxR p rg mems data k++[((nxV p rg mems data (nth p.regs k).next:Nat):Int)]:=by unfold nxR;rw[qav,List.map_append];rfl
theorem yen(k:Nat):nxM p rg mems data (k+1)=nxM p rg mems data k++[nxW p rg mems data k]:=by unfold nxM;rw[qav,List.map_append];rfl
theorem zh6(k:Nat):(nxR p rg mems data k).length=k:=by simp[nxR]
theorem zio(k:Nat):(nxM p rg mems data k).length=k:=by simp[nxM]
end
theorem jed{id:Nat}{l:List D}{a b:List AV}:fzVs id l (a++b)=fzVs id l a++fzVs id l b:=by rw[zff,List.map_append,←zff,←zff]
theorem jee{keep:List Nat}{a b:List AV}:gcVs keep (a++b)=gcVs keep a++gcVs keep b:=by rw[zfe,List.map_append,←zfe,←zfe]
def jfv(p:Pr)(rg:List Nat)(mems:List (List Int))(data:List Nat):D:=.clo (.func 81) [] [.fp (zf3 p rg mems data) 0]
theorem zg2{p q:Prop}(hq:q)(h:p=q:=by
 conv=>lhs;simp -dsimp -implicitDefEqProofs (disch:=first|assumption|omega|(simp only[r_z,zbt,zb0,zh6,zio]<;>omega)|decide) only[r_r,↓reduceIte,Nat.reduceEqDiff,Nat.reduceAdd,D.fix,Int.reduceToNat,Nat.reduceMul,Nat.reduceBNe,Nat.reduceBEq,zf3,zar,exS,exR,sD,nS,intssD,zcq,zcu,zda,zpz,prS,zdr,zsa,pmS,jfv,za4,zh6,zio,qae]):p:=h.mpr hq
theorem jxr(k:List Nat){m:List Nat}{τ τ1:Fr}{H H1:zad}(h:Rt m (fun t=>gcV k (τ t)) (gcH k H) τ1 H1)(a:∀i∈m,k[i]? =some i:=by decide)(b:k.Nodup:=by decide)(c:∀i∈k,i<H.length:=by
 simp[fzH,gcH]):Rt m τ H τ1 H1:=Rt.trans (Rt.gc a b c) h
theorem jvv{m:List Nat}{τ τ':Fr}{H H':zad}(h2:H=H')(h:zgk τ τ':=by
 repeat (first|exact zaq _|refine zak ?_ (by first|rfl|(simp[r_f,zbt,zb0,zh6,zio];done)|simp[r_f,zbt,zb0,zh6,zio, *]))):Rt m τ H τ' H':=Rt.end h h2
theorem jod{p q r:Prop}(e:r)(hq:q)(h:r→p=q:=by
 intro hY
 conv=>lhs;simp -dsimp -implicitDefEqProofs (disch:=first|assumption|omega|(simp only[r_z,zbt,zb0,zh6,zio]<;>omega)|decide) only[r_r,↓reduceIte,Nat.reduceEqDiff,Nat.reduceAdd,D.fix,Int.reduceToNat,Nat.reduceMul,Nat.reduceBNe,Nat.reduceBEq,zf3,zar,exS,exR,sD,nS,intssD,zcq,zcu,zda,zpz,prS,zdr,zsa,pmS,jfv,za4,zh6,zio,qae,hY]):p:=(h e).mpr hq
theorem yly{p:Prop}(h:p:=by
 first|rfl|(simp only[r_g,Nat.reduceAdd,↓reduceIte,Nat.reduceEqDiff,zf3,zar,exS,exR,sD,nS,intssD,zcq,zcu,zda,zpz,prS,zdr,zsa,pmS,jfv,za4,zh6,zio];first|done|rfl)):p:=h
theorem yeo{p q:Prop}(hq:q)(h:p=q:=by
 conv=>lhs;simp only[r_g,Nat.reduceAdd,↓reduceIte,Nat.reduceEqDiff,zf3,zar,exS,exR,sD,nS,intssD,zcq,zcu,zda,zpz,prS,zdr,zsa,pmS,jfv,za4,zh6,zio]):p:=h.mpr hq
theorem yep(p:Pr)(hp0:PrOk p)(rg:List Nat)(mems:List (List Int))(data:List Nat)(hs:StOk (ctP p) rg data mems)(hrl:rg.length=p.regs.length)(hdl:data.length=p.takes.length):za2 prog 83 [.agg (zf3 p rg mems data),jfv p rg mems data] (.d (.agg [intsD (nxR p rg mems data p.regs.length),intssD (nxM p rg mems data p.mems.length)])):=by
 have hst:∀e,WT (ctP p) true e→za2 prog 81 [.agg (exS e),.fp (zf3 p rg mems data) 0] (.d (iD (nxV p rg mems data e))):=fun e h=>yeh p true rg mems data e h (jvt p hp0 true rg mems data hs hrl hdl e)
 have hl1:=hp0.rl
 have hl2:=hp0.ct.l
 have hcm:(ctP p).mems.length=p.mems.length:=by simp[ctP]
 have hml:=hs.ml
 refine zax (fn:=f83) (by kernel_rfl) func83 rfl (qaf rfl) fun c hc hp=>?_
 refine za0 (τ':=frL [(0,.d (.agg (zf3 p rg mems data))),(1,.d (jfv p rg mems data))]) (by repeat (first|exact zaq _|refine zak ?_ (by first|rfl|(simp[r_f,zbt,zb0,zh6,zio];done)|simp[r_f,zbt,zb0,zh6,zio, *]))) ?_
 refine szq (zg2 ·) ?_
 refine szq (zg2 ·) ?_
 refine zaa fun K3 hK3=>?_
 refine szq (zg2 ·) ?_
 refine zag ?_
 refine zao hp (fun τ' H' mm=>∃(k:Nat),(k≤p.regs.length)∧mm=p.regs.length - k∧H'=[.cells (avs (zf3 p rg mems data)),.cells [.d (.val (.slice none 0 0)),.d (.val (.slice none 0 0))],.cells [.os 1 3 0 k,.d (.val (.slice none 0 0))],.cells (avs ((nxR p rg mems data k).map iD))]∧τ'=frL [(1,.d (jfv p rg mems data)),(2,.op 0 0),(4,.op 1 0),(5,.op 2 0),(14,.d (.fs (p.regs.flatMap prC) p.regs.length)),(15,.d (iD p.regs.length)),(16,.d (iD k))]) (p.regs.length) ?_ ⟨0,qap _,rfl,rfl,rfl⟩ ?_
 ·refine Rt.trans (Rt.nilc 2 0 1 rfl rfl) ?_
  refine jxr [0,1,2,3] ?_
  refine jvv ?_
  exact yly
 rintro τ' H' mm ⟨k,hk,rfl,rfl,rfl⟩
 refine szq (zg2 ·) ?_
 refine zaa fun K6 hK6=>?_
 refine zan rfl (fun ht=>?_) (fun ht=>?_)
 ·have hlt:k<p.regs.length:=by simp at ht;omega
  refine zai (hK6 _ _ ?_)
  refine zaa fun K7 hK7=>?_
  refine zag ?_
  refine szq (zg2 ·) ?_
  refine zov zah hc mixed rfl (q:=2) (by kernel_rfl) (by kernel_rfl) fun K9 hK9=>?_
  refine zg2 ?_
  refine zut (fi:=[]) (ca:=[.fp (zf3 p rg mems data) 0]) (ds:=[.agg (exS (nth p.regs k).next)]) (hst _ (hp0.rn k hlt).1) rfl ?_
  refine zg2 ?_
  refine hK9 _ _ (hK7 _ _ ?_)
  refine za1 hp zah hc rfl fun K10 hK10=>?_
  refine zg2 ?_
  refine hK10 _ _ ⟨_,_,_,?_,⟨k+1,by omega,rfl,rfl,rfl⟩,?_⟩
  ·first|omega|(simp only[List.length_cons];omega)|(dsimp only;omega)
  ·refine jxr [0,1,2,6] ?_
   refine jvv ?_
   refine yeo ?_;rw[yje];simp[iD]
 ·have hkk:k=p.regs.length:=by simp at ht;omega
  subst hkk
  have tR:zbz ((nxR p rg mems data p.regs.length).map iD) 0 p.regs.length=some ((nxR p rg mems data p.regs.length).map iD):=zba (by simp[zh6])
  refine zau (hK3 _ _ ?_)
  refine zaa fun K11 hK11=>?_
  refine szq (zg2 ·) ?_
  refine zag ?_
  refine zao hp (fun τ' H' mm=>∃(k:Nat),(k≤p.mems.length)∧mm=p.mems.length - k∧H'=[.cells (avs (zf3 p rg mems data)),.cells [.d (.val (.slice none 0 0)),.d (.val (.slice none 0 0))],.cells [.d (intsD (nxR p rg mems data p.regs.length)),.os 1 3 0 k],.cells (avs ((nxM p rg mems data k).map intsD))]∧τ'=frL [(1,.d (jfv p rg mems data)),(2,.op 0 0),(4,.op 1 0),(5,.op 2 0),(32,.d (.fs (p.mems.flatMap pmC) p.mems.length)),(33,.d (iD p.mems.length)),(34,.d (iD k))]) (p.mems.length) ?_ ⟨0,qap _,rfl,rfl,rfl⟩ ?_
  ·refine Rt.trans (Rt.fz (id:=3) (l:=((nxR p rg mems data p.regs.length).map iD)) rfl) ?_
   refine Rt.trans (Rt.heap (H':=[.cells (avs (zf3 p rg mems data)),.cells [.d (.val (.slice none 0 0)),.d (.val (.slice none 0 0))],.cells [.d (intsD (nxR p rg mems data p.regs.length)),.d (.val (.slice none 0 0))],.dead]) (by simp only[r_g,Nat.reduceAdd,↓reduceIte,Nat.reduceEqDiff,zf3,zar,exS,exR,sD,nS,intssD,zcq,zcu,zda,zpz,prS,zdr,zsa,pmS,jfv,za4,zh6,zio,tR];first|done|rfl)) ?_
   refine Rt.trans (Rt.nilc 2 1 1 rfl rfl) ?_
   refine jxr [0,1,2,4] ?_
   refine jvv ?_
   exact yly
  rintro τ' H' mm ⟨k,hk,rfl,rfl,rfl⟩
  refine szq (zg2 ·) ?_
  refine zaa fun K14 hK14=>?_
  refine zan rfl (fun ht=>?_) (fun ht=>?_)
  ·have hlt:k<p.mems.length:=by simp at ht;omega
   have hcw:nth (ctP p).mems k=((nth p.mems k).words,(nth p.mems k).w):=zt4 hlt
   have hwl:=hs.wl k (by omega)
   have hw8:=hp0.ct.m k (by omega)
   rw[hcw]at hwl hw8
   simp only at hwl hw8
   have gm:(mems.map intsD)[k]? =some (intsD (nth mems k)):=za4 (by omega)
   refine zai (hK14 _ _ ?_)
   refine zaa fun K15 hK15=>?_
   refine zag ?_
   refine szq (zg2 ·) ?_
   refine szq (zg2 ·) ?_
   refine zaa fun K18 hK18=>?_
   refine szq (zg2 ·) ?_
   refine zag ?_
   refine zao hp (fun τ' H' mm=>∃(j:Nat),(j≤(nth p.mems k).words)∧mm=(nth p.mems k).words - j∧H'=[.cells (avs (zf3 p rg mems data)),.cells [.d (.val (.slice none 0 0)),.d (.val (.slice none 0 0))],.cells [.d (intsD (nxR p rg mems data p.regs.length)),.os 1 3 0 k],.cells (avs ((nxM p rg mems data k).map intsD)),.cells (avs (pmS (nth p.mems k))),zcu ((nth mems k).take j) (nth p.mems k).words]∧τ'=frL [(1,.d (jfv p rg mems data)),(2,.op 0 0),(4,.op 1 0),(5,.op 2 0),(8,.d (iD k)),(9,.op 4 0),(10,.os 1 5 0 (nth p.mems k).words),(32,.d (.fs (p.mems.flatMap pmC) p.mems.length)),(33,.d (iD p.mems.length)),(34,.d (iD k)),(43,.d (iD (nth p.mems k).words)),(44,.d (iD j))]) ((nth p.mems k).words) ?_ ⟨0,qap _,rfl,rfl,rfl⟩ ?_
   ·refine jvv ?_
    refine yeo ?_;simp[zcu,iD]
   rintro τ' H' mm ⟨j,hj,rfl,rfl,rfl⟩
   refine szq (zg2 ·) ?_
   refine zaa fun K21 hK21=>?_
   refine zan rfl (fun ht=>?_) (fun ht=>?_)
   ·have hjt:j<(nth p.mems k).words:=by simp at ht;omega
    have htl:((nth mems k).take j).length=j:=by rw[List.length_take];omega
    have hst2:=zgy htl hjt (nth (nth mems k) j)
    have htk:=zd0 (l:=nth mems k) (k:=j) (by omega)
    refine zai (hK21 _ _ ?_)
    refine zaa fun K22 hK22=>?_
    refine zag ?_
    refine zaf hp zah hc rfl fun K23 hK23=>?_
    simp -dsimp -implicitDefEqProofs (disch:=first|assumption|omega|(simp only[r_z,zbt,zb0,zh6,zio]<;>omega)|decide) only[r_r,↓reduceIte,Nat.reduceEqDiff,Nat.reduceAdd,D.fix,Int.reduceToNat,Nat.reduceMul,Nat.reduceBNe,Nat.reduceBEq,zf3,zar,exS,exR,sD,nS,intssD,zcq,zcu,zda,zpz,prS,zdr,zsa,pmS,jfv,za4,zh6,zio]
    refine hK23 _ _ ?_
    refine szs (jod gm ·) (hK22 _ _ ?_)
    refine za1 hp zah hc rfl fun K25 hK25=>?_
    refine zg2 ?_
    refine hK25 _ _ ⟨_,_,_,?_,⟨j+1,by omega,rfl,rfl,rfl⟩,?_⟩
    ·first|omega|(simp only[List.length_cons];omega)|(dsimp only;omega)
    ·refine jxr [0,1,2,3,4,5] ?_
     refine jvv ?_
     refine yeo ?_;rw[htk,←hst2,←List.map_set];rfl
   ·have hjj:j=(nth p.mems k).words:=by simp at ht;omega
    subst hjj
    have em:(nth mems k).take (nth p.mems k).words++List.replicate ((nth p.mems k).words - ((nth mems k).take (nth p.mems k).words).length) 0=nth mems k:=by
     rw[qaw (by omega),hwl,Nat.sub_self];simp
    rw[em]
    have hmod:=Nat.mod_lt (nxV p rg mems data (nth p.mems k).ad) (show 0<(nth p.mems k).words by omega)
    have m5:((nxV p rg mems data (nth p.mems k).ad:Nat):Int) % ((nth p.mems k).words:Int)=((nxV p rg mems data (nth p.mems k).ad % (nth p.mems k).words:Nat):Int):=(Int.natCast_emod _ _).symm
    have tk:zbz ((nth mems k).map iD) 0 (nth p.mems k).words=some ((nth mems k).map iD):=zba (by simp[hwl])
    have tk2:zbz (((nth mems k).set (nxV p rg mems data (nth p.mems k).ad % (nth p.mems k).words) ((nxV p rg mems data (nth p.mems k).da:Nat):Int)).map iD) 0 (nth p.mems k).words=some (((nth mems k).set (nxV p rg mems data (nth p.mems k).ad % (nth p.mems k).words) ((nxV p rg mems data (nth p.mems k).da:Nat):Int)).map iD):=zba (by simp[hwl])
    refine zau (hK18 _ _ ?_)
    refine zaa fun K26 hK26=>?_
    refine zaf hp zah hc rfl fun K27 hK27=>?_
    refine zg2 ?_
    refine zut (fi:=[]) (ca:=[.fp (zf3 p rg mems data) 0]) (ds:=[.agg (exS (nth p.mems k).en)]) (hst _ (hp0.me k hlt).1) rfl ?_
    refine zg2 ?_
    refine hK27 _ _ ?_
    refine zan rfl (fun ht=>?_) (fun ht=>?_)
    ·have hen:nxV p rg mems data (nth p.mems k).en=1:=by simp at ht;omega
     have hW:nxW p rg mems data k=(nth mems k).set (nxV p rg mems data (nth p.mems k).ad % (nth p.mems k).words) ((nxV p rg mems data (nth p.mems k).da:Nat):Int):=if_pos hen
     refine zov zah hc mixed rfl (q:=0) (by kernel_rfl) (by kernel_rfl) fun K28 hK28=>?_
     refine jod m5 ?_
     refine zut (fi:=[]) (ca:=[.fp (zf3 p rg mems data) 0]) (ds:=[.agg (exS (nth p.mems k).ad)]) (hst _ (hp0.ma k hlt)) rfl ?_
     refine jod m5 ?_
     refine zut (fi:=[]) (ca:=[.fp (zf3 p rg mems data) 0]) (ds:=[.agg (exS (nth p.mems k).da)]) (hst _ (hp0.md k hlt).1) rfl ?_
     refine jod m5 ?_
     refine hK28 _ _ (hK26 _ _ ?_)
     refine szs (zg2 ·) (hK15 _ _ ?_)
     refine za1 hp zah hc rfl fun K30 hK30=>?_
     refine zg2 ?_
     refine hK30 _ _ ⟨_,_,_,?_,⟨k+1,by omega,rfl,rfl,rfl⟩,?_⟩
     ·first|omega|(simp only[List.length_cons];omega)|(dsimp only;omega)
     ·refine Rt.trans (Rt.fz (id:=5) (l:=(((nth mems k).set (nxV p rg mems data (nth p.mems k).ad % (nth p.mems k).words) ((nxV p rg mems data (nth p.mems k).da:Nat):Int)).map iD)) rfl) ?_
      refine jxr [0,1,2,7] ?_
      refine jvv ?_
      refine yeo ?_;rw[yen,hW];simp[iD,jed,jee,zms,zmr,fzVs,gcVs,←List.map_set,zex (k:=1) (n:=(nth p.mems k).words) (by rw[Nat.mul_one];exact tk2),jtx,gcV,intsD,hwl]<;>simp[avs,intsD,hwl]
    ·have hen:¬nxV p rg mems data (nth p.mems k).en=1:=by simp at ht;omega
     have hW:nxW p rg mems data k=nth mems k:=if_neg hen
     refine zai (hK26 _ _ ?_)
     refine szs (zg2 ·) (hK15 _ _ ?_)
     refine za1 hp zah hc rfl fun K32 hK32=>?_
     refine zg2 ?_
     refine hK32 _ _ ⟨_,_,_,?_,⟨k+1,by omega,rfl,rfl,rfl⟩,?_⟩
     ·first|omega|(simp only[List.length_cons];omega)|(dsimp only;omega)
     ·refine Rt.trans (Rt.fz (id:=5) (l:=((nth mems k).map iD)) rfl) ?_
      refine jxr [0,1,2,7] ?_
      refine jvv ?_
      refine yeo ?_;rw[yen,hW];simp[iD,jed,jee,zms,zmr,fzVs,gcVs,zex (k:=1) (n:=(nth p.mems k).words) (by rw[Nat.mul_one];exact tk),jtx,gcV,intsD,hwl]<;>simp[avs,intsD,hwl]
  ·have hkk:k=p.mems.length:=by simp at ht;omega
   subst hkk
   refine zau (hK11 _ _ ?_)
   refine szq (zg2 ·) ?_
   refine zaj ?_
   try dsimp only[zcg,za5]
   refine za6 rfl ?_
   simp -dsimp -implicitDefEqProofs (disch:=first|assumption|omega|(simp only[r_z,zbt,zb0,zh6,zio]<;>omega)|decide) only[r_r,↓reduceIte,Nat.reduceEqDiff,Nat.reduceAdd,D.fix,Int.reduceToNat,Nat.reduceMul,Nat.reduceBNe,Nat.reduceBEq,zf3,zar,exS,exR,sD,nS,intssD,zcq,zcu,zda,zpz,prS,zdr,zsa,pmS,jfv,za4,zh6,zio,zm3,zm4]
   show closeA _ _=_
   simp (disch:=first|assumption|omega|(simp only[r_z,zbt,zb0,zh6,zio]<;>omega)|decide) only[r_c,Nat.reduceAdd,D.fix,↓reduceIte,Nat.reduceEqDiff,zf3,zar,exS,exR,sD,nS,intssD,zcq,zcu,zda,zpz,prS,zdr,zsa,pmS,jfv,za4,zh6,zio]
end
section
def zr1:List AV:=[.d (oD false),.d (.val (.slice none 0 0)),.d (.val (.slice none 0 0)),.d (.val (.slice none 0 0)),.d (.val (.slice none 0 0))]
def stO(p:Pr)(rg:List Nat)(mems:List (List Int))(data:List Nat):zad:=[.cells (avs (zar p)),.cells (avs [zcq rg,intssD mems]),.cells zr1,.cells (avs ((data.map fun x:Nat=>(x:Int)).map iD)),.cells (avs (zar p++[zcq rg,intssD mems])++[.os 1 3 0 data.length])]
def yjg(S:zad)(v:D)(x:AV)(S':zad):Prop:=∃w:D,w=v∧x= .d v∧S'=S
def zxo{α:Type}(n k:Nat)(f:Nat→α)(z:α):List α:=(List.range n).map fun i=>if i<k then f i else z
section
variable {α:Type} {n k:Nat} {f:Nat→α} {z:α}
theorem js4:zxo n 0 f z=List.replicate n z:=by
 unfold zxo
 apply List.ext_getElem
 ·simp
 ·intro i h1 h2;simp
theorem zxp:zxo n n f z=(List.range n).map f:=by
 unfold zxo
 exact List.map_congr_left fun i hi=>if_pos (qaq.1 hi)
theorem zpc:(zxo n k f z).length=n:=by simp[zxo]
theorem upTo_s:zxo n (k+1) f z=(zxo n k f z).set k (f k):=by
 unfold zxo
 apply List.ext_getElem
 ·simp
 ·intro i h1 h2
  rw[List.getElem_set]
  simp only[List.getElem_map,List.getElem_range]
  by_cases e:k=i
  ·subst e;simp
  ·rw[if_neg e]
   by_cases e2:i<k
   ·rw[if_pos e2,if_pos (by omega)]
   ·rw[if_neg e2,if_neg (by omega)]
theorem jef(h:f k=z):zxo n (k+1) f z=zxo n k f z:=by
 unfold zxo
 refine List.map_congr_left fun i _=>?_
 by_cases e:i=k
 ·subst e;simp[h]
 ·by_cases e2:i<k
  ·rw[if_pos e2,if_pos (by omega)]
  ·rw[if_neg e2,if_neg (by omega)]
theorem joe[Inhabited α]{i:Nat}(h:i<n):nth (zxo n k f z) i=if i<k then f i else z:=by
 unfold zxo nth;simp[qai,h]
end
theorem jvw{p q:Prop}(hq:q)(h:p=q:=by
 conv=>lhs;simp -dsimp -implicitDefEqProofs (disch:=first|assumption|omega|(simp only[r_z]<;>omega)|decide) only[r_r,↓reduceIte,Nat.reduceEqDiff,Nat.reduceAdd,D.fix,Int.reduceToNat,Nat.reduceMul,Nat.reduceBNe,Nat.reduceBEq,stO,zr1,zar,exS,exR,sD,nS,intssD,zcq,List.cons_append,List.nil_append,qae]):p:=h.mpr hq
theorem jkx(p:Pr)(q:Bool)(rg:List Nat)(mems:List (List Int))(data:List Nat)(e:Ex)(hwt:WT (ctP p) q e)(h:EvS p q rg mems data e):ScS prog [0,1,2,3,4] 81 [.agg ((exS e).map .d),.op 4 0] (stO p rg mems data) (yjg (stO p rg mems data) (iD (evE (ctP p) rg data mems e))):=by
 refine zbg (fn:=f81) (by kernel_rfl) func81 rfl (qaf rfl) fun c hc hp=>?_
 refine zdq ?_
 have h:=h hwt
 rw[zeo]at h
 have tD:zbz ((data.map fun x:Nat=>(x:Int)).map iD) 0 data.length=some ((data.map fun x:Nat=>(x:Int)).map iD):=zba (by simp)
 unfold stO zr1
 refine szq (jvw ·) ?_
 refine zaf hp zah hc rfl fun K2 hK2=>?_
 refine jvw ?_
 refine jie ((ynn h)) ?_ ?_
 ·simp (disch:=first|assumption|omega|(simp only[r_z]<;>omega)|decide) only[r_c,Nat.reduceAdd,D.fix,↓reduceIte,Nat.reduceEqDiff,stO,zr1,zar,exS,exR,sD,nS,intssD,zcq,List.cons_append,List.nil_append,zf3,exS,exR,tD]
 refine jvw ?_
 refine hK2 _ _ ?_
 refine zaf hp zah hc rfl fun K3 hK3=>?_
 simp -dsimp -implicitDefEqProofs (disch:=first|assumption|omega|(simp only[r_z]<;>omega)|decide) only[r_r,↓reduceIte,Nat.reduceEqDiff,Nat.reduceAdd,D.fix,Int.reduceToNat,Nat.reduceMul,Nat.reduceBNe,Nat.reduceBEq,stO,zr1,zar,exS,exR,sD,nS,intssD,zcq,List.cons_append,List.nil_append]
 refine hK3 _ _ ?_
 refine zav hp (τ':=frL [(3,.d (iD (evE (ctP p) rg data mems e)))]) (H':=stO p rg mems data) ?_ ?_
 ·refine Rt.trans (Rt.gc (keep:=[0,1,2,3,4]) (by decide) (by decide) (by simp[fzH,gcH])) ?_
  refine Rt.end (by repeat (first|exact zaq _|refine zak ?_ (by first|rfl|(simp[r_f];done)|simp[r_f, *]))) ?_
  first|rfl|(simp only[r_g,Nat.reduceAdd,↓reduceIte,Nat.reduceEqDiff,stO,zr1,zar,exS,exR,sD,nS,intssD,zcq,List.cons_append,List.nil_append];first|done|rfl)
 refine zaj ?_
 refine zap (t:=3) rfl ?_
 show ∃_,_
 exact⟨_,rfl,rfl,rfl⟩
def ziy(p:Pr)(s:PSt)(heads:List Head)(k:Nat):List Nat:=zxo p.takes.length k (zzj p s heads) 0
def zx9(p:Pr)(s:PSt)(k:Nat):List Bool:=zxo p.takes.length k (zjx p s) false
def jxs(p:Pr)(s:PSt)(heads:List Head)(i:Nat):Head:=if zjy p s heads i then⟨true,((evP p s heads (nth p.puts i).da:Nat):Int)⟩else⟨false,0⟩
def jeg(p:Pr)(s:PSt)(heads:List Head)(k:Nat):List Head:=zxo p.puts.length k (jxs p s heads) ⟨false,0⟩
theorem yeq{p:Pr}{s:PSt}{heads:List Head}{rooms:List Bool}(h:StP p s heads rooms):zcq (rgV s)=intsD s.regs:=by
 have e:((rgV s).map fun x:Nat=>(x:Int))=s.regs:=by
  apply List.ext_getElem
  ·simp[rgV]
  ·intro i h1 h2
   have:=(h.rv i (by rw[←h.rl];exact h2)).1
   rw[zdt h2]at this
   simp[rgV,qaz this]
 unfold zcq intsD
 rw[e]
 simp[rgV]
theorem yer{p:Pr}{s:PSt}{heads:List Head}{rooms:List Bool}(h:StP p s heads rooms){i:Nat}(hi:i<p.takes.length):zzj p s heads i<2^(nth p.takes i).w:=by
 have:=h.hv i hi
 unfold zzj
 split
 ·have:(((nth heads i).v.toNat:Nat):Int)<((2^(nth p.takes i).w:Nat):Int):=by rw[qaz this.1];push_cast;exact this.2
  exact_mod_cast this
 ·exact Nat.two_pow_pos _
theorem zzs{p:Pr}{s:PSt}{heads:List Head}{rooms:List Bool}(hp0:PrOk p)(h:StP p s heads rooms)(k:Nat):StOk (ctP p) (rgV s) (ziy p s heads k) s.mems:=by
 have h0:=jnw h
 refine⟨h0.r,fun i hi=>?_,h0.ml,h0.wl,h0.m⟩
 have hil:i<p.takes.length:=by simpa[ctP]using hi
 rw[jui hil]
 unfold ziy
 rw[joe hil]
 split
 ·exact yer h hil
 ·exact Nat.two_pow_pos _
end
section
def jvx(P:Program)(N r:Nat)(al:List Nat)(ρ:Operand→AV)(op:Op)(H:zad)(sh:List (Nat × Nat)):Option (AV × zad × List (Nat × Nat)):=
 match op with
 | .makeSlice t l cp=>(match H[N+r]?,layF P (N+r) ρ (.makeSlice t l cp) H with
  |some .free,some (x,o,none)=>if shB (N+r) sh then some (x,H.set (N+r) o,sh)else none
  |_,_=>none)
 |op=>layEF P N r al ρ op H sh
theorem jvy{P:Program}{ρ:Operand→AV}{op:Op}{H:zad}{N r:Nat}{al:List Nat}{sh sh':List (Nat × Nat)}{x:AV}{H':zad}(h:jvx P N r al ρ op H sh=some (x,H',sh')){KX:AV→zad→List (Nat × Nat)→Prop}(hK:KX x H' sh'):jly P N r al ρ op H sh KX:=by
 cases op with
 |makeSlice t l cp=>
  simp only[jvx]at h
  split at h
  ·rename_i x' o hfree hl
   split at h
   ·rename_i hs
    have hs:=jht hs
    cases h
    simp only[layF]at hl
    split at hl
    ·rename_i s zs b n m hq hn hm
     obtain⟨k1,hn⟩:=zit hn
     obtain⟨k2,hm⟩:=zit hm
     split at hl
     ·rename_i hb
      cases hl
      exact jpi ⟨hfree,hs,(s,zs,b),k1,k2,n,m,hq,hn,hm,hb.1,hb.2.1,hb.2.2.1,hb.2.2.2,hK⟩
     ·cases hl
    ·cases hl
   ·cases h
  ·cases h
 |_=>exact zy1 h hK
def cN(P:Program)(KT:TypeId→Bool)(N r:Nat)(fresh:Bool)(m:List (Nat × Nat))(o:Oper)(ρ:Operand→AV)(H:zad)(sh:List (Nat × Nat))(KK:AV→zad→List (Nat × Nat)→Prop):Prop:=
 match o.op with
 | .makeSlice t l cp=>zx3 (jvx P N r (zyy m o.after.toList) ρ (.makeSlice t l cp) H sh) fun p=>KK p.1 p.2.1 p.2.2
 |_=>cE P KT N r fresh m o ρ H sh KK
theorem yjh{P:Program}{KT:TypeId→Bool}{τ:Fr}{H:zad}(hKT:∀k,KT k=true→Maps.Keyed P k){N r:Nat}{fresh:Bool}{m:List (Nat × Nat)}{o:Oper}{sh:List (Nat × Nat)}{K:AV→zad→List (Nat × Nat)→Prop}(h:cN P KT N r fresh m o (zaw τ) H sh K):zmn P [] N r fresh m o τ H sh K:=by
 unfold cN at h
 split at h
 ·rename_i t l cp e
  obtain⟨⟨x,H',sh'⟩,hl,hK⟩:=h
  have:=jvy hl hK
  unfold zmn
  rw[e]
  exact this
 ·exact jtz hKT h
def sN(P:Program)(KT:TypeId→Bool)(ops:List Oper)(N:Nat):Nat→Nat→List (Nat × Nat)→List Oper→Fr→zad→List (Nat × Nat)→(Fr→zad→List (Nat × Nat)→Prop)→Prop
 |_,_,_,[],τ,H,sh,K=>K τ H sh
 |i,r,m,o::l,τ,H,sh,K=>GK (zc2 ops τ o)
   (cN P KT N r (zev ops o) m o (zaw τ) H sh fun x H' sh'=>sN P KT ops N (i+1) (if lays [] o then r+1 else r) (if lays [] o then(i,r)::m else m) l (τ.put o.dst x) H' sh' K)
   (sN P KT ops N (i+1) (if lays [] o then r+1 else r) (if lays [] o then(i,r)::m else m) l (τ.put o.dst (.d (.val undef))) H sh K)
theorem jvz{P:Program}{KT:TypeId→Bool}{ops:List Oper}(hKT:∀k,KT k=true→Maps.Keyed P k){N:Nat}{K:Fr→zad→List (Nat × Nat)→Prop}:∀{os:List Oper} {i r:Nat} {m:List (Nat × Nat)} {τ:Fr} {H:zad} {sh:List (Nat × Nat)},sN P KT ops N i r m os τ H sh K→jpg P [] ops N i r m os τ H sh K
 |[],_,_,_,_,_,_,h=>h
 |o::os,i,r,m,τ,H,sh,h=>by
  obtain⟨b,hg,ht,hf⟩:=zmq h
  exact⟨b,hg,fun e=>zs7 (fun x H' sh' hh=>jvz hKT hh) (yjh hKT (ht e)),fun e=>jvz hKT (hf e)⟩
theorem zom{P:Program}{KT:TypeId→Bool}{c:Cx}{τ:Fr}{H:zad}{Q:Exit→Fr→zad→Prop}(hKT:∀k,KT k=true→Maps.Keyed P k){id:Nat}{l:List Oper}{y:Code}{n:Nat}(hn:c.nt=n)(hm:P.follows .mixedOrders=true)(hd:zgi n l=true){q:Nat}(hq:l.countP (lays [])=q)(hB:jg5 [] l l.length 0 (Array.replicate l.length false)=true)
  (h:∀K:Fr→zad→Prop,(∀τ H,AWp P c y Q τ H→K τ H)→sN P KT l H.length 0 0 [] l τ (H++List.replicate q .free) [] fun τ' H' sh'=>K τ' (killAll sh' H')):AWp P c (.seq (.region id l.toArray true) y) Q τ H:=
 zv9 (fr:=[]) hn hm hd hq hB fun K hK=>jvz hKT (h K hK)
section
variable {P:Program} {KT:TypeId→Bool} {ops l:List Oper} {τ:Fr} {H:zad} {sh:List (Nat × Nat)} {N i r:Nat} {m:List (Nat × Nat)} {d:Option Tmp} {ty:TypeId} {pos:String} {af:Array Edge} {KD:Fr→zad→List (Nat × Nat)→Prop}
theorem zpd:sN P KT ops N i r m [] τ H sh KD=KD τ H sh:=rfl
theorem zj0{t:TypeId}{y:Operand}:sN P KT ops N i r m (⟨d,.load t y,ty,pos,af,none⟩::l) τ H sh KD=(oK (loadF P N H t (zaw τ y))<|tg fun x=>sN P KT ops N (i+1) r m l (τ.put d x) H sh KD):=rfl
theorem zxq{t:TypeId}{y:Operand}{f:Nat}:sN P KT ops N i r m (⟨d,.fieldAddr t y f,ty,pos,af,none⟩::l) τ H sh KD=(oK (fieldAddrF P t f (zaw τ y))<|tg fun x=>sN P KT ops N (i+1) r m l (τ.put d x) H sh KD):=rfl
theorem zhq{t:TypeId}{ps:Array (Nat × Operand)}:sN P KT ops N i r m (⟨d,.build t ps,ty,pos,af,none⟩::l) τ H sh KD=(oK (buildF P t (ps.toList.map fun p=>(p.1,zaw τ p.2)))<|tg fun x=>sN P KT ops N (i+1) r m l (τ.put d x) H sh KD):=rfl
theorem zf4{y:Operand}:sN P KT ops N i r m (⟨d,.assign y,ty,pos,af,none⟩::l) τ H sh KD=(sN P KT ops N (i+1) r m l (τ.put d (zaw τ y)) H sh KD):=by simp[sN,zc2,GK,cN,cE,kOf,zdp,opF,zea,lays]
theorem zpe{args:Array Operand}{ts:Array TypeId}:sN P KT ops N i r m (⟨d,.call ⟨.builtin .len,args,ts⟩,ty,pos,af,none⟩::l) τ H sh KD=(oK (builtinF P .len ts.toList (args.toList.map (zaw τ)))<|tg fun x=>sN P KT ops N (i+1) r m l (τ.put d x) H sh KD):=rfl
theorem zhr{t:TypeId}:sN P KT ops N i r m (⟨d,.alloc t,ty,pos,af,none⟩::l) τ H sh KD=(oK (layEF P N r (zyy m af.toList) (zaw τ) (.alloc t) H sh)<|tg fun p=>sN P KT ops N (i+1) (r+1) ((i,r)::m) l (τ.put d p.1) p.2.1 p.2.2 KD):=rfl
theorem zj1{t:TypeId}{y z:Operand}:sN P KT ops N i r m (⟨d,.makeSlice t y z,ty,pos,af,none⟩::l) τ H sh KD=(oK (match H[N+r]?,layF P (N+r) (zaw τ) (.makeSlice t y z) H with
  |some .free,some (x,o,none)=>if shB (N+r) sh then some (x,H.set (N+r) o,sh)else none
  |_,_=>none)<|tg fun p=>sN P KT ops N (i+1) (r+1) ((i,r)::m) l (τ.put d p.1) p.2.1 p.2.2 KD):=rfl
theorem zhs{t:TypeId}{y z:Operand}:sN P KT ops N i r m (⟨d,.store t y z,ty,pos,af,none⟩::l) τ H sh KD=(oK (storeF P t (zaw τ y) (zaw τ z) H sh (if zev ops ⟨d,.store t y z,ty,pos,af,none⟩then N else 0))<|tg fun H'=>sN P KT ops N (i+1) r m l (τ.put d (.d (.val undef))) H' sh KD):=rfl
end
end
def zHd:Head:=⟨false,0⟩
def stL(p:Pr)(s:PSt)(data:List Nat)(fires:Bool)(pops:List Bool)(puts:List Head):zad:=
 stO p (rgV s) s.mems data++[.cells (avs (List.replicate p.takes.length (oD false))),.cells (avs ((List.replicate p.puts.length zHd).flatMap zcj)),.cells [.d (oD fires),.d (zcq (rgV s)),.d (intssD s.mems),.os 1 5 0 p.takes.length,.os 2 6 0 p.puts.length],
  .cells (avs (pops.map oD)),.cells (avs (puts.flatMap zcj))]
theorem zh7{p:Nat→Bool}:∀{a b:List AV},AV.allIs p (a++b)=(AV.allIs p a&&AV.allIs p b)
 |[],b=>by simp[AV.allIs]
 |x::a,b=>by rw[List.cons_append,AV.allIs,AV.allIs,zh7,Bool.and_assoc]
theorem zxr{b:Bool}{v:Int}:∀{l:List Head} {k:Nat},k<l.length→((l.flatMap zcj).set (k*2) (oD b)).set (k*2+1) (iD v)=(l.set k ⟨b,v⟩).flatMap zcj
 |[],k,h=>absurd h (Nat.not_lt_zero _)
 |a::l,0,_=>rfl
 |a::l,k+1,h=>by
  have ih:=zxr (b:=b) (v:=v) (l:=l) (k:=k) (by simpa using h)
  rw[List.flatMap_cons,List.set_cons_succ,List.flatMap_cons,←ih,show(k+1)*2=k*2+1+1 by omega]
  rfl
theorem yji(m:Nat):(List.replicate m [AV.d (.val (.bool false)),AV.d (.val (.int .i64 0))]).flatten=avs ((List.replicate m zHd).flatMap zcj):=by
 induction m with
 |zero=>rfl
 |succ m ih=>rw[List.replicate_succ,List.flatten_cons,ih,List.replicate_succ,List.flatMap_cons];rfl
theorem zd7{p q:Prop}(hq:q)(h:p=q:=by
 conv=>lhs;simp -dsimp -implicitDefEqProofs (disch:=first|assumption|omega|(simp only[r_z,zbr,zbs,zat]<;>omega)|decide) only[r_r,↓reduceIte,Nat.reduceEqDiff,Nat.reduceAdd,D.fix,Int.reduceToNat,Nat.reduceMul,Nat.reduceBNe,Nat.reduceBEq,zf3,stL,stO,zr1,zar,sD,nS,intssD,zcq,zdm,zsb,ptS,zco,znh,pqS,List.cons_append,List.nil_append,za9,za4,zlp,zlq,zpd,zj0,zxq,zhq,zf4,zpe,zj1,zhr,zhs,qae]):p:=h.mpr hq
theorem jky{m:List Nat}{τ τ':Fr}{H H':zad}(h2:H=H')(h:zgk τ τ':=by
 repeat (first|exact zaq _|refine zak ?_ (by first|rfl|(simp[r_f,zbr,zbs,zat];done)|simp[r_f,zbr,zbs,zat, *]))):Rt m τ H τ' H':=Rt.end h h2
theorem yjj{P:Program}{sm:List Nat}{N:Nat}{τ:Fr}{H:zad}{f:FuncId}{fi ca args:List AV}{K0 KK:AV→zad→Prop}{ks:List Nat}(S T:zad)(h:ScS P ks f (fi++args++ca) S K0)(hK:∀x S',K0 x S'→S'.length=S.length∧KK x (S'++T))(hH:H=S++T:=by
 rfl) (hm:sm.all (okI ks S.length)=true:=by
 first|rfl|(simp[AV.allIs,AV.allI,zas,zal,zam,okI,ltI,zae,zaz,zh7,stL,stO,zr1,zar,zcq,intssD];done)|(intro o ho;simp at ho;done)) (hτ:∀t,(τ t).allI (okI ks S.length)=true:=by
 exact fun t=>zbi (by first|rfl|(simp[AV.allIs,AV.allI,zas,zal,zam,okI,ltI,zae,zaz,zh7,stL,stO,zr1,zar,zcq,intssD];done)|(intro o ho;simp at ho;done)) t) (ha:AV.allIs (ltI S.length) (fi++args++ca)=true:=by
 first|rfl|(simp[AV.allIs,AV.allI,zas,zal,zam,okI,ltI,zae,zaz,zh7,stL,stO,zr1,zar,zcq,intssD];done)|(intro o ho;simp at ho;done)) (hS:∀o∈S,o.allI (ltI S.length)=true:=by
 first|rfl|(simp[AV.allIs,AV.allI,zas,zal,zam,okI,ltI,zae,zaz,zh7,stL,stO,zr1,zar,zcq,intssD];done)|(intro o ho;simp at ho;done)) (hT:∀o∈T,o.allI (okI ks S.length)=true:=by
 first|rfl|(simp[AV.allIs,AV.allI,zas,zal,zam,okI,ltI,zae,zaz,zh7,stL,stO,zr1,zar,zcq,intssD];done)|(intro o ho;simp at ho;done)):kC P sm N H τ (.clo (.func f) fi ca) args true (tg KK):=zow h hH hm hτ ha hS hT hK
theorem jof(k:List Nat){m:List Nat}{τ τ1:Fr}{H H1:zad}(h:Rt m (fun t=>gcV k (τ t)) (gcH k H) τ1 H1)(a:∀i∈m,k[i]? =some i:=by decide)(b:k.Nodup:=by decide)(c:∀i∈k,i<H.length:=by
 simp[fzH,gcH]):Rt m τ H τ1 H1:=Rt.trans (Rt.gc a b c) h
theorem jfw{p q r:Prop}(e:r)(hq:q)(h:r→p=q:=by
 intro hY
 conv=>lhs;simp -dsimp -implicitDefEqProofs (disch:=first|assumption|omega|(simp only[r_z,zbr,zbs,zat]<;>omega)|decide) only[r_r,↓reduceIte,Nat.reduceEqDiff,Nat.reduceAdd,D.fix,Int.reduceToNat,Nat.reduceMul,Nat.reduceBNe,Nat.reduceBEq,zf3,stL,stO,zr1,zar,sD,nS,intssD,zcq,zdm,zsb,ptS,zco,znh,pqS,List.cons_append,List.nil_append,za9,za4,zlp,zlq,zpd,zj0,zxq,zhq,zf4,zpe,zj1,zhr,zhs,qae,hY]):p:=(h e).mpr hq
theorem yeu{p q:Prop}(hq:q)(h:p=q:=by
 conv=>lhs;simp -dsimp -implicitDefEqProofs (disch:=first|assumption|omega|(simp only[r_z,zbr,zbs,zat]<;>omega)|decide) only[r_r,↓reduceIte,Nat.reduceEqDiff,Nat.reduceAdd,D.fix,Int.reduceToNat,Nat.reduceMul,Nat.reduceBNe,Nat.reduceBEq,zf3,stL,stO,zr1,zar,sD,nS,intssD,zcq,zdm,zsb,ptS,zco,znh,pqS,List.cons_append,List.nil_append,za9,za4,zlp,zlq,zpd,zj0,zxq,zhq,zf4,zpe,zj1,zhr,zhs,zn8,zrq]):p:=h.mpr hq
theorem jl5{p q:Prop}(hq:q)(h:p=q:=by
 conv=>lhs;simp only[r_g,Nat.reduceAdd,↓reduceIte,Nat.reduceEqDiff,zf3,stL,stO,zr1,zar,sD,nS,intssD,zcq,zdm,zsb,ptS,zco,znh,pqS,List.cons_append,List.nil_append,za9,za4,zlp,zlq,zpd,zj0,zxq,zhq,zf4,zpe,zj1,zhr,zhs]):p:=h.mpr hq
theorem ylz{p q:Prop}(hq:q)(h:p=q:=by
 conv=>lhs;simp (disch:=first|assumption|omega|(simp only[r_z,zbr,zbs,zat]<;>omega)|decide) only[r_c,Nat.reduceAdd,D.fix,↓reduceIte,Nat.reduceEqDiff,zf3,stL,stO,zr1,zar,sD,nS,intssD,zcq,zdm,zsb,ptS,zco,znh,pqS,List.cons_append,List.nil_append,za9,za4,zlp,zlq,zpd,zj0,zxq,zhq,zf4,zpe,zj1,zhr,zhs]):p:=h.mpr hq
theorem yev(p:Pr)(hp0:PrOk p)(s:PSt)(heads:List Head)(rooms:List Bool)(h:StP p s heads rooms):za2 prog 27 [.agg (zar p),.agg [zcq (rgV s),intssD s.mems],za9 heads,boolsD rooms] (.d (.agg (zgz (zh4 p s heads rooms)))):=by
 have hl1:=hp0.tl
 have hl2:=hp0.ql
 have hhl:=h.hl
 have hol:=h.ol
 refine zax (fn:=f27) (by kernel_rfl) func27 rfl (qaf rfl) fun c hc hp=>?_
 refine za0 (τ':=frL [(0,.d (.agg (zar p))),(1,.d (.agg [zcq (rgV s),intssD s.mems])),(2,.d (za9 heads)),(3,.d (boolsD rooms))]) (by repeat (first|exact zaq _|refine zak ?_ (by first|rfl|(simp[r_f,zbr,zbs,zat];done)|simp[r_f,zbr,zbs,zat, *]))) ?_
 refine szq (zd7 ·) ?_
 refine zom zah hc mixed rfl (q:=2) (by kernel_rfl) (by kernel_rfl) fun K2 hK2=>?_
 refine zd7 ?_
 refine hK2 _ _ ?_
 refine zaf hp zah hc rfl fun K3 hK3=>?_
 simp -dsimp -implicitDefEqProofs (disch:=first|assumption|omega|(simp only[r_z,zbr,zbs,zat]<;>omega)|decide) only[r_r,↓reduceIte,Nat.reduceEqDiff,Nat.reduceAdd,D.fix,Int.reduceToNat,Nat.reduceMul,Nat.reduceBNe,Nat.reduceBEq,zf3,stL,stO,zr1,zar,sD,nS,intssD,zcq,zdm,zsb,ptS,zco,znh,pqS,List.cons_append,List.nil_append,za9,za4,zlp,zlq,zpd,zj0,zxq,zhq,zf4,zpe,zj1,zhr,zhs]
 refine hK3 _ _ ?_
 refine zom zah hc mixed rfl (q:=3) (by kernel_rfl) (by kernel_rfl) fun K4 hK4=>?_
 refine zd7 ?_
 refine hK4 _ _ ?_
 refine zom zah hc mixed rfl (q:=2) (by kernel_rfl) (by kernel_rfl) fun K5 hK5=>?_
 refine zd7 ?_
 refine hK5 _ _ ?_
 refine zaa fun K6 hK6=>?_
 refine szq (zd7 ·) ?_
 refine zag ?_
 refine zao hp (fun τ' H' mm=>∃(k:Nat),(k≤p.takes.length)∧mm=p.takes.length - k∧H'=stL p s (ziy p s heads k) (fTv p s heads k) (zx9 p s k) (List.replicate p.puts.length zHd)∧τ'=frL [(2,.d (za9 heads)),(3,.d (boolsD rooms)),(4,.op 0 0),(5,.op 1 0),(8,.op 2 0),(9,.op 4 0),(10,.clo (.func 81) [] [.op 4 0]),(11,.op 7 0),(12,.os 1 8 0 p.takes.length),(13,.os 2 9 0 p.puts.length),(46,.d (.fs (p.takes.flatMap ptC) p.takes.length)),(47,.d (iD p.takes.length)),(48,.d (iD k))]) (p.takes.length) ?_ ⟨0,qap _,rfl,rfl,rfl⟩ ?_
 ·refine jky ?_
  refine jl5 ?_;simp[stL,stO,ziy,zx9,js4,zpc,zr1,iD,oD,fTv,yji,avs]
 rintro τ' H' mm ⟨k,hk,rfl,rfl,rfl⟩
 refine szq (zd7 ·) ?_
 refine zaa fun K9 hK9=>?_
 refine zan rfl (fun ht=>?_) (fun ht=>?_)
 ·have hlt:k<p.takes.length:=by simp at ht;omega
  have hpl:(zx9 p s k).length=p.takes.length:=zpc
  have hdl:(ziy p s heads k).length=p.takes.length:=zpc
  have ev:=jvt p hp0 false (rgV s) s.mems (ziy p s heads k) (zzs hp0 h k) (by simp[rgV,h.rl]) hdl (nth p.takes k).wh
  have hfr:evE (ctP p) (rgV s) (ziy p s heads k) s.mems (nth p.takes k).wh=evE (ctP p) (rgV s) [] s.mems (nth p.takes k).wh:=zcl _ (hp0.tw k hlt).1
  refine zai (hK9 _ _ ?_)
  refine zaa fun K10 hK10=>?_
  refine zag ?_
  refine szq (zd7 ·) ?_
  refine zaa fun K12 hK12=>?_
  refine zaf hp zah hc rfl fun K13 hK13=>?_
  refine zd7 ?_
  refine yjj (stO p (rgV s) s.mems (ziy p s heads k)) ([.cells (avs (List.replicate p.takes.length (oD false))),.cells (avs ((List.replicate p.puts.length zHd).flatMap zcj)),.cells [.d (oD (fTv p s heads k)),.d (zcq (rgV s)),.d (intssD s.mems),.os 1 5 0 p.takes.length,.os 2 6 0 p.puts.length],.cells (avs ((zx9 p s k).map oD)),.cells (avs ((List.replicate p.puts.length zHd).flatMap zcj)),.cells (avs (ptS (nth p.takes k)))]) ((jkx p false (rgV s) s.mems (ziy p s heads k) _ (hp0.tw k hlt).1 ev)) ?_
  rintro _ _ ⟨_,rfl,rfl,rfl⟩
  refine⟨rfl,?_⟩
  refine zd7 ?_
  refine hK13 _ _ ?_
  refine zan rfl (fun ht=>?_) (fun ht=>?_)
  ·have hdue:zjx p s k=false:=decide_eq_false (by rw[←hfr];intro e;rw[e]at ht;simp at ht)
   have hD:ziy p s heads (k+1)=ziy p s heads k:=jef (by simp[zzj,hdue])
   have hP:zx9 p s (k+1)=zx9 p s k:=jef hdue
   have hF:fTv p s heads (k+1)=fTv p s heads k:=by rw[fTv,hdue];simp
   refine zau (hK10 _ _ ?_)
   refine za1 hp zah hc rfl fun K14 hK14=>?_
   refine zd7 ?_
   refine hK14 _ _ ⟨_,_,_,?_,⟨k+1,by omega,rfl,rfl,rfl⟩,?_⟩
   ·first|omega|(simp only[List.length_cons];omega)|(dsimp only;omega)
   ·refine jof [0,1,2,3,4,5,6,7,8,9] ?_
    refine jky ?_
    refine jl5 ?_;simp[hD,hP,hF,iD,oD]
  ·have hdue:zjx p s k=true:=decide_eq_true (by rw[←hfr];simp at ht;omega)
   have hP:zx9 p s (k+1)=(zx9 p s k).set k true:=by rw[←hdue];exact upTo_s
   refine zai (hK12 _ _ ?_)
   refine szq (zd7 ·) ?_
   refine zaa fun K16 hK16=>?_
   refine szq (zd7 ·) ?_
   refine zan rfl (fun ht=>?_) (fun ht=>?_)
   ·have hH:(nth heads k).has=true:=ht
    have hhv:=(h.hv k hlt).1
    have hV:((zzj p s heads k:Nat):Int)=(nth heads k).v:=by unfold zzj;rw[hdue,hH];simp[qaz hhv]
    have hD:(ziy p s heads (k+1)).map (fun x:Nat=>(x:Int))=((ziy p s heads k).map fun x:Nat=>(x:Int)).set k (nth heads k).v:=by
     rw[show ziy p s heads (k+1)=(ziy p s heads k).set k (zzj p s heads k) from upTo_s,List.map_set,hV]
    have hDl:(ziy p s heads (k+1)).length=p.takes.length:=zpc
    have hF:fTv p s heads (k+1)=fTv p s heads k:=by rw[fTv,hdue,hH];simp
    refine zov zah hc mixed rfl (q:=0) (by kernel_rfl) (by kernel_rfl) fun K18 hK18=>?_
    refine zd7 ?_
    refine hK18 _ _ (hK16 _ _ ?_)
    refine za1 hp zah hc rfl fun K19 hK19=>?_
    rcases tf (fTv p s heads k)with q|q
    ·refine jfw (sza q hH) ?_
     refine hK19 _ _ (hK10 _ _ ?_)
     refine za1 hp zah hc rfl fun K20 hK20=>?_
     refine zd7 ?_
     refine hK20 _ _ ⟨_,_,_,?_,⟨k+1,by omega,rfl,rfl,rfl⟩,?_⟩
     ·first|omega|(simp only[List.length_cons];omega)|(dsimp only;omega)
     ·refine jof [0,1,2,3,4,5,6,7,8,9] ?_
      refine jky ?_
      refine jl5 ?_;simp[hD,hDl,hdl,hP,hF,q,iD,oD]
    ·refine jfw (sza q hH) ?_
     refine hK19 _ _ (hK10 _ _ ?_)
     refine za1 hp zah hc rfl fun K21 hK21=>?_
     refine zd7 ?_
     refine hK21 _ _ ⟨_,_,_,?_,⟨k+1,by omega,rfl,rfl,rfl⟩,?_⟩
     ·first|omega|(simp only[List.length_cons];omega)|(dsimp only;omega)
     ·refine jof [0,1,2,3,4,5,6,7,8,9] ?_
      refine jky ?_
      refine jl5 ?_;simp[hD,hDl,hdl,hP,hF,q,iD,oD]
   ·have hH:(nth heads k).has=false:=ht
    have hD:ziy p s heads (k+1)=ziy p s heads k:=jef (by simp[zzj,hH])
    have hF:fTv p s heads (k+1)=false:=by rw[fTv,hdue,hH];simp
    refine zai (hK16 _ _ ?_)
    refine za1 hp zah hc rfl fun K22 hK22=>?_
    rcases tf (fTv p s heads k)with q|q
    ·refine jfw (sza q hH) ?_
     refine hK22 _ _ (hK10 _ _ ?_)
     refine za1 hp zah hc rfl fun K23 hK23=>?_
     refine zd7 ?_
     refine hK23 _ _ ⟨_,_,_,?_,⟨k+1,by omega,rfl,rfl,rfl⟩,?_⟩
     ·first|omega|(simp only[List.length_cons];omega)|(dsimp only;omega)
     ·refine jof [0,1,2,3,4,5,6,7,8,9] ?_
      refine jky ?_
      refine jl5 ?_;simp[hD,hP,hF,q,iD,oD]
    ·refine jfw (sza q hH) ?_
     refine hK22 _ _ (hK10 _ _ ?_)
     refine za1 hp zah hc rfl fun K24 hK24=>?_
     refine zd7 ?_
     refine hK24 _ _ ⟨_,_,_,?_,⟨k+1,by omega,rfl,rfl,rfl⟩,?_⟩
     ·first|omega|(simp only[List.length_cons];omega)|(dsimp only;omega)
     ·refine jof [0,1,2,3,4,5,6,7,8,9] ?_
      refine jky ?_
      refine jl5 ?_;simp[hD,hP,hF,q,iD,oD]
 ·have hkk:k=p.takes.length:=by simp at ht;omega
  subst hkk
  have hdn:ziy p s heads p.takes.length=yc4 p s heads:=zxp
  have hdl:(ziy p s heads p.takes.length).length=p.takes.length:=zpc
  refine zau (hK6 _ _ ?_)
  refine zaa fun K25 hK25=>?_
  refine szq (zd7 ·) ?_
  refine zag ?_
  refine zao hp (fun τ' H' mm=>∃(j:Nat),(j≤p.puts.length)∧mm=p.puts.length - j∧H'=stL p s (ziy p s heads p.takes.length) (fQv p s heads rooms j) (zx9 p s p.takes.length) (jeg p s heads j)∧τ'=frL [(3,.d (boolsD rooms)),(4,.op 0 0),(5,.op 1 0),(8,.op 2 0),(9,.op 4 0),(10,.clo (.func 81) [] [.op 4 0]),(11,.op 7 0),(12,.os 1 8 0 p.takes.length),(13,.os 2 9 0 p.puts.length),(88,.d (.fs (p.puts.flatMap pqC) p.puts.length)),(89,.d (iD p.puts.length)),(90,.d (iD j))]) (p.puts.length) ?_ ⟨0,qap _,rfl,rfl,rfl⟩ ?_
  ·refine jky ?_
   refine jl5 ?_;simp[stL,stO,jeg,js4,zr1,iD,oD,fQv,zHd]
  rintro τ' H' mm ⟨j,hj,rfl,rfl,rfl⟩
  refine szq (zd7 ·) ?_
  refine zaa fun K28 hK28=>?_
  refine zan rfl (fun ht=>?_) (fun ht=>?_)
  ·have hjt:j<p.puts.length:=by simp at ht;omega
   have hql:(jeg p s heads j).length=p.puts.length:=zpc
   have ev:∀e,EvS p true (rgV s) s.mems (ziy p s heads p.takes.length) e:=jvt p hp0 true (rgV s) s.mems (ziy p s heads p.takes.length) (zzs hp0 h _) (by simp[rgV,h.rl]) hdl
   refine zai (hK28 _ _ ?_)
   refine zaa fun K29 hK29=>?_
   refine zag ?_
   refine szq (zd7 ·) ?_
   refine zaa fun K31 hK31=>?_
   refine zaf hp zah hc rfl fun K32 hK32=>?_
   refine zd7 ?_
   refine yjj (stO p (rgV s) s.mems (ziy p s heads p.takes.length)) ([.cells (avs (List.replicate p.takes.length (oD false))),.cells (avs ((List.replicate p.puts.length zHd).flatMap zcj)),.cells [.d (oD (fQv p s heads rooms j)),.d (zcq (rgV s)),.d (intssD s.mems),.os 1 5 0 p.takes.length,.os 2 6 0 p.puts.length],.cells (avs ((zx9 p s p.takes.length).map oD)),.cells (avs ((jeg p s heads j).flatMap zcj)),.cells (avs (pqS (nth p.puts j)))]) ((jkx p true (rgV s) s.mems (ziy p s heads p.takes.length) _ (hp0.qw j hjt).1 (ev _))) ?_
   rintro _ _ ⟨_,rfl,rfl,rfl⟩
   refine⟨rfl,?_⟩
   refine zd7 ?_
   refine hK32 _ _ ?_
   refine zan rfl (fun ht=>?_) (fun ht=>?_)
   ·have hdq:zjy p s heads j=false:=decide_eq_false (by rw[evP,←hdn];intro e;rw[e]at ht;simp at ht)
    have hQ:jeg p s heads (j+1)=jeg p s heads j:=jef (by simp[jxs,hdq])
    have hF:fQv p s heads rooms (j+1)=fQv p s heads rooms j:=by rw[fQv,hdq];simp
    refine zau (hK29 _ _ ?_)
    refine za1 hp zah hc rfl fun K33 hK33=>?_
    refine zd7 ?_
    refine hK33 _ _ ⟨_,_,_,?_,⟨j+1,by omega,rfl,rfl,rfl⟩,?_⟩
    ·first|omega|(simp only[List.length_cons];omega)|(dsimp only;omega)
    ·refine jof [0,1,2,3,4,5,6,7,8,9] ?_
     refine jky ?_
     refine jl5 ?_;simp[hQ,hF,iD,oD]
   ·have hdq:zjy p s heads j=true:=decide_eq_true (by rw[evP,←hdn];simp at ht;omega)
    have hpv:jxs p s heads j=⟨true,((evE (ctP p) (rgV s) (ziy p s heads p.takes.length) s.mems (nth p.puts j).da:Nat):Int)⟩:=by unfold jxs;rw[hdq,evP,hdn];rfl
    have hset:(((jeg p s heads j).flatMap zcj).set (j*2) (oD true)).set (j*2+1) (iD ((evE (ctP p) (rgV s) (ziy p s heads p.takes.length) s.mems (nth p.puts j).da:Nat):Int))=(jeg p s heads (j+1)).flatMap zcj:=by
     rw[zxr (by omega),←hpv];exact congrArg _ upTo_s.symm
    simp only[oD,iD]at hset
    have hF:fQv p s heads rooms (j+1)=(fQv p s heads rooms j&&nth rooms j):=by rw[fQv,hdq];simp
    refine zai (hK31 _ _ ?_)
    refine zaf hp zah hc rfl fun K34 hK34=>?_
    refine zd7 ?_
    refine yjj (stO p (rgV s) s.mems (ziy p s heads p.takes.length)) ([.cells (avs (List.replicate p.takes.length (oD false))),.cells (avs ((List.replicate p.puts.length zHd).flatMap zcj)),.cells [.d (oD (fQv p s heads rooms j)),.d (zcq (rgV s)),.d (intssD s.mems),.os 1 5 0 p.takes.length,.os 2 6 0 p.puts.length],.cells (avs ((zx9 p s p.takes.length).map oD)),.cells (avs ((jeg p s heads j).flatMap zcj)),.cells (avs (pqS (nth p.puts j)))]) ((jkx p true (rgV s) s.mems (ziy p s heads p.takes.length) _ (hp0.qd j hjt).1 (ev _))) ?_
    rintro _ _ ⟨_,rfl,rfl,rfl⟩
    refine⟨rfl,?_⟩
    refine zd7 ?_
    refine hK34 _ _ ?_
    refine za1 hp zah hc rfl fun K35 hK35=>?_
    rcases tf (fQv p s heads rooms j)with q|q
    ·refine jfw q ?_
     refine hK35 _ _ (hK29 _ _ ?_)
     refine za1 hp zah hc rfl fun K36 hK36=>?_
     refine zd7 ?_
     refine hK36 _ _ ⟨_,_,_,?_,⟨j+1,by omega,rfl,rfl,rfl⟩,?_⟩
     ·first|omega|(simp only[List.length_cons];omega)|(dsimp only;omega)
     ·refine jof [0,1,2,3,4,5,6,7,8,9] ?_
      refine jky ?_
      refine jl5 ?_;simp[hset,hF,q,iD,oD]
    ·refine jfw q ?_
     refine hK35 _ _ (hK29 _ _ ?_)
     refine za1 hp zah hc rfl fun K37 hK37=>?_
     refine zd7 ?_
     refine hK37 _ _ ⟨_,_,_,?_,⟨j+1,by omega,rfl,rfl,rfl⟩,?_⟩
     ·first|omega|(simp only[List.length_cons];omega)|(dsimp only;omega)
     ·refine jof [0,1,2,3,4,5,6,7,8,9] ?_
      refine jky ?_
      refine jl5 ?_;simp[hset,hF,q,iD,oD]
  ·have hjj:j=p.puts.length:=by simp at ht;omega
   subst hjj
   have hpl:(zx9 p s p.takes.length).length=p.takes.length:=zpc
   have hql:(jeg p s heads p.puts.length).length=p.puts.length:=zpc
   have tDD:zbz (((ziy p s heads p.takes.length).map fun x:Nat=>(x:Int)).map iD) 0 (ziy p s heads p.takes.length).length=some (((ziy p s heads p.takes.length).map fun x:Nat=>(x:Int)).map iD):=zba (by simp)
   have hrg:=yeq h
   simp only[zcq,intsD]at hrg
   refine zau (hK25 _ _ ?_)
   refine zaa fun K38 hK38=>?_
   refine szq (zd7 ·) ?_
   refine zan rfl (fun ht=>?_) (fun ht=>?_)
   ·refine szq (zd7 ·) ?_
    refine zaj ?_
    try dsimp only[zcg,za5]
    refine za6 rfl ?_
    refine yeu ?_
    show closeA _ _=_
    refine ylz ?_
    first
    |(have e1:zd6 p s heads rooms=false:=(by(have:=ht;simpa[zd6]using this));rw[zh4,e1];simp[zgz,zk4,boolsD,intsD,intssD,za9,oD,D.fix,zHd,show fQv p s heads rooms p.puts.length=false from e1];simpa using hrg)
    |(have e1:zd6 p s heads rooms=true:=(by(have:=ht;simpa[zd6]using this));have eP:zx9 p s p.takes.length=(List.range p.takes.length).map (fun i=>zjx p s i):=zxp;have eQ:jeg p s heads p.puts.length=(List.range p.puts.length).map (jxs p s heads):=zxp;rw[zh4,if_pos e1,eP,eQ,hdn];simp only[zgz,zk4,boolsD,intsD,intssD,za9,show fQv p s heads rooms p.puts.length=true from e1,List.length_map,List.length_range,zh6,zio];rfl)
   ·refine zai (hK38 _ _ ?_)
    refine szq (zd7 ·) ?_
    refine zav hp (τ':=frL [(8,.op 0 0),(9,.d (.fp (zf3 p (rgV s) s.mems (ziy p s heads p.takes.length)) 0)),(10,.clo (.func 81) [] [.d (.fp (zf3 p (rgV s) s.mems (ziy p s heads p.takes.length)) 0)]),(11,.op 1 0)]) (H':=[.cells zr1,.cells [.d (oD (fQv p s heads rooms p.puts.length)),.d (zcq (rgV s)),.d (intssD s.mems),.os 1 2 0 p.takes.length,.os 2 3 0 p.puts.length],.cells (avs ((zx9 p s p.takes.length).map oD)),.cells (avs ((jeg p s heads p.puts.length).flatMap zcj))]) ?_ ?_
    ·refine Rt.trans (Rt.fz (id:=3) (l:=(((ziy p s heads p.takes.length).map fun x:Nat=>(x:Int)).map iD)) rfl) ?_
     refine Rt.trans (Rt.heap (H':=[.cells (avs (zar p)),.cells (avs [zcq (rgV s),intssD s.mems]),.cells zr1,.dead,.cells (avs (zf3 p (rgV s) s.mems (ziy p s heads p.takes.length))),.cells (avs (List.replicate p.takes.length (oD false))),.cells (avs ((List.replicate p.puts.length zHd).flatMap zcj)),.cells [.d (oD (fQv p s heads rooms p.puts.length)),.d (zcq (rgV s)),.d (intssD s.mems),.os 1 8 0 p.takes.length,.os 2 9 0 p.puts.length],.cells (avs ((zx9 p s p.takes.length).map oD)),.cells (avs ((jeg p s heads p.puts.length).flatMap zcj))]) (by simp only[r_g,Nat.reduceAdd,↓reduceIte,Nat.reduceEqDiff,zf3,stL,stO,zr1,zar,sD,nS,intssD,zcq,zdm,zsb,ptS,zco,znh,pqS,List.cons_append,List.nil_append,za9,za4,zlp,zlq,zpd,zj0,zxq,zhq,zf4,zpe,zj1,zhr,zhs,zf3,tDD];first|done|rfl)) ?_
     refine Rt.trans (Rt.fz (id:=4) (l:=(zf3 p (rgV s) s.mems (ziy p s heads p.takes.length))) rfl) ?_
     refine jof [2,7,8,9] ?_
     refine jky ?_
     first|rfl|(simp only[r_g,Nat.reduceAdd,↓reduceIte,Nat.reduceEqDiff,zf3,stL,stO,zr1,zar,sD,nS,intssD,zcq,zdm,zsb,ptS,zco,znh,pqS,List.cons_append,List.nil_append,za9,za4,zlp,zlq,zpd,zj0,zxq,zhq,zf4,zpe,zj1,zhr,zhs];first|done|rfl)
    refine zaf hp zah hc rfl fun K42 hK42=>?_
    refine zd7 ?_
    refine zbl (yep p hp0 (rgV s) s.mems (ziy p s heads p.takes.length) (zzs hp0 h _) (by simp[rgV,h.rl]) hdl) rfl ?_
    refine zd7 ?_
    refine hK42 _ _ ?_
    refine szq (zd7 ·) ?_
    refine zaj ?_
    try dsimp only[zcg,za5]
    refine za6 rfl ?_
    refine yeu ?_
    show closeA _ _=_
    refine ylz ?_
    first
    |(have e1:zd6 p s heads rooms=false:=(by(have:=ht;simpa[zd6]using this));rw[zh4,e1];simp[zgz,zk4,boolsD,intsD,intssD,za9,oD,D.fix,zHd,show fQv p s heads rooms p.puts.length=false from e1];simpa using hrg)
    |(have e1:zd6 p s heads rooms=true:=(by(have:=ht;simpa[zd6]using this));have eP:zx9 p s p.takes.length=(List.range p.takes.length).map (fun i=>zjx p s i):=zxp;have eQ:jeg p s heads p.puts.length=(List.range p.puts.length).map (jxs p s heads):=zxp;rw[zh4,if_pos e1,eP,eQ,hdn];simp only[zgz,zk4,boolsD,intsD,intssD,za9,show fQv p s heads rooms p.puts.length=true from e1,List.length_map,List.length_range,zh6,zio];rfl)
end Go.Proofs.YtapjobndmmkanaaGreat
