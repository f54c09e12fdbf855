/- Order: walked. -/
import Derived.Test.YtfolbdkbpmgjgaaQr
import Derived.Test.YtfolbdkbpmgjgaaKl
set_option linter.unusedVariables false
set_option linter.unusedSimpArgs false
set_option maxRecDepth 100000
set_option maxHeartbeats 4000000
namespace Go.Proofs.Ytfolbdkbpmgjgaa
open Go Go.RowKit
theorem zlf:((((type_of% @zc5)∧((type_of% @zc6)∧(type_of% @zdg)))∧((type_of% @zdv)∧((type_of% @zg1)∧(type_of% @zg2))))∧(((type_of% @zit)∧((type_of% @zji)∧(type_of% @zg5)))∧(((type_of% @zeo)∧(type_of% @zfj))∧((type_of% @zd4)∧(type_of% @zda))))):=⟨⟨⟨@zc5,⟨@zc6,@zdg⟩⟩,⟨@zdv,⟨@zg1,@zg2⟩⟩⟩,⟨⟨@zit,⟨@zji,@zg5⟩⟩,⟨⟨@zeo,@zfj⟩,⟨@zd4,@zda⟩⟩⟩⟩
theorem ji2{P:Program}{c:Cx}{x:Code}{Q:Exit→Fr→zaa→Prop}{τ:Fr}{H:zaa}(t:Nat)(ht:τ t= .d (.fs [] 0))
  (h:∀(a:Option Addr) (cap:Nat),cap≤maxLen→(a=none→cap=0)→AWp P c x Q (τ.put (some t) (.d (.val (.slice a 0 cap)))) H):AWp P c x Q τ H:=fun ac w hR=>by
 obtain⟨pl,hS⟩:=hR
 have h1:=hS.fr t
 rw[ht]at h1
 have key:∀a cap,ac.tmps.getD t undef= .slice a 0 cap→R c (τ.put (some t) (.d (.val (.slice a 0 cap)))) H [] ac w:=fun a cap e=>
  ⟨pl,hS.h,hS.stp,hS.own0,hS.ext,fun t'=>by
   by_cases ht':t'=t
   ·subst ht'
    rw[e]
    simp only[Fr.put,if_pos]
    exact .d _ _ (.val _)
   ·simp only[Fr.put,if_neg ht']
    exact hS.fr t',hS.size,hS.defs,hS.keep⟩
 cases h1 with
 |d _ _ h1=>
  generalize hv:ac.tmps.getD t undef=v at h1
  cases h1 with
  |f0 a cap hm hn=>exact h a cap hm hn ac w (key a cap hv)
  |fs _ _ cap b off f hb ho hn hm hc h1 hx=>exact h _ cap hm (fun e=>by cases e) ac w (key _ cap hv)
theorem zy4{P:Program}{t:TypeId}(h:zfc P t=true){a:Option Addr}{n c n' c':Nat}:zf8 P .eql t (.slice a n c) (.slice none n' c')=some (.bool a.isNone):=by simp[zf8,h]
theorem Imp.f0{a:Option Addr}{cap:Nat}(hm:cap≤maxLen)(hn:a=none→cap=0):Imp (.d (.val (.slice a 0 cap))) (.d (.fs [] 0)):=fun _ _ _ v h=>by
 cases h with
 |d _ _ h=>cases h;exact .d _ _ (.f0 a cap hm hn)
def jkl(l:List Int)(x:AV)(S':zaa):Prop:=∃n,n=l.length∧x= .os 1 0 0 n∧S'=[.cells (avs (l.map iD))]
theorem ji3{p q:Prop}(hq:q)(h:p=q:=by
 conv=>lhs;simp -dsimp -implicitDefEqProofs (disch:=first|assumption|omega|(simp only[r_z]<;>omega)|decide) only[r_r,↓reduceIte,Nat.reduceEqDiff,Nat.reduceAdd,D.fix,Int.reduceToNat,Nat.reduceMul,Nat.reduceBNe,Nat.reduceBEq,intsD,List.map_nil,List.length_nil]):p:=h.mpr hq
theorem ji4{p q:Prop}(hq:q)(h:p=q:=by
 conv=>lhs;simp -dsimp -implicitDefEqProofs (disch:=first|assumption|omega|(simp only[r_z]<;>omega)|decide) only[r_r,↓reduceIte,Nat.reduceEqDiff,Nat.reduceAdd,D.fix,Int.reduceToNat,Nat.reduceMul,Nat.reduceBNe,Nat.reduceBEq,intsD,List.map_nil,List.length_nil,zy4 hst,Option.isNone_none,Option.isNone_some,zlf]):p:=h.mpr hq
theorem zy5(k:List Nat){m:List Nat}{τ τ1:Fr}{H H1:zaa}(h:Rt m (fun t=>gcV k (τ t)) (gcH k H) τ1 H1)(a:∀i∈m,k[i]? =some i:=by decide)(b:k.Nodup:=by decide)(c:∀i∈k,i<H.length:=by
 simp[fzH,gcH]):Rt m τ H τ1 H1:=Rt.trans (Rt.gc a b c) h
theorem jkm{m:List Nat}{τ τ':Fr}{H H':zaa}(h2:H=H')(h:zgq τ τ':=by
 repeat (first|exact zaj _|refine zac ?_ (by first|rfl|(simp[r_f];done)|simp[r_f, *]))):Rt m τ H τ' H':=Rt.end h h2
theorem jlw{p:Prop}(h:p:=by
 first|rfl|(simp only[r_g,Nat.reduceAdd,↓reduceIte,Nat.reduceEqDiff,intsD,List.map_nil,List.length_nil];first|done|rfl)):p:=h
theorem zy6:ScS Try.prog [] 48 [.d (intsD [])] ([.free]) (jkl []):=by
 refine zf1 (fn:=Try.f48) (by kernel_rfl) Try.func48 rfl (Nat.le_of_ble_eq_true rfl) fun c hc hp=>?_
 refine zuf ?_
 refine szq hp (fun _ hZ=>ji3 hZ) ?_
 refine zab fun K2 hK2=>?_
 refine ji2 0 rfl fun a cap hm hn=>?_
 have hst:zfc Try.prog 26=true:=by kernel_rfl
 refine zag hp zam hc rfl fun K3 hK3=>?_
 rcases a with _|a
 ·refine ji4 ?_
  refine hK3 _ _ ?_
  refine szt ?_
  refine szq hp (fun _ hZ=>ji3 hZ) ?_
  refine zbg hp (τ':=frL [(2,.os 1 0 0 0)]) (H':=[.cells []]) ?_ ?_
  ·refine Rt.trans (Rt.nil 2 1 rfl) ?_
   refine zy5 [1] ?_
   refine jkm ?_
   exact jlw
  refine zas ?_
  refine zgz (t:=2) rfl ?_
  show ∃_,_
  exact⟨_,rfl,rfl,rfl⟩
 ·refine ji4 ?_
  refine hK3 _ _ ?_
  refine szf ?_
  refine zah (hK2 _ _ ?_)
  refine zbg hp (τ':=frL [(0,.d (.fs [] 0))]) (H':=[.free]) ?_ ?_
  ·refine Rt.trans (Rt.put 0 (Imp.f0 hm hn)) ?_
   refine jkm ?_
   exact jlw
  refine zag hp zam hc rfl fun K5 hK5=>?_
  simp -dsimp -implicitDefEqProofs (disch:=first|assumption|omega|(simp only[r_z]<;>omega)|decide) only[r_r,↓reduceIte,Nat.reduceEqDiff,Nat.reduceAdd,D.fix,Int.reduceToNat,Nat.reduceMul,Nat.reduceBNe,Nat.reduceBEq,intsD,List.map_nil,List.length_nil,zlf]
  refine hK5 _ _ ?_
  refine zbg hp (τ':=frL [(2,.os 1 0 0 0)]) (H':=[.cells []]) ?_ ?_
  ·refine zy5 [2] ?_
   refine jkm ?_
   exact jlw
  refine zas ?_
  refine zgz (t:=2) rfl ?_
  show ∃_,_
  exact⟨_,rfl,rfl,rfl⟩
theorem zy7(l:List Int)(hl:l.length≤1000000)(h0:0<l.length):ScS Try.prog [] 48 [.d (intsD l)] ([.free]) (jkl l):=by
 refine zf1 (fn:=Try.f48) (by kernel_rfl) Try.func48 rfl (Nat.le_of_ble_eq_true rfl) fun c hc hp=>?_
 refine zuf ?_
 refine zag hp zam hc rfl fun K1 hK1=>?_
 simp -dsimp -implicitDefEqProofs (disch:=first|assumption|omega|(simp only[r_z]<;>omega)|decide) only[r_r,↓reduceIte,Nat.reduceEqDiff,Nat.reduceAdd,D.fix,Int.reduceToNat,Nat.reduceMul,Nat.reduceBNe,Nat.reduceBEq,intsD]
 refine hK1 _ _ ?_
 refine zab fun K2 hK2=>?_
 have hnil:zxp Try.prog .eql 26 (.d (.fs (l.map iD) l.length)) (.d (.val (.slice none 0 0)))=some (.d (.val (.bool false))):=zxy Try.underlying26 h0
 refine zag hp zam hc rfl fun K3 hK3=>?_
 simp -dsimp -implicitDefEqProofs (disch:=first|assumption|omega|(simp only[r_z]<;>omega)|decide) only[r_r,↓reduceIte,Nat.reduceEqDiff,Nat.reduceAdd,D.fix,Int.reduceToNat,Nat.reduceMul,Nat.reduceBNe,Nat.reduceBEq,intsD,hnil,zlf]
 refine hK3 _ _ ?_
 refine szf ?_
 refine zah (hK2 _ _ ?_)
 refine zag hp zam hc rfl fun K4 hK4=>?_
 simp -dsimp -implicitDefEqProofs (disch:=first|assumption|omega|(simp only[r_z]<;>omega)|decide) only[r_r,↓reduceIte,Nat.reduceEqDiff,Nat.reduceAdd,D.fix,Int.reduceToNat,Nat.reduceMul,Nat.reduceBNe,Nat.reduceBEq,intsD,zlf]
 refine hK4 _ _ ?_
 refine zbg hp (τ':=frL [(2,.os 1 0 0 l.length)]) (H':=[.cells (avs (l.map iD))]) ?_ ?_
 ·refine zy5 [2] ?_
  refine jkm ?_
  first|rfl|(simp only[r_g,Nat.reduceAdd,↓reduceIte,Nat.reduceEqDiff,intsD];first|done|rfl)
 refine zas ?_
 refine zgz (t:=2) rfl ?_
 show ∃_,_
 exact⟨_,rfl,rfl,rfl⟩
theorem jd8(l:List Int)(hl:l.length≤1000000):ScS Try.prog [] 48 [.d (intsD l)] [.free] (jkl l):=by
 rcases l with _|⟨g,l⟩
 ·exact zy6
 ·exact zy7 _ hl (by simp)
theorem zv4{R:List Nat}{w:Nat}(hs:R.Pairwise (·<·))(hl:R.length≤1000):zar Try.prog 51 [.fs (nsD R) R.length,iD (w:Int)] (.tup [.d (iD (((R.filter (·<w)).length:Nat):Int)),.d (oD ((zl R).contains (w:Int)))]):=by
 have:=zvm (l:=zl R) (w:Int) (jls hs) (by rw[za6];omega)
 rw[zy3]at this
 unfold intsD at this
 rw[za6]at this
 exact this
def jop(R:List Nat)(x:AV)(S':zaa):Prop:=∃n,n=R.length∧x= .os 1 0 0 n∧S'=[.cells (avs (nsD R))]
theorem jd9(R:List Nat)(hl:R.length≤1000):ScS Try.prog [] 48 [.d (.fs (nsD R) R.length)] [.free] (jop R):=by
 have:=jd8 (zl R) (by rw[za6];omega)
 unfold intsD jkl at this
 rw[za6]at this
 exact this
theorem zy8{H:zaa}{id vid id':Nat}{R R':List Nat}{w i n:Nat}(hid:H[id]? =some (.cells (avs (nsD R))))(hvid:H[vid]? =some (.cells (avs [iD (w:Int)])))(hn:H[id']? =some .free)(hne:vid≠id)(hi:i≤R.length)(hl:R.length≤1000)(hR:zfl (zl R) i (w:Int)=zl R')(hnl:n=R.length):
  IcS Try.prog 52 [.os 1 id 0 n,.d (iD (i:Int)),.os 1 vid 0 1] H fun r H'=>r= .os 1 id' 0 (n+1)∧H'=(H.set id' (.cells (avs (nsD R')))).set id .dead:=by
 subst hnl
 have:=zyo (H:=H) (id:=id) (vid:=vid) (id':=id') (l:=zl R) (x:=(w:Int)) (i:=i) hid hvid hn hne (by rw[za6];exact hi) (by rw[za6];omega)
 rw[hR,za6]at this
 exact this
theorem jea{l:List Nat}{i:Nat}(h:l.Nodup)(hi:i<l.length):nth l i∉l.take i:=fun hm=>by
 obtain⟨j,hj,e⟩:=List.mem_iff_getElem.1 hm
 rw[List.length_take]at hj
 rw[List.getElem_take,za0 hi]at e
 exact(List.pairwise_iff_getElem.1 h) j i (by omega) hi (by omega) e
theorem zfa{l:List Nat}{i:Nat}(h:i<l.length):l.take (i+1)=l.take i++[nth l i]:=by
 rw[za0 h,List.take_add_one,List.getElem?_eq_getElem h];rfl
theorem zr2{p q:Prop}(hq:q)(h:p=q:=by
 conv=>lhs;simp -dsimp -implicitDefEqProofs (disch:=first|assumption|omega|(simp only[r_z,zaf,zad,zdb,zcy]<;>omega)|decide) only[r_r,↓reduceIte,Nat.reduceEqDiff,Nat.reduceAdd,D.fix,Int.reduceToNat,Nat.reduceMul,Nat.reduceBNe,Nat.reduceBEq,gD,zai]):p:=h.mpr hq
theorem zeq{p q:Prop}(hq:q)(h:p=q:=by
 conv=>lhs;simp -dsimp -implicitDefEqProofs (disch:=first|assumption|omega|(simp only[r_z,zaf,zad,zdb,zcy]<;>omega)|decide) only[r_r,↓reduceIte,Nat.reduceEqDiff,Nat.reduceAdd,D.fix,Int.reduceToNat,Nat.reduceMul,Nat.reduceBNe,Nat.reduceBEq,gD,zai,zlf]):p:=h.mpr hq
theorem zy9{m:List Nat}{τ τ':Fr}{H H':zaa}(h2:H=H')(h:zgq τ τ':=by
 repeat (first|exact zaj _|refine zac ?_ (by first|rfl|(simp[r_f,zaf,zad,zdb,zcy];done)|simp[r_f,zaf,zad,zdb,zcy, *]))):Rt m τ H τ' H':=Rt.end h h2
theorem zv5{p q r:Prop}(e:r)(hq:q)(h:r→p=q:=by
 intro hY
 conv=>lhs;simp -dsimp -implicitDefEqProofs (disch:=first|assumption|omega|(simp only[r_z,zaf,zad,zdb,zcy]<;>omega)|decide) only[r_r,↓reduceIte,Nat.reduceEqDiff,Nat.reduceAdd,D.fix,Int.reduceToNat,Nat.reduceMul,Nat.reduceBNe,Nat.reduceBEq,gD,zai,zlf,hY]):p:=(h e).mpr hq
theorem jeb{p q:Prop}(hq:q)(h:p=q:=by
 conv=>lhs;simp only[r_g,Nat.reduceAdd,↓reduceIte,Nat.reduceEqDiff,gD,zai]):p:=h.mpr hq
theorem jn0{p:Prop}(h:p:=by
 first|rfl|(simp only[r_g,Nat.reduceAdd,↓reduceIte,Nat.reduceEqDiff,gD,zai];first|done|rfl)):p:=h
theorem jn1{p q:Prop}(hq:q)(h:p=q:=by
 conv=>lhs;simp (disch:=first|assumption|omega|(simp only[r_z,zaf,zad,zdb,zcy]<;>omega)|decide) only[r_c,Nat.reduceAdd,D.fix,↓reduceIte,Nat.reduceEqDiff,gD,zai]):p:=h.mpr hq
theorem zv6(n:Nat)(es:List Ed)(h:Gr n es):zar Try.prog 34 [iD (n:Int),zan es] (zw8 (zer n es)):=by
 have hb:=h.b
 have hel:=h.l
 have hgr:=zi4 h
 have hino:=fun k v l=>h.ino (k:=k) (v:=v) (l:=l)
 have hR:zer n es=if(zcb n (zbe n es) n).length<n then([],50)else(zcb n (zbe n es) n,0):=rfl
 have hnl:(za5 n es).length=n:=zbp n es
 have hpl:(zbe n es).length=n:=zb8 n es
 have hnr:∀u,u<n→(nth (za5 n es) u).length≤100000:=fun u hu=>(h.next (st:=u) hu).r u
 have hpr:∀u,u<n→(nth (zbe n es) u).length≤100000:=fun u hu=>(h.prev (st:=u) hu).r u
 generalize za5 n es=nx at hgr hino hnl hnr
 generalize zbe n es=pv at hgr hino hpl hR hpr
 refine zay (fn:=Try.f34) (by kernel_rfl) Try.func34 rfl (Nat.le_of_ble_eq_true rfl) fun c hc hp=>?_
 refine zav (τ':=frL [(0,.d (iD (n:Int))),(1,.d (zan es))]) (by repeat (first|exact zaj _|refine zac ?_ (by first|rfl|(simp[r_f,zaf,zad,zdb,zcy];done)|simp[r_f,zaf,zad,zdb,zcy, *]))) ?_
 refine szq hp (fun _ hZ=>zr2 hZ) ?_
 refine zag hp zam hc rfl fun K2 hK2=>?_
 refine zeq ?_
 refine zbj (hgr) rfl ?_
 refine zeq ?_
 refine hK2 _ _ ?_
 refine szq hp (fun _ hZ=>zeq hZ) ?_
 refine szq hp (fun _ hZ=>zr2 hZ) ?_
 refine zab fun K5 hK5=>?_
 refine szq hp (fun _ hZ=>zr2 hZ) ?_
 refine zae ?_
 refine zaq hp (fun τ' H' mm=>∃(k:Nat),(k≤n)∧mm=n - k∧H'=[.cells [.d (zai nx),.d (zai pv)],.cells (avs (nsD (wt0 n pv k))),.cells (avs (nsD (rd0 pv k))),.cells []]∧τ'=frL [(4,.d (.val (.slice none 0 0))),(5,.d (iD 0)),(6,.op 0 0),(7,.os 1 1 0 n),(8,.os 1 2 0 (rd0 pv k).length),(9,.os 1 3 0 0),(0,.d (iD (n:Int))),(21,.d (iD (n:Int))),(22,.d (iD (k:Int)))]) (n) ?_ ⟨0,Nat.zero_le _,rfl,rfl,rfl⟩ ?_
 ·refine zy5 [0,1] ?_
  refine Rt.trans (Rt.nil 8 1 rfl) ?_
  refine Rt.trans (Rt.nil 9 1 rfl) ?_
  refine zy9 ?_
  refine jeb ?_;rw[jlt,zi6];rfl
 rintro τ' H' mm ⟨k,hk,rfl,rfl,rfl⟩
 refine szq hp (fun _ hZ=>zeq hZ) ?_
 refine zab fun K8 hK8=>?_
 refine zal rfl (fun ht=>?_) (fun ht=>?_)
 ·have hkn:k<n:=by simp at ht;omega
  have hkp:k<pv.length:=by omega
  have hr0:=jd6 (pv:=pv) k
  have hg2:=zca hkp
  have hg3:(nsD (wt0 n pv (k+1)))[k]? =some (iD (((nth pv k).length:Nat):Int)):=by
   rw[za7 (by rw[zdb];exact hkn),wt0,za4 hkn,if_pos (by omega)]
  refine zah (hK8 _ _ ?_)
  refine zab fun K9 hK9=>?_
  refine zae ?_
  refine szq hp (fun _ hZ=>zr2 hZ) ?_
  refine zag hp zam hc rfl fun K11 hK11=>?_
  simp -dsimp -implicitDefEqProofs (disch:=first|assumption|omega|(simp only[r_z,zaf,zad,zdb,zcy]<;>omega)|decide) only[r_r,↓reduceIte,Nat.reduceEqDiff,Nat.reduceAdd,D.fix,Int.reduceToNat,Nat.reduceMul,Nat.reduceBNe,Nat.reduceBEq,gD,zai,hg2,ze9,jd5 hkn,zlf]
  refine hK11 _ _ ?_
  refine szq hp (fun _ hZ=>zv5 hg3 hZ) ?_
  refine zal rfl (fun ht=>?_) (fun ht=>?_)
  ·have hz:(nth pv k).length=0:=by rw[beq_iff_eq]at ht;omega
   have hs:rd0 pv (k+1)=rd0 pv k++[k]:=by rw[zqz,if_pos hz]
   refine szs hp (fun _ hZ=>zeq hZ) (hK9 _ _ ?_)
   refine zbc hp zam hc rfl fun K14 hK14=>?_
   refine zeq ?_
   refine hK14 _ _ ⟨_,_,_,?_,⟨k+1,Nat.succ_le_of_lt hkn,rfl,rfl,rfl⟩,?_⟩
   ·first|omega|(simp only[List.length_cons];omega)|(dsimp only;omega)
   ·refine zy5 [0,1,5,3] ?_
    refine zy9 ?_
    refine jeb ?_;rw[hs,←zj9];rfl
  ·have hz:(nth pv k).length≠0:=fun e=>by rw[e]at ht;cases ht
   have hs:rd0 pv (k+1)=rd0 pv k:=by rw[zqz,if_neg hz]
   refine zah (hK9 _ _ ?_)
   refine zbc hp zam hc rfl fun K15 hK15=>?_
   refine zeq ?_
   refine hK15 _ _ ⟨_,_,_,?_,⟨k+1,Nat.succ_le_of_lt hkn,rfl,rfl,rfl⟩,?_⟩
   ·first|omega|(simp only[List.length_cons];omega)|(dsimp only;omega)
   ·refine zy9 ?_
    refine jeb ?_;rw[hs]
 ·have hke:k=n:=by simp at ht;omega
  subst hke
  have e0:rd0 pv k=zb7 k pv (zcb k pv 0):=jlv
  have e1:wt0 k pv k=wtL k pv (zcb k pv 0) []:=jlu
  simp only[e0,e1]
  have hr0:=zqx (n:=k) (pv:=pv) (out:=zcb k pv 0)
  have hfz:fzV 2 (nsD (zb7 k pv (zcb k pv 0))) (.os 1 2 0 (zb7 k pv (zcb k pv 0)).length)= .d (.fs (nsD (zb7 k pv (zcb k pv 0))) (zb7 k pv (zcb k pv 0)).length):=zir (zbn (by rw[zaf];omega))
  refine zaz (hK5 _ _ ?_)
  refine zab fun K16 hK16=>?_
  refine zae ?_
  refine zaq hp (fun τ' H' mm=>∃(j:Nat),((zcb k pv j).length=j)∧mm=k - j∧H'=[.cells [.d (zai nx),.d (zai pv)],.cells (avs (nsD (wtL k pv (zcb k pv j) []))),.cells (avs (nsD (zcb k pv j)))]∧τ'=frL [(4,.d (.val (.slice none 0 0))),(5,.d (iD 0)),(6,.op 0 0),(7,.os 1 1 0 k),(8,.d (.fs (nsD (zb7 k pv (zcb k pv j))) (zb7 k pv (zcb k pv j)).length)),(9,.os 1 2 0 j),(0,.d (iD (k:Int)))]) (k) ?_ ⟨0,rfl,rfl,rfl,rfl⟩ ?_
  ·refine Rt.trans (Rt.fz (id:=2) (l:=(nsD (zb7 k pv (zcb k pv 0)))) rfl) ?_
   refine zy5 [0,1,3] ?_
   refine zy9 ?_
   exact jn0
  rintro τ' H' mm ⟨j,hj,rfl,rfl,rfl⟩
  refine zab fun K17 hK17=>?_
  refine szq hp (fun _ hZ=>zeq hZ) ?_
  refine zal rfl (fun ht=>?_) (fun ht=>?_)
  ·have hjk:=zk5 (n:=k) (prev:=pv) (j+1)
   obtain⟨v,l,hf⟩:∃v l,zb7 k pv (zcb k pv j)=v::l:=by
    cases hh:zb7 k pv (zcb k pv j)with
    |nil=>rw[hh]at ht;cases ht
    |cons v l=>exact⟨v,l,rfl⟩
   have hI:=hino j v l hf
   have hn1:=zq0 hf
   rw[hn1]at hjk
   have hfl:=zqx (n:=k) (pv:=pv) (out:=zcb k pv j)
   have hl1:=(ziy hf).1
   have hml:=zv3 (n:=k) (pv:=pv) (out:=zcb k pv j) (v:=v) (pre:=[])
   rw[hf]at hfl
   simp only[hf]
   have hl2:l=rdM k pv (zcb k pv j) v []:=hl1
   generalize hout:zcb k pv j=out at hI hj hn1 hjk hl1 hl2 ⊢
   simp at hjk hfl
   clear hl1
   subst hl2
   have ht1:(nsD (rdM k pv out v [])).take (rdM k pv out v []).length=nsD (rdM k pv out v []):=List.take_of_length_le (by rw[zaf];exact Nat.le_refl _)
   have hvx:=hI.lt
   have hg0:(nsD (v::rdM k pv out v []))[0]? =some (iD (v:Int)):=rfl
   have hg1:(nsD (v::rdM k pv out v [])).drop 1=nsD (rdM k pv out v []):=rfl
   have hg2:=zca (nx:=nx) (v:=v) (by omega)
   have hgl:=hnr v hvx
   refine zah (hK17 _ _ ?_)
   refine zae ?_
   refine szq hp (fun _ hZ=>zv5 hg0 hZ) ?_
   refine zag hp zam hc rfl fun K20 hK20=>?_
   simp -dsimp -implicitDefEqProofs (disch:=first|assumption|omega|(simp only[r_z,zaf,zad,zdb,zcy]<;>omega)|decide) only[r_r,↓reduceIte,Nat.reduceEqDiff,Nat.reduceAdd,D.fix,Int.reduceToNat,Nat.reduceMul,Nat.reduceBNe,Nat.reduceBEq,gD,zai,hg1,ht1,List.length_cons,Nat.add_sub_cancel,zlf]
   refine hK20 _ _ ?_
   refine szq hp (fun _ hZ=>zeq hZ) ?_
   refine szq hp (fun _ hZ=>zv5 hg2 hZ) ?_
   refine zae ?_
   refine zaq hp (fun τ' H' mm=>∃(i:Nat),(i≤(nth nx v).length)∧mm=(nth nx v).length - i∧H'=[.cells [.d (zai nx),.d (zai pv)],.cells (avs (nsD (wtL k pv out ((nth nx v).take i)))),.cells (avs (nsD (out++[v])))]∧τ'=frL [(4,.d (.val (.slice none 0 0))),(5,.d (iD 0)),(6,.op 0 0),(7,.os 1 1 0 k),(8,.d (.fs (nsD (rdM k pv out v ((nth nx v).take i))) (rdM k pv out v ((nth nx v).take i)).length)),(9,.os 1 2 0 (j+1)),(0,.d (iD (k:Int))),(60,.d (.fs (nsD (nth nx v)) (nth nx v).length)),(61,.d (iD (((nth nx v).length:Nat):Int))),(62,.d (iD (i:Int)))]) ((nth nx v).length) ?_ ⟨0,Nat.zero_le _,rfl,rfl,rfl⟩ ?_
   ·refine zy5 [0,1,4] ?_
    refine zy9 ?_
    refine jeb ?_;rw[←zj9];rfl
   rintro τ' H' mm ⟨i,hi,rfl,rfl,rfl⟩
   refine szq hp (fun _ hZ=>zeq hZ) ?_
   refine zab fun K24 hK24=>?_
   refine zal rfl (fun ht=>?_) (fun ht=>?_)
   ·have hil:i<(nth nx v).length:=by simp at ht;omega
    obtain⟨w,hw⟩:∃w,w=nth (nth nx v) i:=⟨_,rfl⟩
    have hwm:w∈nth nx v:=by rw[hw];exact za9 hil
    have hwn:w<k:=hI.two.ni v hvx w hwm
    have hwp:w∉(nth nx v).take i:=by rw[hw];exact jea hI.nd hil
    have htk:(nth nx v).take (i+1)=(nth nx v).take i++[w]:=by rw[hw];exact zfa hil
    have hwpos:=jiy hI hwm
    have hg3:(nsD (nth nx v))[i]? =some (iD (w:Int)):=by rw[za7 hil,hw]
    have hg4:(nsD (wtL k pv out ((nth nx v).take i)))[w]? =some (iD ((wtN pv out w:Nat):Int)):=by
     rw[za7 (by rw[zcy];exact hwn),jbj hwn,wtM,if_neg (by simpa using hwp),Nat.sub_zero]
    have hsub:((wtN pv out w:Nat):Int) - 1=((wtN pv out w - 1:Nat):Int):=by omega
    have hg5:(nsD (wtL k pv out ((nth nx v).take i++[w])))[w]? =some (iD ((wtN pv out w - 1:Nat):Int)):=by
     rw[za7 (by rw[zcy];exact hwn),jbj hwn,zqw hwp,if_pos rfl]
    have hwb:wtN pv out w≤100000:=Nat.le_trans (List.length_filter_le _ _) (hpr w hwn)
    clear hw
    have hrl:=zv3 (n:=k) (pv:=pv) (out:=out) (v:=v) (pre:=(nth nx v).take i)
    refine zah (hK24 _ _ ?_)
    refine zab fun K25 hK25=>?_
    refine zae ?_
    refine szq hp (fun _ hZ=>zv5 hg3 hZ) ?_
    refine zag hp zam hc rfl fun K27 hK27=>?_
    simp -dsimp -implicitDefEqProofs (disch:=first|assumption|omega|(simp only[r_z,zaf,zad,zdb,zcy]<;>omega)|decide) only[r_r,↓reduceIte,Nat.reduceEqDiff,Nat.reduceAdd,D.fix,Int.reduceToNat,Nat.reduceMul,Nat.reduceBNe,Nat.reduceBEq,gD,zai,hg4,hsub,ze9,jd0 hwp hwn,zlf]
    refine hK27 _ _ ?_
    refine szq hp (fun _ hZ=>zv5 hg5 hZ) ?_
    refine zal rfl (fun ht=>?_) (fun ht=>?_)
    ·have hz:wtN pv out w=1:=by rw[beq_iff_eq]at ht;omega
     have hins:=ji1 hI hwm hwp hz
     obtain⟨R,hRe⟩:∃R,R=rdM k pv out v ((nth nx v).take i):=⟨_,rfl⟩
     obtain⟨R',hRe'⟩:∃R',R'=rdM k pv out v ((nth nx v).take i++[w]):=⟨_,rfl⟩
     have hRu:R.Pairwise (·<·):=by rw[hRe];exact ji0
     rw[←hRe,←hRe']at hins
     rw[←hRe]at hrl
     rw[←hRe]
     obtain⟨m,hm⟩:∃m,m=(R.filter (·<w)).length:=⟨_,rfl⟩
     have hmle:m≤R.length:=by rw[hm];exact List.length_filter_le _ _
     have hbs:=zv4 (w:=w) hRu (by omega)
     rw[←hm]at hbs hins
     have hRl:R'.length=R.length+1:=by
      have:=congrArg List.length hins
      rw[zgo _ (by rw[za6];exact hmle),za6,za6]at this
      omega
     refine zag hp zam hc rfl fun K29 hK29=>?_
     refine zeq ?_
     refine zbj (hbs) rfl ?_
     refine zeq ?_
     refine hK29 _ _ ?_
     refine zbg hp (τ':=frL [(0,.d (iD (k:Int))),(4,.d (.val (.slice none 0 0))),(5,.d (iD 0)),(6,.op 2 0),(7,.os 1 3 0 k),(8,.d (.fs (nsD R) R.length)),(9,.os 1 4 0 (j+1)),(13,.d (iD (w:Int))),(14,.d (iD (m:Int))),(60,.d (.fs (nsD (nth nx v)) (nth nx v).length)),(61,.d (iD (((nth nx v).length:Nat):Int))),(62,.d (iD (i:Int)))]) (H':=[.free,.free,.cells [.d (zai nx),.d (zai pv)],.cells (avs (nsD (wtL k pv out ((nth nx v).take i++[w])))),.cells (avs (nsD (out++[v])))]) ?_ ?_
     ·refine Rt.trans (Rt.fr1) ?_
      refine Rt.trans (Rt.fr1) ?_
      refine zy5 [3,4,0,1,2] ?_
      refine zy9 ?_
      exact jn0
     refine zbc hp zam hc rfl fun K30 hK30=>?_
     refine zeq ?_
     refine jcj (S:=[.free]) (T:=[.free,.cells [.d (zai nx),.d (zai pv)],.cells (avs (nsD (wtL k pv out ((nth nx v).take i++[w])))),.cells (avs (nsD (out++[v])))]) (jd9 R (by omega)) rfl (by first|rfl|(simp[AV.allIs,AV.allI,za3,zat,zau,okI,ltI,zao,zbk];done)|(intro o ho;simp at ho;done)) (fun t=>zc9 (by first|rfl|(simp[AV.allIs,AV.allI,za3,zat,zau,okI,ltI,zao,zbk];done)|(intro o ho;simp at ho;done)) t) (by first|rfl|(simp[AV.allIs,AV.allI,za3,zat,zau,okI,ltI,zao,zbk];done)|(intro o ho;simp at ho;done)) (by first|rfl|(simp[AV.allIs,AV.allI,za3,zat,zau,okI,ltI,zao,zbk];done)|(intro o ho;simp at ho;done)) (by first|rfl|(simp[AV.allIs,AV.allI,za3,zat,zau,okI,ltI,zao,zbk];done)|(intro o ho;simp at ho;done)) ?_
     rintro _ _ ⟨_,rfl,rfl,rfl⟩
     refine⟨rfl,?_⟩
     refine zeq ?_
     have hfz2:fzV 1 (nsD R') (.os 1 1 0 (R.length+1))= .d (.fs (nsD R') (R.length+1)):=zir (zbn (by rw[zaf];omega))
     have hR3:rdM k pv out v ((nth nx v).take (i+1))=R':=by rw[htk,hRe']
     have hwt:wtL k pv out ((nth nx v).take (i+1))=wtL k pv out ((nth nx v).take i++[w]):=by rw[htk]
     clear hRe hRe' htk hbs
     refine zj8 (zy8 (id:=0) (vid:=5) (id':=1) (R:=R) (R':=R') (w:=w) rfl rfl rfl (by decide) hmle (by omega) hins rfl) ?_
     refine zeq ?_
     refine hK30 _ _ (hK25 _ _ ?_)
     refine zbc hp zam hc rfl fun K31 hK31=>?_
     refine zeq ?_
     refine hK31 _ _ ⟨_,_,_,?_,⟨i+1,hil,rfl,rfl,rfl⟩,?_⟩
     ·first|omega|(simp only[List.length_cons];omega)|(dsimp only;omega)
     ·refine Rt.trans (Rt.fz (id:=1) (l:=(nsD R')) rfl) ?_
      refine zy5 [2,3,4] ?_
      refine zy9 ?_
      refine jeb ?_;rw[hwt]
    ·have hz:wtN pv out w≠1:=fun e=>by rw[e]at ht;cases ht
     have hs:=jd4 (pre:=(nth nx v).take i) hI hwm hz
     refine zah (hK25 _ _ ?_)
     refine zbc hp zam hc rfl fun K32 hK32=>?_
     refine zeq ?_
     refine hK32 _ _ ⟨_,_,_,?_,⟨i+1,hil,rfl,rfl,rfl⟩,?_⟩
     ·first|omega|(simp only[List.length_cons];omega)|(dsimp only;omega)
     ·refine zy9 ?_
      refine jeb ?_;rw[htk]
   ·have hie:i=(nth nx v).length:=by simp at ht;omega
    rw[hie,List.take_length]
    simp only[jd1 hI,jd2 hI]
    refine zaz ⟨_,_,_,?_,⟨j+1,by rw[hn1];simp[hj],rfl,rfl,rfl⟩,?_⟩
    ·first|omega|(simp only[List.length_cons];omega)|(dsimp only;omega)
    ·refine zy9 ?_
     refine jeb ?_;rw[hn1]
  ·have hf0:zb7 k pv (zcb k pv j)=[]:=by
    cases hh:zb7 k pv (zcb k pv j)with
    |nil=>rfl
    |cons v l=>rw[hh]at ht;simp at ht;done
   have hfin:=jd7 hf0 (by exact hj)
   rw[hfin,hj]at hR
   refine zaz (hK16 _ _ ?_)
   refine zab fun K33 hK33=>?_
   refine szq hp (fun _ hZ=>zeq hZ) ?_
   refine zal rfl (fun ht=>?_) (fun ht=>?_)
   ·have hjl:j<k:=by simp at ht;omega
    refine szq hp (fun _ hZ=>zr2 hZ) ?_
    refine zas ?_
    show closeA _ _=_
    refine jn1 ?_
    rw[hR,if_pos hjl];rfl
   ·have hjl:¬j<k:=by simp at ht;omega
    refine zah (hK33 _ _ ?_)
    refine szq hp (fun _ hZ=>zr2 hZ) ?_
    refine zas ?_
    show closeA _ _=_
    refine jn1 ?_
    rw[hR,if_neg hjl,zw8,hj];simp only[zhl];rfl
end Go.Proofs.Ytfolbdkbpmgjgaa
