/- Order: walked. -/
import Derived.Test.YtfolbdkbpmgjgaaQr
import Derived.Test.YtfolbdkbpmgjgaaKl
set_option linter.unusedVariables false
set_option linter.unusedSimpArgs false
set_option maxRecDepth 100000
set_option maxHeartbeats 4000000
namespace Go.Proofs.Ytfolbdkbpmgjgaa
open Go Go.RowKit
theorem zmd:((((type_of% @zcy)∧((type_of% @zcz)∧(type_of% @zb8)))∧((type_of% @zcl)∧((type_of% @zea)∧(type_of% @zeb))))∧(((type_of% @zjk)∧((type_of% @zke)∧(type_of% @zhq)))∧(((type_of% @ze3)∧(type_of% @zfx))∧((type_of% @zeh)∧(type_of% @zdn))))):=⟨⟨⟨@zcy,⟨@zcz,@zb8⟩⟩,⟨@zcl,⟨@zea,@zeb⟩⟩⟩,⟨⟨@zjk,⟨@zke,@zhq⟩⟩,⟨⟨@ze3,@zfx⟩,⟨@zeh,@zdn⟩⟩⟩⟩
theorem jlv{P:Program}{c:Cx}{x:Code}{Q:Exit→Fr→zaa→Prop}{τ:Fr}{H:zaa}(t:Nat)(ht:τ t= .d (.fs [] 0))
  (h:∀(a:Option Addr) (cap:Nat),cap≤maxLen→(a=none→cap=0)→AWp P c x Q (τ.put (some t) (.d (.val (.slice a 0 cap)))) H):AWp P c x Q τ H:=fun ac w hR=>by
 obtain⟨pl,hS⟩:=hR
 have h1:=hS.fr t
 rw[ht]at h1
 have key:∀a cap,ac.tmps.getD t undef= .slice a 0 cap→R c (τ.put (some t) (.d (.val (.slice a 0 cap)))) H [] ac w:=fun a cap e=>
  ⟨pl,hS.h,hS.stp,hS.own0,hS.ext,fun t'=>by
   by_cases ht':t'=t
   ·subst ht'
    rw[e]
    simp only[Fr.put,if_pos]
    exact .d _ _ (.val _)
   ·simp only[Fr.put,if_neg ht']
    exact hS.fr t',hS.size,hS.defs,hS.keep⟩
 cases h1 with
 |d _ _ h1=>
  generalize hv:ac.tmps.getD t undef=v at h1
  cases h1 with
  |f0 a cap hm hn=>exact h a cap hm hn ac w (key a cap hv)
  |fs _ _ cap b off f hb ho hn hm hc h1 hx=>exact h _ cap hm (fun e=>by cases e) ac w (key _ cap hv)
theorem ja9{P:Program}{t:TypeId}(h:zfq P t=true){a:Option Addr}{n c n' c':Nat}:zgr P .eql t (.slice a n c) (.slice none n' c')=some (.bool a.isNone):=by simp[zgr,h]
theorem Imp.f0{a:Option Addr}{cap:Nat}(hm:cap≤maxLen)(hn:a=none→cap=0):Imp (.d (.val (.slice a 0 cap))) (.d (.fs [] 0)):=fun _ _ _ v h=>by
 cases h with
 |d _ _ h=>cases h;exact .d _ _ (.f0 a cap hm hn)
def joa(l:List Int)(x:AV)(S':zaa):Prop:=∃n,n=l.length∧x= .os 1 0 0 n∧S'=[.cells (avs (l.map iD))]
theorem jlw{p q:Prop}(hq:q)(h:p=q:=by
 conv=>lhs;simp -dsimp -implicitDefEqProofs (disch:=first|assumption|omega|(simp only[r_z]<;>omega)|decide) only[r_r,↓reduceIte,Nat.reduceEqDiff,Nat.reduceAdd,D.fix,Int.reduceToNat,Nat.reduceMul,Nat.reduceBNe,Nat.reduceBEq,intsD,List.map_nil,List.length_nil]):p:=h.mpr hq
theorem jlx{p q:Prop}(hq:q)(h:p=q:=by
 conv=>lhs;simp -dsimp -implicitDefEqProofs (disch:=first|assumption|omega|(simp only[r_z]<;>omega)|decide) only[r_r,↓reduceIte,Nat.reduceEqDiff,Nat.reduceAdd,D.fix,Int.reduceToNat,Nat.reduceMul,Nat.reduceBNe,Nat.reduceBEq,intsD,List.map_nil,List.length_nil,ja9 hst,Option.isNone_none,Option.isNone_some,zmd]):p:=h.mpr hq
theorem jba(k:List Nat){m:List Nat}{τ τ1:Fr}{H H1:zaa}(h:Rt m (fun t=>gcV k (τ t)) (gcH k H) τ1 H1)(a:∀i∈m,k[i]? =some i:=by decide)(b:k.Nodup:=by decide)(c:∀i∈k,i<H.length:=by
 simp[fzH,gcH]):Rt m τ H τ1 H1:=Rt.trans (Rt.gc a b c) h
theorem job{m:List Nat}{τ τ':Fr}{H H':zaa}(h2:H=H')(h:zez τ τ':=by
 repeat (first|exact zal _|refine zaf ?_ (by first|rfl|(simp[r_f];done)|simp[r_f, *]))):Rt m τ H τ' H':=Rt.end h h2
theorem jpl{p:Prop}(h:p:=by
 first|rfl|(simp only[r_g,Nat.reduceAdd,↓reduceIte,Nat.reduceEqDiff,intsD,List.map_nil,List.length_nil];first|done|rfl)):p:=h
theorem jbb:ScS Try.prog [] 48 [.d (intsD [])] ([.free]) (joa []):=by
 refine zgf (fn:=Try.f48) (by kernel_rfl) Try.func48 rfl (Nat.le_of_ble_eq_true rfl) fun c hc hp=>?_
 refine zv5 ?_
 refine szq hp (fun _ hZ=>jlw hZ) ?_
 refine zab fun K2 hK2=>?_
 refine jlv 0 rfl fun a cap hm hn=>?_
 have hst:zfq Try.prog 26=true:=by kernel_rfl
 refine zaj hp zam hc rfl fun K3 hK3=>?_
 rcases a with _|a
 ·refine jlx ?_
  refine hK3 _ _ ?_
  refine szt ?_
  refine szq hp (fun _ hZ=>jlw hZ) ?_
  refine zba hp (τ':=frL [(2,.os 1 0 0 0)]) (H':=[.cells []]) ?_ ?_
  ·refine Rt.trans (Rt.nil 2 1 rfl) ?_
   refine jba [1] ?_
   refine job ?_
   exact jpl
  refine zaq ?_
  refine zhl (t:=2) rfl ?_
  show ∃_,_
  exact⟨_,rfl,rfl,rfl⟩
 ·refine jlx ?_
  refine hK3 _ _ ?_
  refine szf ?_
  refine zah (hK2 _ _ ?_)
  refine zba hp (τ':=frL [(0,.d (.fs [] 0))]) (H':=[.free]) ?_ ?_
  ·refine Rt.trans (Rt.put 0 (Imp.f0 hm hn)) ?_
   refine job ?_
   exact jpl
  refine zaj hp zam hc rfl fun K5 hK5=>?_
  simp -dsimp -implicitDefEqProofs (disch:=first|assumption|omega|(simp only[r_z]<;>omega)|decide) only[r_r,↓reduceIte,Nat.reduceEqDiff,Nat.reduceAdd,D.fix,Int.reduceToNat,Nat.reduceMul,Nat.reduceBNe,Nat.reduceBEq,intsD,List.map_nil,List.length_nil,zmd]
  refine hK5 _ _ ?_
  refine zba hp (τ':=frL [(2,.os 1 0 0 0)]) (H':=[.cells []]) ?_ ?_
  ·refine jba [2] ?_
   refine job ?_
   exact jpl
  refine zaq ?_
  refine zhl (t:=2) rfl ?_
  show ∃_,_
  exact⟨_,rfl,rfl,rfl⟩
theorem jbc(l:List Int)(hl:l.length≤1000000)(h0:0<l.length):ScS Try.prog [] 48 [.d (intsD l)] ([.free]) (joa l):=by
 refine zgf (fn:=Try.f48) (by kernel_rfl) Try.func48 rfl (Nat.le_of_ble_eq_true rfl) fun c hc hp=>?_
 refine zv5 ?_
 refine zaj hp zam hc rfl fun K1 hK1=>?_
 simp -dsimp -implicitDefEqProofs (disch:=first|assumption|omega|(simp only[r_z]<;>omega)|decide) only[r_r,↓reduceIte,Nat.reduceEqDiff,Nat.reduceAdd,D.fix,Int.reduceToNat,Nat.reduceMul,Nat.reduceBNe,Nat.reduceBEq,intsD]
 refine hK1 _ _ ?_
 refine zab fun K2 hK2=>?_
 have hnil:zzv Try.prog .eql 26 (.d (.fs (l.map iD) l.length)) (.d (.val (.slice none 0 0)))=some (.d (.val (.bool false))):=zz4 Try.underlying26 h0
 refine zaj hp zam hc rfl fun K3 hK3=>?_
 simp -dsimp -implicitDefEqProofs (disch:=first|assumption|omega|(simp only[r_z]<;>omega)|decide) only[r_r,↓reduceIte,Nat.reduceEqDiff,Nat.reduceAdd,D.fix,Int.reduceToNat,Nat.reduceMul,Nat.reduceBNe,Nat.reduceBEq,intsD,hnil,zmd]
 refine hK3 _ _ ?_
 refine szf ?_
 refine zah (hK2 _ _ ?_)
 refine zaj hp zam hc rfl fun K4 hK4=>?_
 simp -dsimp -implicitDefEqProofs (disch:=first|assumption|omega|(simp only[r_z]<;>omega)|decide) only[r_r,↓reduceIte,Nat.reduceEqDiff,Nat.reduceAdd,D.fix,Int.reduceToNat,Nat.reduceMul,Nat.reduceBNe,Nat.reduceBEq,intsD,zmd]
 refine hK4 _ _ ?_
 refine zba hp (τ':=frL [(2,.os 1 0 0 l.length)]) (H':=[.cells (avs (l.map iD))]) ?_ ?_
 ·refine jba [2] ?_
  refine job ?_
  first|rfl|(simp only[r_g,Nat.reduceAdd,↓reduceIte,Nat.reduceEqDiff,intsD];first|done|rfl)
 refine zaq ?_
 refine zhl (t:=2) rfl ?_
 show ∃_,_
 exact⟨_,rfl,rfl,rfl⟩
theorem jgs(l:List Int)(hl:l.length≤1000000):ScS Try.prog [] 48 [.d (intsD l)] [.free] (joa l):=by
 rcases l with _|⟨g,l⟩
 ·exact jbb
 ·exact jbc _ hl (by simp)
theorem zxx{R:List Nat}{w:Nat}(hs:R.Pairwise (·<·))(hl:R.length≤1000):zas Try.prog 51 [.fs (nsD R) R.length,iD (w:Int)] (.tup [.d (iD (((R.filter (·<w)).length:Nat):Int)),.d (oD ((zl R).contains (w:Int)))]):=by
 have:=zxe (l:=zl R) (w:Int) (jph hs) (by rw[zbe];omega)
 rw[ja8]at this
 unfold intsD at this
 rw[zbe]at this
 exact this
def jsm(R:List Nat)(x:AV)(S':zaa):Prop:=∃n,n=R.length∧x= .os 1 0 0 n∧S'=[.cells (avs (nsD R))]
theorem jgt(R:List Nat)(hl:R.length≤1000):ScS Try.prog [] 48 [.d (.fs (nsD R) R.length)] [.free] (jsm R):=by
 have:=jgs (zl R) (by rw[zbe];omega)
 unfold intsD joa at this
 rw[zbe]at this
 exact this
theorem jbd{H:zaa}{id vid id':Nat}{R R':List Nat}{w i n:Nat}(hid:H[id]? =some (.cells (avs (nsD R))))(hvid:H[vid]? =some (.cells (avs [iD (w:Int)])))(hn:H[id']? =some .free)(hne:vid≠id)(hi:i≤R.length)(hl:R.length≤1000)(hR:zfy (zl R) i (w:Int)=zl R')(hnl:n=R.length):
  IcS Try.prog 52 [.os 1 id 0 n,.d (iD (i:Int)),.os 1 vid 0 1] H fun r H'=>r= .os 1 id' 0 (n+1)∧H'=(H.set id' (.cells (avs (nsD R')))).set id .dead:=by
 subst hnl
 have:=jat (H:=H) (id:=id) (vid:=vid) (id':=id') (l:=zl R) (x:=(w:Int)) (i:=i) hid hvid hn hne (by rw[zbe];exact hi) (by rw[zbe];omega)
 rw[hR,zbe]at this
 exact this
theorem jgu{l:List Nat}{i:Nat}(h:l.Nodup)(hi:i<l.length):nth l i∉l.take i:=fun hm=>by
 obtain⟨j,hj,e⟩:=List.mem_iff_getElem.1 hm
 rw[List.length_take]at hj
 rw[List.getElem_take,za5 hi]at e
 exact(List.pairwise_iff_getElem.1 h) j i (by omega) hi (by omega) e
theorem zfo{l:List Nat}{i:Nat}(h:i<l.length):l.take (i+1)=l.take i++[nth l i]:=by
 rw[za5 h,List.take_add_one,List.getElem?_eq_getElem h];rfl
theorem ztm{p q:Prop}(hq:q)(h:p=q:=by
 conv=>lhs;simp -dsimp -implicitDefEqProofs (disch:=first|assumption|omega|(simp only[r_z,zad,zak,zdo,zdd]<;>omega)|decide) only[r_r,↓reduceIte,Nat.reduceEqDiff,Nat.reduceAdd,D.fix,Int.reduceToNat,Nat.reduceMul,Nat.reduceBNe,Nat.reduceBEq,gD,zan]):p:=h.mpr hq
theorem ze5{p q:Prop}(hq:q)(h:p=q:=by
 conv=>lhs;simp -dsimp -implicitDefEqProofs (disch:=first|assumption|omega|(simp only[r_z,zad,zak,zdo,zdd]<;>omega)|decide) only[r_r,↓reduceIte,Nat.reduceEqDiff,Nat.reduceAdd,D.fix,Int.reduceToNat,Nat.reduceMul,Nat.reduceBNe,Nat.reduceBEq,gD,zan,zmd]):p:=h.mpr hq
theorem jbe{m:List Nat}{τ τ':Fr}{H H':zaa}(h2:H=H')(h:zez τ τ':=by
 repeat (first|exact zal _|refine zaf ?_ (by first|rfl|(simp[r_f,zad,zak,zdo,zdd];done)|simp[r_f,zad,zak,zdo,zdd, *]))):Rt m τ H τ' H':=Rt.end h h2
theorem zxy{p q r:Prop}(e:r)(hq:q)(h:r→p=q:=by
 intro hY
 conv=>lhs;simp -dsimp -implicitDefEqProofs (disch:=first|assumption|omega|(simp only[r_z,zad,zak,zdo,zdd]<;>omega)|decide) only[r_r,↓reduceIte,Nat.reduceEqDiff,Nat.reduceAdd,D.fix,Int.reduceToNat,Nat.reduceMul,Nat.reduceBNe,Nat.reduceBEq,gD,zan,zmd,hY]):p:=(h e).mpr hq
theorem jgv{p q:Prop}(hq:q)(h:p=q:=by
 conv=>lhs;simp only[r_g,Nat.reduceAdd,↓reduceIte,Nat.reduceEqDiff,gD,zan]):p:=h.mpr hq
theorem jrt{p:Prop}(h:p:=by
 first|rfl|(simp only[r_g,Nat.reduceAdd,↓reduceIte,Nat.reduceEqDiff,gD,zan];first|done|rfl)):p:=h
theorem jru{p q:Prop}(hq:q)(h:p=q:=by
 conv=>lhs;simp (disch:=first|assumption|omega|(simp only[r_z,zad,zak,zdo,zdd]<;>omega)|decide) only[r_c,Nat.reduceAdd,D.fix,↓reduceIte,Nat.reduceEqDiff,gD,zan]):p:=h.mpr hq
theorem zxz(n:Nat)(es:List Ed)(h:Gr n es):zas Try.prog 34 [iD (n:Int),zag es] (zzf (zdv n es)):=by
 have hb:=h.b
 have hel:=h.l
 have hgr:=zju h
 have hino:=fun k v l=>h.ino (k:=k) (v:=v) (l:=l)
 have hR:zdv n es=if(zcg n (zay n es) n).length<n then([],50)else(zcg n (zay n es) n,0):=rfl
 have hnl:(zav n es).length=n:=zbb n es
 have hpl:(zay n es).length=n:=zcj n es
 have hnr:∀u,u<n→(nth (zav n es) u).length≤100000:=fun u hu=>(h.next (st:=u) hu).r u
 have hpr:∀u,u<n→(nth (zay n es) u).length≤100000:=fun u hu=>(h.prev (st:=u) hu).r u
 generalize zav n es=nx at hgr hino hnl hnr
 generalize zay n es=pv at hgr hino hpl hR hpr
 refine zau (fn:=Try.f34) (by kernel_rfl) Try.func34 rfl (Nat.le_of_ble_eq_true rfl) fun c hc hp=>?_
 refine zaw (τ':=frL [(0,.d (iD (n:Int))),(1,.d (zag es))]) (by repeat (first|exact zal _|refine zaf ?_ (by first|rfl|(simp[r_f,zad,zak,zdo,zdd];done)|simp[r_f,zad,zak,zdo,zdd, *]))) ?_
 refine szq hp (fun _ hZ=>ztm hZ) ?_
 refine zaj hp zam hc rfl fun K2 hK2=>?_
 refine ze5 ?_
 refine zbd (hgr) rfl ?_
 refine ze5 ?_
 refine hK2 _ _ ?_
 refine szq hp (fun _ hZ=>ze5 hZ) ?_
 refine szq hp (fun _ hZ=>ztm hZ) ?_
 refine zab fun K5 hK5=>?_
 refine szq hp (fun _ hZ=>ztm hZ) ?_
 refine zae ?_
 refine zao hp (fun τ' H' mm=>∃(k:Nat),(k≤n)∧mm=n - k∧H'=[.cells [.d (zan nx),.d (zan pv)],.cells (avs (nsD (wt0 n pv k))),.cells (avs (nsD (rd0 pv k))),.cells []]∧τ'=frL [(4,.d (.val (.slice none 0 0))),(5,.d (iD 0)),(6,.op 0 0),(7,.os 1 1 0 n),(8,.os 1 2 0 (rd0 pv k).length),(9,.os 1 3 0 0),(0,.d (iD (n:Int))),(21,.d (iD (n:Int))),(22,.d (iD (k:Int)))]) (n) ?_ ⟨0,Nat.zero_le _,rfl,rfl,rfl⟩ ?_
 ·refine jba [0,1] ?_
  refine Rt.trans (Rt.nil 8 1 rfl) ?_
  refine Rt.trans (Rt.nil 9 1 rfl) ?_
  refine jbe ?_
  refine jgv ?_;rw[jpi,zh8];rfl
 rintro τ' H' mm ⟨k,hk,rfl,rfl,rfl⟩
 refine szq hp (fun _ hZ=>ze5 hZ) ?_
 refine zab fun K8 hK8=>?_
 refine zai rfl (fun ht=>?_) (fun ht=>?_)
 ·have hkn:k<n:=by simp at ht;omega
  have hkp:k<pv.length:=by omega
  have hr0:=jgr (pv:=pv) k
  have hg2:=zcm hkp
  have hg3:(nsD (wt0 n pv (k+1)))[k]? =some (iD (((nth pv k).length:Nat):Int)):=by
   rw[zbf (by rw[zdo];exact hkn),wt0,za8 hkn,if_pos (by omega)]
  refine zah (hK8 _ _ ?_)
  refine zab fun K9 hK9=>?_
  refine zae ?_
  refine szq hp (fun _ hZ=>ztm hZ) ?_
  refine zaj hp zam hc rfl fun K11 hK11=>?_
  simp -dsimp -implicitDefEqProofs (disch:=first|assumption|omega|(simp only[r_z,zad,zak,zdo,zdd]<;>omega)|decide) only[r_r,↓reduceIte,Nat.reduceEqDiff,Nat.reduceAdd,D.fix,Int.reduceToNat,Nat.reduceMul,Nat.reduceBNe,Nat.reduceBEq,gD,zan,hg2,zex,jgq hkn,zmd]
  refine hK11 _ _ ?_
  refine szq hp (fun _ hZ=>zxy hg3 hZ) ?_
  refine zai rfl (fun ht=>?_) (fun ht=>?_)
  ·have hz:(nth pv k).length=0:=by rw[beq_iff_eq]at ht;omega
   have hs:rd0 pv (k+1)=rd0 pv k++[k]:=by rw[zr6,if_pos hz]
   refine szs hp (fun _ hZ=>ze5 hZ) (hK9 _ _ ?_)
   refine za6 hp zam hc rfl fun K14 hK14=>?_
   refine ze5 ?_
   refine hK14 _ _ ⟨_,_,_,?_,⟨k+1,Nat.succ_le_of_lt hkn,rfl,rfl,rfl⟩,?_⟩
   ·first|omega|(simp only[List.length_cons];omega)|(dsimp only;omega)
   ·refine jba [0,1,5,3] ?_
    refine jbe ?_
    refine jgv ?_;rw[hs,←zf8];rfl
  ·have hz:(nth pv k).length≠0:=fun e=>by rw[e]at ht;cases ht
   have hs:rd0 pv (k+1)=rd0 pv k:=by rw[zr6,if_neg hz]
   refine zah (hK9 _ _ ?_)
   refine za6 hp zam hc rfl fun K15 hK15=>?_
   refine ze5 ?_
   refine hK15 _ _ ⟨_,_,_,?_,⟨k+1,Nat.succ_le_of_lt hkn,rfl,rfl,rfl⟩,?_⟩
   ·first|omega|(simp only[List.length_cons];omega)|(dsimp only;omega)
   ·refine jbe ?_
    refine jgv ?_;rw[hs]
 ·have hke:k=n:=by simp at ht;omega
  subst hke
  have e0:rd0 pv k=zcf k pv (zcg k pv 0):=jpk
  have e1:wt0 k pv k=wtL k pv (zcg k pv 0) []:=jpj
  simp only[e0,e1]
  have hr0:=zr4 (n:=k) (pv:=pv) (out:=zcg k pv 0)
  have hfz:fzV 2 (nsD (zcf k pv (zcg k pv 0))) (.os 1 2 0 (zcf k pv (zcg k pv 0)).length)= .d (.fs (nsD (zcf k pv (zcg k pv 0))) (zcf k pv (zcg k pv 0)).length):=zji (zbt (by rw[zad];omega))
  refine zat (hK5 _ _ ?_)
  refine zab fun K16 hK16=>?_
  refine zae ?_
  refine zao hp (fun τ' H' mm=>∃(j:Nat),((zcg k pv j).length=j)∧mm=k - j∧H'=[.cells [.d (zan nx),.d (zan pv)],.cells (avs (nsD (wtL k pv (zcg k pv j) []))),.cells (avs (nsD (zcg k pv j)))]∧τ'=frL [(4,.d (.val (.slice none 0 0))),(5,.d (iD 0)),(6,.op 0 0),(7,.os 1 1 0 k),(8,.d (.fs (nsD (zcf k pv (zcg k pv j))) (zcf k pv (zcg k pv j)).length)),(9,.os 1 2 0 j),(0,.d (iD (k:Int)))]) (k) ?_ ⟨0,rfl,rfl,rfl,rfl⟩ ?_
  ·refine Rt.trans (Rt.fz (id:=2) (l:=(nsD (zcf k pv (zcg k pv 0)))) rfl) ?_
   refine jba [0,1,3] ?_
   refine jbe ?_
   exact jrt
  rintro τ' H' mm ⟨j,hj,rfl,rfl,rfl⟩
  refine zab fun K17 hK17=>?_
  refine szq hp (fun _ hZ=>ze5 hZ) ?_
  refine zai rfl (fun ht=>?_) (fun ht=>?_)
  ·have hjk:=zl2 (n:=k) (prev:=pv) (j+1)
   obtain⟨v,l,hf⟩:∃v l,zcf k pv (zcg k pv j)=v::l:=by
    cases hh:zcf k pv (zcg k pv j)with
    |nil=>rw[hh]at ht;cases ht
    |cons v l=>exact⟨v,l,rfl⟩
   have hI:=hino j v l hf
   have hn1:=zmb hf
   rw[hn1]at hjk
   have hfl:=zr4 (n:=k) (pv:=pv) (out:=zcg k pv j)
   have hl1:=(zjq hf).1
   have hml:=zxv (n:=k) (pv:=pv) (out:=zcg k pv j) (v:=v) (pre:=[])
   rw[hf]at hfl
   simp only[hf]
   have hl2:l=rdM k pv (zcg k pv j) v []:=hl1
   generalize hout:zcg k pv j=out at hI hj hn1 hjk hl1 hl2 ⊢
   simp at hjk hfl
   clear hl1
   subst hl2
   have ht1:(nsD (rdM k pv out v [])).take (rdM k pv out v []).length=nsD (rdM k pv out v []):=List.take_of_length_le (by rw[zad];exact Nat.le_refl _)
   have hvx:=hI.lt
   have hg0:(nsD (v::rdM k pv out v []))[0]? =some (iD (v:Int)):=rfl
   have hg1:(nsD (v::rdM k pv out v [])).drop 1=nsD (rdM k pv out v []):=rfl
   have hg2:=zcm (nx:=nx) (v:=v) (by omega)
   have hgl:=hnr v hvx
   refine zah (hK17 _ _ ?_)
   refine zae ?_
   refine szq hp (fun _ hZ=>zxy hg0 hZ) ?_
   refine zaj hp zam hc rfl fun K20 hK20=>?_
   simp -dsimp -implicitDefEqProofs (disch:=first|assumption|omega|(simp only[r_z,zad,zak,zdo,zdd]<;>omega)|decide) only[r_r,↓reduceIte,Nat.reduceEqDiff,Nat.reduceAdd,D.fix,Int.reduceToNat,Nat.reduceMul,Nat.reduceBNe,Nat.reduceBEq,gD,zan,hg1,ht1,List.length_cons,Nat.add_sub_cancel,zmd]
   refine hK20 _ _ ?_
   refine szq hp (fun _ hZ=>ze5 hZ) ?_
   refine szq hp (fun _ hZ=>zxy hg2 hZ) ?_
   refine zae ?_
   refine zao hp (fun τ' H' mm=>∃(i:Nat),(i≤(nth nx v).length)∧mm=(nth nx v).length - i∧H'=[.cells [.d (zan nx),.d (zan pv)],.cells (avs (nsD (wtL k pv out ((nth nx v).take i)))),.cells (avs (nsD (out++[v])))]∧τ'=frL [(4,.d (.val (.slice none 0 0))),(5,.d (iD 0)),(6,.op 0 0),(7,.os 1 1 0 k),(8,.d (.fs (nsD (rdM k pv out v ((nth nx v).take i))) (rdM k pv out v ((nth nx v).take i)).length)),(9,.os 1 2 0 (j+1)),(0,.d (iD (k:Int))),(60,.d (.fs (nsD (nth nx v)) (nth nx v).length)),(61,.d (iD (((nth nx v).length:Nat):Int))),(62,.d (iD (i:Int)))]) ((nth nx v).length) ?_ ⟨0,Nat.zero_le _,rfl,rfl,rfl⟩ ?_
   ·refine jba [0,1,4] ?_
    refine jbe ?_
    refine jgv ?_;rw[←zf8];rfl
   rintro τ' H' mm ⟨i,hi,rfl,rfl,rfl⟩
   refine szq hp (fun _ hZ=>ze5 hZ) ?_
   refine zab fun K24 hK24=>?_
   refine zai rfl (fun ht=>?_) (fun ht=>?_)
   ·have hil:i<(nth nx v).length:=by simp at ht;omega
    obtain⟨w,hw⟩:∃w,w=nth (nth nx v) i:=⟨_,rfl⟩
    have hwm:w∈nth nx v:=by rw[hw];exact za3 hil
    have hwn:w<k:=hI.two.ni v hvx w hwm
    have hwp:w∉(nth nx v).take i:=by rw[hw];exact jgu hI.nd hil
    have htk:(nth nx v).take (i+1)=(nth nx v).take i++[w]:=by rw[hw];exact zfo hil
    have hwpos:=jlr hI hwm
    have hg3:(nsD (nth nx v))[i]? =some (iD (w:Int)):=by rw[zbf hil,hw]
    have hg4:(nsD (wtL k pv out ((nth nx v).take i)))[w]? =some (iD ((wtN pv out w:Nat):Int)):=by
     rw[zbf (by rw[zdd];exact hwn),jd3 hwn,wtM,if_neg (by simpa using hwp),Nat.sub_zero]
    have hsub:((wtN pv out w:Nat):Int) - 1=((wtN pv out w - 1:Nat):Int):=by omega
    have hg5:(nsD (wtL k pv out ((nth nx v).take i++[w])))[w]? =some (iD ((wtN pv out w - 1:Nat):Int)):=by
     rw[zbf (by rw[zdd];exact hwn),jd3 hwn,zr3 hwp,if_pos rfl]
    have hwb:wtN pv out w≤100000:=Nat.le_trans (List.length_filter_le _ _) (hpr w hwn)
    clear hw
    have hrl:=zxv (n:=k) (pv:=pv) (out:=out) (v:=v) (pre:=(nth nx v).take i)
    refine zah (hK24 _ _ ?_)
    refine zab fun K25 hK25=>?_
    refine zae ?_
    refine szq hp (fun _ hZ=>zxy hg3 hZ) ?_
    refine zaj hp zam hc rfl fun K27 hK27=>?_
    simp -dsimp -implicitDefEqProofs (disch:=first|assumption|omega|(simp only[r_z,zad,zak,zdo,zdd]<;>omega)|decide) only[r_r,↓reduceIte,Nat.reduceEqDiff,Nat.reduceAdd,D.fix,Int.reduceToNat,Nat.reduceMul,Nat.reduceBNe,Nat.reduceBEq,gD,zan,hg4,hsub,zex,jgl hwp hwn,zmd]
    refine hK27 _ _ ?_
    refine szq hp (fun _ hZ=>zxy hg5 hZ) ?_
    refine zai rfl (fun ht=>?_) (fun ht=>?_)
    ·have hz:wtN pv out w=1:=by rw[beq_iff_eq]at ht;omega
     have hins:=jlu hI hwm hwp hz
     obtain⟨R,hRe⟩:∃R,R=rdM k pv out v ((nth nx v).take i):=⟨_,rfl⟩
     obtain⟨R',hRe'⟩:∃R',R'=rdM k pv out v ((nth nx v).take i++[w]):=⟨_,rfl⟩
     have hRu:R.Pairwise (·<·):=by rw[hRe];exact jlt
     rw[←hRe,←hRe']at hins
     rw[←hRe]at hrl
     rw[←hRe]
     obtain⟨m,hm⟩:∃m,m=(R.filter (·<w)).length:=⟨_,rfl⟩
     have hmle:m≤R.length:=by rw[hm];exact List.length_filter_le _ _
     have hbs:=zxx (w:=w) hRu (by omega)
     rw[←hm]at hbs hins
     have hRl:R'.length=R.length+1:=by
      have:=congrArg List.length hins
      rw[zg7 _ (by rw[zbe];exact hmle),zbe,zbe]at this
      omega
     refine zaj hp zam hc rfl fun K29 hK29=>?_
     refine ze5 ?_
     refine zbd (hbs) rfl ?_
     refine ze5 ?_
     refine hK29 _ _ ?_
     refine zba hp (τ':=frL [(0,.d (iD (k:Int))),(4,.d (.val (.slice none 0 0))),(5,.d (iD 0)),(6,.op 2 0),(7,.os 1 3 0 k),(8,.d (.fs (nsD R) R.length)),(9,.os 1 4 0 (j+1)),(13,.d (iD (w:Int))),(14,.d (iD (m:Int))),(60,.d (.fs (nsD (nth nx v)) (nth nx v).length)),(61,.d (iD (((nth nx v).length:Nat):Int))),(62,.d (iD (i:Int)))]) (H':=[.free,.free,.cells [.d (zan nx),.d (zan pv)],.cells (avs (nsD (wtL k pv out ((nth nx v).take i++[w])))),.cells (avs (nsD (out++[v])))]) ?_ ?_
     ·refine Rt.trans (Rt.fr1) ?_
      refine Rt.trans (Rt.fr1) ?_
      refine jba [3,4,0,1,2] ?_
      refine jbe ?_
      exact jrt
     refine za6 hp zam hc rfl fun K30 hK30=>?_
     refine ze5 ?_
     refine je6 (S:=[.free]) (T:=[.free,.cells [.d (zan nx),.d (zan pv)],.cells (avs (nsD (wtL k pv out ((nth nx v).take i++[w])))),.cells (avs (nsD (out++[v])))]) (jgt R (by omega)) rfl (by first|rfl|(simp[AV.allIs,AV.allI,za9,za0,za1,okI,ltI,zar,zbq];done)|(intro o ho;simp at ho;done)) (fun t=>zdm (by first|rfl|(simp[AV.allIs,AV.allI,za9,za0,za1,okI,ltI,zar,zbq];done)|(intro o ho;simp at ho;done)) t) (by first|rfl|(simp[AV.allIs,AV.allI,za9,za0,za1,okI,ltI,zar,zbq];done)|(intro o ho;simp at ho;done)) (by first|rfl|(simp[AV.allIs,AV.allI,za9,za0,za1,okI,ltI,zar,zbq];done)|(intro o ho;simp at ho;done)) (by first|rfl|(simp[AV.allIs,AV.allI,za9,za0,za1,okI,ltI,zar,zbq];done)|(intro o ho;simp at ho;done)) ?_
     rintro _ _ ⟨_,rfl,rfl,rfl⟩
     refine⟨rfl,?_⟩
     refine ze5 ?_
     have hfz2:fzV 1 (nsD R') (.os 1 1 0 (R.length+1))= .d (.fs (nsD R') (R.length+1)):=zji (zbt (by rw[zad];omega))
     have hR3:rdM k pv out v ((nth nx v).take (i+1))=R':=by rw[htk,hRe']
     have hwt:wtL k pv out ((nth nx v).take (i+1))=wtL k pv out ((nth nx v).take i++[w]):=by rw[htk]
     clear hRe hRe' htk hbs
     refine zk2 (jbd (id:=0) (vid:=5) (id':=1) (R:=R) (R':=R') (w:=w) rfl rfl rfl (by decide) hmle (by omega) hins rfl) ?_
     refine ze5 ?_
     refine hK30 _ _ (hK25 _ _ ?_)
     refine za6 hp zam hc rfl fun K31 hK31=>?_
     refine ze5 ?_
     refine hK31 _ _ ⟨_,_,_,?_,⟨i+1,hil,rfl,rfl,rfl⟩,?_⟩
     ·first|omega|(simp only[List.length_cons];omega)|(dsimp only;omega)
     ·refine Rt.trans (Rt.fz (id:=1) (l:=(nsD R')) rfl) ?_
      refine jba [2,3,4] ?_
      refine jbe ?_
      refine jgv ?_;rw[hwt]
    ·have hz:wtN pv out w≠1:=fun e=>by rw[e]at ht;cases ht
     have hs:=jgp (pre:=(nth nx v).take i) hI hwm hz
     refine zah (hK25 _ _ ?_)
     refine za6 hp zam hc rfl fun K32 hK32=>?_
     refine ze5 ?_
     refine hK32 _ _ ⟨_,_,_,?_,⟨i+1,hil,rfl,rfl,rfl⟩,?_⟩
     ·first|omega|(simp only[List.length_cons];omega)|(dsimp only;omega)
     ·refine jbe ?_
      refine jgv ?_;rw[htk]
   ·have hie:i=(nth nx v).length:=by simp at ht;omega
    rw[hie,List.take_length]
    simp only[jgm hI,jgn hI]
    refine zat ⟨_,_,_,?_,⟨j+1,by rw[hn1];simp[hj],rfl,rfl,rfl⟩,?_⟩
    ·first|omega|(simp only[List.length_cons];omega)|(dsimp only;omega)
    ·refine jbe ?_
     refine jgv ?_;rw[hn1]
  ·have hf0:zcf k pv (zcg k pv j)=[]:=by
    cases hh:zcf k pv (zcg k pv j)with
    |nil=>rfl
    |cons v l=>rw[hh]at ht;simp at ht;done
   have hfin:=zxw hf0 (by exact hj)
   rw[hfin,hj]at hR
   refine zat (hK16 _ _ ?_)
   refine zab fun K33 hK33=>?_
   refine szq hp (fun _ hZ=>ze5 hZ) ?_
   refine zai rfl (fun ht=>?_) (fun ht=>?_)
   ·have hjl:j<k:=by simp at ht;omega
    refine szq hp (fun _ hZ=>ztm hZ) ?_
    refine zaq ?_
    show closeA _ _=_
    refine jru ?_
    rw[hR,if_pos hjl];rfl
   ·have hjl:¬j<k:=by simp at ht;omega
    refine zah (hK33 _ _ ?_)
    refine szq hp (fun _ hZ=>ztm hZ) ?_
    refine zaq ?_
    show closeA _ _=_
    refine jru ?_
    rw[hR,if_neg hjl,zzf,hj];simp only[ze2];rfl
end Go.Proofs.Ytfolbdkbpmgjgaa
