/- Depths along an order. -/
import Derived.Test.YtfolbdkbpmgjgaaKv
import Derived.Test.YtfolbdkbpmgjgaaQr
import Derived.Test.YtfolbdkbpmgjgaaKm
set_option linter.unusedVariables false
set_option linter.unusedSimpArgs false
namespace Go.Proofs.Ytfolbdkbpmgjgaa
open Go Go.RowKit
section
def dpW(v:Nat)(out:List Nat)(w:Nat):List Nat:=out.set w (max (nth out w) (nth out v+1))
def dpV(next:List (List Nat))(out:List Nat)(v:Nat):List Nat:=(nth next v).foldl (dpW v) out
def dpO(n:Nat)(next:List (List Nat))(o:List Nat):List Nat:=o.foldl (dpV next) (List.replicate n 0)
structure DpI (n:Nat) (prev:List (List Nat)) (P:Nat→Nat→Prop) (out:List Nat):Prop where
 l:out.length=n
 up:∀w,w<n→∀u∈nth prev w,P u w→nth out u+1≤nth out w
 ex:∀w,w<n→nth out w=0∨∃u∈nth prev w,P u w∧nth out w=nth out u+1
theorem DpI.to{n:Nat}{prev:List (List Nat)}{P Q:Nat→Nat→Prop}{out:List Nat}(h:DpI n prev P out)(e:∀w,w<n→∀u∈nth prev w,P u w↔Q u w):DpI n prev Q out:=
 ⟨h.l,fun w hw u hu q=>h.up w hw u hu ((e w hw u hu).2 q),fun w hw=>(h.ex w hw).imp id fun⟨u,hu,p,x⟩=>⟨u,hu,(e w hw u hu).1 p,x⟩⟩
section
variable {n:Nat} {next prev:List (List Nat)} (ht:Two n next prev)
include ht
theorem jpt{P:Nat→Nat→Prop}{out:List Nat}{v w:Nat}(h:DpI n prev P out)(hv:v<n)(hw:w∈nth next v)(hne:w≠v)(hP:∀u x,P u x→u≠w):DpI n prev (fun u x=>P u x∨(u=v∧x=w)) (dpW v out w):=by
 have hwn:=ht.ni v hv w hw
 have hwp:=(ht.iff v w hv hwn).1 hw
 have hs:nth (dpW v out w) w=max (nth out w) (nth out v+1):=zaz (by rw[h.l];exact hwn)
 have ho:∀x,x≠w→nth (dpW v out w) x=nth out x:=fun x hx=>zax fun e=>hx e.symm
 refine⟨by simp[dpW,h.l],fun x hx u hu hPu=>?_,fun x hx=>?_⟩
 ·rcases hPu with hPu|⟨rfl,rfl⟩
  ·rw[ho u (hP u x hPu)]
   have h1:=h.up x hx u hu hPu
   by_cases e:x=w
   ·subst e;rw[hs];omega
   ·rw[ho x e];exact h1
  ·rw[hs,ho u (fun e=>hne e.symm)];omega
 ·by_cases e:x=w
  ·subst e
   rw[hs]
   by_cases hm:nth out x≤nth out v+1
   ·refine .inr ⟨v,hwp,.inr ⟨rfl,rfl⟩,?_⟩
    rw[ho v (fun e=>hne e.symm)];omega
   ·rcases h.ex x hx with h0|⟨u,hu,hPu,h1⟩
    ·omega
    ·refine .inr ⟨u,hu,.inl hPu,?_⟩
     rw[ho u (hP u x hPu)];omega
  ·rw[ho x e]
   rcases h.ex x hx with h0|⟨u,hu,hPu,h1⟩
   ·exact .inl h0
   ·exact .inr ⟨u,hu,.inl hPu,by rw[ho u (hP u x hPu)];exact h1⟩
theorem jpu{pre:List Nat}{out:List Nat}{v:Nat}(h:DpI n prev (fun u _=>u∈pre) out)(hv:v<n)(hn:∀w∈nth next v,w∉pre++[v]):DpI n prev (fun u _=>u∈pre++[v]) (dpV next out v):=by
 have key:∀(r row:List Nat) (out:List Nat),DpI n prev (fun u x=>u∈pre∨(u=v∧x∈row)) out→(∀w∈r,w∈nth next v)→DpI n prev (fun u x=>u∈pre∨(u=v∧x∈row++r)) (r.foldl (dpW v) out):=by
  intro r
  induction r with
  |nil=>intro row out h _;simpa using h
  |cons w r ih=>
   intro row out h hr
   have hwv:=hr w (by simp)
   have hnw:=hn w hwv
   rw[List.mem_append,List.mem_singleton,not_or]at hnw
   have h1:=jpt ht h hv hwv hnw.2 fun u x hu e=>by
    subst e
    rcases hu with hu|⟨hu,_⟩
    ·exact hnw.1 hu
    ·exact hnw.2 hu
   have h2:=ih (row++[w]) (dpW v out w) (h1.to fun x hx u hu=>by
    simp only[List.mem_append,List.mem_singleton]
    constructor
    ·rintro((h|⟨h,h'⟩)|⟨h,h'⟩)
     ·exact .inl h
     ·exact .inr ⟨h,.inl h'⟩
     ·exact .inr ⟨h,.inr h'⟩
    ·rintro(h|⟨h,h'|h'⟩)
     ·exact .inl (.inl h)
     ·exact .inl (.inr ⟨h,h'⟩)
     ·exact .inr ⟨h,h'⟩) fun x hx=>hr x (by simp[hx])
   rw[List.append_assoc]at h2
   exact h2
 have h1:=key (nth next v) [] out (h.to fun w hw u hu=>by simp) fun w hw=>hw
 refine h1.to fun w hw u hu=>?_
 rw[List.nil_append,List.mem_append,List.mem_singleton]
 refine⟨fun o=>o.imp id fun q=>q.1,fun o=>o.imp id fun e=>?_⟩
 subst e
 exact⟨rfl,(ht.iff u w hv hw).2 hu⟩
theorem jl8{o:List Nat}(h:OrI n prev o):∀k,k≤o.length→DpI n prev (fun u _=>u∈o.take k) ((o.take k).foldl (dpV next) (List.replicate n 0))
 |0,_=>⟨by simp,fun w hw u hu p=>by simp at p,fun w hw=>.inl (by
  show nth (List.replicate n 0) w=0
  rw[za5 (by simpa using hw)];simp)⟩
 |k+1,hk=>by
  have ih:=jl8 h k (by omega)
  have e:o.take (k+1)=o.take k++[nth o k]:=zlq (by omega)
  rw[e,List.foldl_append]
  show DpI n prev _ (dpV next _ (nth o k))
  have hvn:=h.lt _ (za3 (l:=o) (k:=k) (by omega))
  refine jpu ht ih hvn fun w hw hm=>?_
  have hwn:=ht.ni _ hvn w hw
  have hp:=(ht.iff _ w hvn hwn).1 hw
  rw[←e]at hm
  obtain⟨j,hj,hj2,ej⟩:=zg5 hm
  rw[←ej]at hp
  obtain⟨i,hi,hi2,ei⟩:=zg5 (h.pr j hj2 _ hp)
  have:=zgk h.nd hi2 (by omega) ei
  omega
theorem jl9{o:List Nat}(h:OrI n prev o)(hn:o.length=n):DpI n prev (fun _ _=>True) (dpO n next o):=by
 have:=jl8 ht h o.length (Nat.le_refl _)
 rw[List.take_length]at this
 exact this.to fun w hw u hu=>⟨fun _=>trivial,fun _=>zk3 h.nd h.lt hn (ht.pi w hw u hu)⟩
end
/- Depth: walked. -/
set_option maxRecDepth 100000
set_option maxHeartbeats 4000000
end
theorem jg7:((((type_of% @zea)∧((type_of% @zeb)∧(type_of% @zjk)))∧((type_of% @zke)∧((type_of% @zcy)∧(type_of% @zcz))))∧(((type_of% @zb8)∧((type_of% @zcl)∧(type_of% @zdn)))∧((type_of% @ze3)∧((type_of% @zfx)∧(type_of% @zeh))))):=⟨⟨⟨@zea,⟨@zeb,@zjk⟩⟩,⟨@zke,⟨@zcy,@zcz⟩⟩⟩,⟨⟨@zb8,⟨@zcl,@zdn⟩⟩,⟨@ze3,⟨@zfx,@zeh⟩⟩⟩⟩
def zoe(n:Nat)(es:List Ed):List Nat × Int:=if(zdv n es).2=0 then(dpO n (zav n es) (zdv n es).1,0)else([],(zdv n es).2)
theorem jg8{n:Nat}{es:List Ed}:∀v∈(zdv n es).1,v<n:=by
 unfold zdv
 split
 ·intro v hv;cases hv
 ·exact(ztc n (zay n es) n).lt
theorem zx6{n:Nat}{es:List Ed}:(zdv n es).1.length≤n:=by
 unfold zdv
 split
 ·exact Nat.zero_le _
 ·exact zl2 n
def dpK(n:Nat)(nx:List (List Nat))(o:List Nat)(k:Nat):List Nat:=(o.take k).foldl (dpV nx) (List.replicate n 0)
def dpJ(nx:List (List Nat))(v:Nat)(out:List Nat)(j:Nat):List Nat:=((nth nx v).take j).foldl (dpW v) out
def BdB(out:List Nat)(B:Nat):Prop:=∀x,nth out x≤B
theorem jma(n:Nat):BdB (List.replicate n 0) 0:=fun x=>by
 unfold nth;rw[List.getD_eq_getElem?_getD,List.getElem?_replicate];split<;>simp
theorem jmb{out:List Nat}{B w x:Nat}(h:BdB out B)(hx:x≤B+1):BdB (out.set w x) (B+1):=fun y=>by
 by_cases e:y=w
 ·subst e
  by_cases hl:y<out.length
  ·rw[zaz hl];exact hx
  ·rw[List.set_eq_of_length_le (by omega)];have:=h y;omega
 ·rw[zax (fun e2=>e e2.symm)];have:=h y;omega
theorem jg9{out:List Nat}{B C:Nat}(h:BdB out B)(hc:B≤C):BdB out C:=fun x=>Nat.le_trans (h x) hc
theorem jpv{nx:List (List Nat)}{v:Nat}{out:List Nat}{j:Nat}(h:j<(nth nx v).length):dpJ nx v out (j+1)=dpW v (dpJ nx v out j) (nth (nth nx v) j):=by
 rw[dpJ,zfo h,List.foldl_append];rfl
theorem jha(nx:List (List Nat))(v:Nat)(out:List Nat):dpJ nx v out (nth nx v).length=dpV nx out v:=by rw[dpJ,List.take_length];rfl
theorem jpw{n:Nat}{nx:List (List Nat)}{o:List Nat}{k:Nat}(h:k<o.length):dpK n nx o (k+1)=dpV nx (dpK n nx o k) (nth o k):=by
 rw[dpK,zfo h,List.foldl_append];rfl
theorem jhb(n:Nat)(nx:List (List Nat))(o:List Nat):dpK n nx o o.length=dpO n nx o:=by rw[dpK,List.take_length];rfl
theorem jhc{p q:Prop}(hq:q)(h:p=q:=by
 conv=>lhs;simp -dsimp -implicitDefEqProofs (disch:=first|assumption|omega|(simp only[r_z,zad,zak]<;>omega)|decide) only[r_r,↓reduceIte,Nat.reduceEqDiff,Nat.reduceAdd,D.fix,Int.reduceToNat,Nat.reduceMul,Nat.reduceBNe,Nat.reduceBEq,gD,zan]):p:=h.mpr hq
theorem zjz{p q:Prop}(hq:q)(h:p=q:=by
 conv=>lhs;simp -dsimp -implicitDefEqProofs (disch:=first|assumption|omega|(simp only[r_z,zad,zak]<;>omega)|decide) only[r_r,↓reduceIte,Nat.reduceEqDiff,Nat.reduceAdd,D.fix,Int.reduceToNat,Nat.reduceMul,Nat.reduceBNe,Nat.reduceBEq,gD,zan,jg7]):p:=h.mpr hq
theorem jod{m:List Nat}{τ τ':Fr}{H H':zaa}(h2:H=H')(h:zez τ τ':=by
 repeat (first|exact zal _|refine zaf ?_ (by first|rfl|(simp[r_f,zad,zak];done)|simp[r_f,zad,zak, *]))):Rt m τ H τ' H':=Rt.end h h2
theorem jhd{p q r:Prop}(e:r)(hq:q)(h:r→p=q:=by
 intro hY
 conv=>lhs;simp -dsimp -implicitDefEqProofs (disch:=first|assumption|omega|(simp only[r_z,zad,zak]<;>omega)|decide) only[r_r,↓reduceIte,Nat.reduceEqDiff,Nat.reduceAdd,D.fix,Int.reduceToNat,Nat.reduceMul,Nat.reduceBNe,Nat.reduceBEq,gD,zan,jg7,hY]):p:=(h e).mpr hq
theorem jry{p q:Prop}(hq:q)(h:p=q:=by
 conv=>lhs;simp (disch:=first|assumption|omega|(simp only[r_z,zad,zak]<;>omega)|decide) only[r_c,Nat.reduceAdd,D.fix,↓reduceIte,Nat.reduceEqDiff,gD,zan]):p:=h.mpr hq
theorem jpx{p:Prop}(h:p:=by
 first|rfl|(simp only[r_g,Nat.reduceAdd,↓reduceIte,Nat.reduceEqDiff,gD,zan];first|done|rfl)):p:=h
theorem jhe(n:Nat)(es:List Ed)(h:Gr n es):zas Try.prog 40 [iD (n:Int),zag es] (zzf (zoe n es)):=by
 have hb:=h.b
 have hel:=h.l
 have hgr:=zju h
 have hoc:=zxz n es h
 have hR:zoe n es=if(zdv n es).2=0 then(dpO n (zav n es) (zdv n es).1,0)else([],(zdv n es).2):=rfl
 have holt:=jg8 (n:=n) (es:=es)
 have holl:=zx6 (n:=n) (es:=es)
 have hnl:(zav n es).length=n:=zbb n es
 have hnr:∀u,u<n→(nth (zav n es) u).length≤100000:=fun u hu=>(h.next (st:=u) hu).r u
 have hni:∀u,u<n→∀w∈nth (zav n es) u,w<n:=h.two.ni
 have hoe:(zdv n es).2=0∨(zdv n es).2=50:=by unfold zdv;split<;>simp
 generalize zdv n es=r at hoc hR holt holl hoe
 obtain⟨ol,oe⟩:=r
 rw[zzf]at hoc
 simp only at hoc hR holt holl hoe
 generalize zav n es=nx at hgr hR hnl hnr hni
 generalize zay n es=pv at hgr
 refine zau (fn:=Try.f40) (by kernel_rfl) Try.func40 rfl (Nat.le_of_ble_eq_true rfl) fun c hc hp=>?_
 refine zaw (τ':=frL [(0,.d (iD (n:Int))),(1,.d (zag es))]) (by repeat (first|exact zal _|refine zaf ?_ (by first|rfl|(simp[r_f,zad,zak];done)|simp[r_f,zad,zak, *]))) ?_
 refine szq hp (fun _ hZ=>jhc hZ) ?_
 refine zaj hp zam hc rfl fun K2 hK2=>?_
 refine zjz ?_
 refine zbd (hoc) rfl ?_
 refine zjz ?_
 refine hK2 _ _ ?_
 refine zab fun K3 hK3=>?_
 refine szq hp (fun _ hZ=>zjz hZ) ?_
 refine zai rfl (fun ht=>?_) (fun ht=>?_)
 ·have hne:oe≠0:=fun e=>by rw[e]at ht;cases ht
  refine szq hp (fun _ hZ=>jhc hZ) ?_
  refine zaq ?_
  show closeA _ _=_
  refine jry ?_
  rw[hR,if_neg hne];rfl
 ·have he:oe=0:=by rcases hoe with e|e;exact e;rw[e]at ht;cases ht
  rw[if_pos he]at hR
  refine zah (hK3 _ _ ?_)
  refine zaj hp zam hc rfl fun K6 hK6=>?_
  refine zjz ?_
  refine zbd (hgr) rfl ?_
  refine zjz ?_
  refine hK6 _ _ ?_
  refine szq hp (fun _ hZ=>zjz hZ) ?_
  refine zab fun K8 hK8=>?_
  refine szq hp (fun _ hZ=>zjz hZ) ?_
  refine zae ?_
  refine zao hp (fun τ' H' mm=>∃(k:Nat) (out:List Nat),(k≤ol.length∧out=dpK n nx ol k∧out.length=n∧BdB out (k*100000))∧mm=ol.length - k∧H'=[.cells [.d (zan nx),.d (zan pv)],.cells (avs (nsD out))]∧τ'=frL [(4,.d (.val (.slice none 0 0))),(5,.d (iD 0)),(8,.op 0 0),(9,.os 1 1 0 n),(28,.d (.fs (nsD ol) ol.length)),(29,.d (iD ((ol.length:Nat):Int))),(30,.d (iD (k:Int)))]) (ol.length) ?_ ⟨0,List.replicate n 0,⟨Nat.zero_le _,rfl,by simp,by simpa using jma n⟩,rfl,rfl,rfl⟩ ?_
  ·refine Rt.trans (Rt.gc (keep:=[0,1]) (by decide) (by decide) (by simp[fzH,gcH])) ?_
   refine jod ?_
   simp only[r_g,Nat.reduceAdd,↓reduceIte,Nat.reduceEqDiff,gD,zan];rw[zh8];rfl
  rintro τ' H' mm ⟨k,out,⟨hk,hout,hol,hbd⟩,rfl,rfl,rfl⟩
  refine szq hp (fun _ hZ=>zjz hZ) ?_
  refine zab fun K11 hK11=>?_
  refine zai rfl (fun ht=>?_) (fun ht=>?_)
  ·have hkl:k<ol.length:=by simp at ht;omega
   obtain⟨v,hv⟩:∃v,v=nth ol k:=⟨_,rfl⟩
   have hvn:v<n:=by rw[hv];exact holt _ (za3 hkl)
   have hg0:(nsD ol)[k]? =some (iD (v:Int)):=by rw[zbf hkl,hv]
   have hg2:=zcm (nx:=nx) (v:=v) (by omega)
   have hgl:=hnr v hvn
   have hnx:=jpw (n:=n) (nx:=nx) hkl
   rw[←hout,←hv]at hnx
   clear hv
   refine zah (hK11 _ _ ?_)
   refine zab fun K12 hK12=>?_
   refine zae ?_
   refine szq hp (fun _ hZ=>jhd hg0 hZ) ?_
   refine szq hp (fun _ hZ=>jhd hg2 hZ) ?_
   refine zae ?_
   refine zao hp (fun τ' H' mm=>∃(j:Nat) (o:List Nat),(j≤(nth nx v).length∧o=dpJ nx v out j∧o.length=n∧BdB o (k*100000+j))∧mm=(nth nx v).length - j∧H'=[.cells [.d (zan nx),.d (zan pv)],.cells (avs (nsD o))]∧τ'=frL [(4,.d (.val (.slice none 0 0))),(5,.d (iD 0)),(8,.op 0 0),(9,.os 1 1 0 n),(11,.d (iD (v:Int))),(28,.d (.fs (nsD ol) ol.length)),(29,.d (iD ((ol.length:Nat):Int))),(30,.d (iD (k:Int))),(38,.d (.fs (nsD (nth nx v)) (nth nx v).length)),(39,.d (iD (((nth nx v).length:Nat):Int))),(40,.d (iD (j:Int)))]) ((nth nx v).length) ?_ ⟨0,out,⟨Nat.zero_le _,rfl,hol,by simpa using hbd⟩,rfl,rfl,rfl⟩ ?_
   ·refine jod ?_
    exact jpx
   rintro τ' H' mm ⟨j,o,⟨hj,ho,hl,hbo⟩,rfl,rfl,rfl⟩
   refine szq hp (fun _ hZ=>zjz hZ) ?_
   refine zab fun K16 hK16=>?_
   refine zai rfl (fun ht=>?_) (fun ht=>?_)
   ·have hjl:j<(nth nx v).length:=by simp at ht;omega
    obtain⟨w,hw⟩:∃w,w=nth (nth nx v) j:=⟨_,rfl⟩
    have hwm:w∈nth nx v:=by rw[hw];exact za3 hjl
    have hwn:w<n:=hni v hvn w hwm
    have hg3:(nsD (nth nx v))[j]? =some (iD (w:Int)):=by rw[zbf hjl,hw]
    have hg4:(nsD o)[w]? =some (iD ((nth o w:Nat):Int)):=zbf (by omega)
    have hg5:(nsD o)[v]? =some (iD ((nth o v:Nat):Int)):=zbf (by omega)
    have hmx:max ((nth o w:Nat):Int) (((nth o v:Nat):Int)+1)=((max (nth o w) (nth o v+1):Nat):Int):=by omega
    have hs:=jpv (out:=out) hjl
    rw[←ho,←hw]at hs
    have b1:=hbo w
    have b2:=hbo v
    clear hw
    have hb3:BdB (dpW v o w) (k*100000+(j+1)):=by
     have:=jmb (w:=w) (x:=max (nth o w) (nth o v+1)) hbo (by omega)
     rw[Nat.add_assoc]at this
     exact this
    refine zah (hK16 _ _ ?_)
    refine zab fun K17 hK17=>?_
    refine zae ?_
    refine szq hp (fun _ hZ=>jhd hg3 hZ) ?_
    refine zjf zam hc mixed rfl (q:=0) (by kernel_rfl) (by kernel_rfl) fun K19 hK19=>?_
    simp -dsimp -implicitDefEqProofs (disch:=first|assumption|omega|(simp only[r_z,zad,zak]<;>omega)|decide) only[r_r,↓reduceIte,Nat.reduceEqDiff,Nat.reduceAdd,D.fix,Int.reduceToNat,Nat.reduceMul,Nat.reduceBNe,Nat.reduceBEq,gD,zan,hg4,hg5,hmx,zex,jg7]
    refine hK19 _ _ (hK17 _ _ ?_)
    refine za6 hp zam hc rfl fun K20 hK20=>?_
    refine zjz ?_
    refine hK20 _ _ ⟨_,_,_,?_,⟨j+1,dpW v o w,⟨by omega,hs.symm,by simp[dpW,hl],hb3⟩,rfl,rfl,rfl⟩,?_⟩
    ·first|omega|(simp only[List.length_cons];omega)|(dsimp only;omega)
    ·refine jod ?_
     exact jpx
   ·have hje:j=(nth nx v).length:=by simp at ht;omega
    subst hje
    rw[jha]at ho
    refine zat (hK12 _ _ ?_)
    refine za6 hp zam hc rfl fun K21 hK21=>?_
    refine zjz ?_
    refine hK21 _ _ ⟨_,_,_,?_,⟨k+1,o,⟨by omega,by rw[hnx];exact ho,hl,jg9 hbo (by omega)⟩,rfl,rfl,rfl⟩,?_⟩
    ·first|omega|(simp only[List.length_cons];omega)|(dsimp only;omega)
    ·refine jod ?_
     exact jpx
  ·have hke:k=ol.length:=by simp at ht;omega
   subst hke
   rw[jhb]at hout
   refine zat (hK8 _ _ ?_)
   refine szq hp (fun _ hZ=>jhc hZ) ?_
   refine zaq ?_
   show closeA _ _=_
   refine jry ?_
   rw[hR,←hout,zzf,hol];simp only[ze2];rfl
end Go.Proofs.Ytfolbdkbpmgjgaa
