/- Depths along an order. -/
import Derived.Test.YtfolbdkbpmgjgaaKv
import Derived.Test.YtfolbdkbpmgjgaaQr
import Derived.Test.YtfolbdkbpmgjgaaKm
set_option linter.unusedVariables false
set_option linter.unusedSimpArgs false
namespace Go.Proofs.Ytfolbdkbpmgjgaa
open Go Go.RowKit
section
def dpW(v:Nat)(out:List Nat)(w:Nat):List Nat:=out.set w (max (nth out w) (nth out v+1))
def dpV(next:List (List Nat))(out:List Nat)(v:Nat):List Nat:=(nth next v).foldl (dpW v) out
def dpO(n:Nat)(next:List (List Nat))(o:List Nat):List Nat:=o.foldl (dpV next) (List.replicate n 0)
section
variable {n:Nat} {next prev:List (List Nat)} (ht:Two n next prev)
include ht
end
/- Depth: walked. -/
set_option maxRecDepth 100000
set_option maxHeartbeats 4000000
end
theorem jfc:((((type_of% @zgp)∧((type_of% @zgq)∧(type_of% @zi2)))∧((type_of% @zjw)∧((type_of% @zc7)∧(type_of% @zc8))))∧(((type_of% @zdj)∧((type_of% @zdv)∧(type_of% @zdc)))∧((type_of% @zer)∧((type_of% @zfj)∧(type_of% @zes))))):=⟨⟨⟨@zgp,⟨@zgq,@zi2⟩⟩,⟨@zjw,⟨@zc7,@zc8⟩⟩⟩,⟨⟨@zdj,⟨@zdv,@zdc⟩⟩,⟨@zer,⟨@zfj,@zes⟩⟩⟩⟩
def jcg(n:Nat)(es:List Ed):List Nat × Int:=if(zd4 n es).2=0 then(dpO n (zat n es) (zd4 n es).1,0)else([],(zd4 n es).2)
theorem jfd{n:Nat}{es:List Ed}:∀v∈(zd4 n es).1,v<n:=by
 unfold zd4
 split
 ·intro v hv;cases hv
 ·exact(zsg n (za9 n es) n).lt
theorem jfe{n:Nat}{es:List Ed}:(zd4 n es).1.length≤n:=by
 unfold zd4
 split
 ·exact Nat.zero_le _
 ·exact zlj n
def dpK(n:Nat)(nx:List (List Nat))(o:List Nat)(k:Nat):List Nat:=(o.take k).foldl (dpV nx) (List.replicate n 0)
def dpJ(nx:List (List Nat))(v:Nat)(out:List Nat)(j:Nat):List Nat:=((nth nx v).take j).foldl (dpW v) out
def BdB(out:List Nat)(B:Nat):Prop:=∀x,nth out x≤B
theorem jj4(n:Nat):BdB (List.replicate n 0) 0:=fun x=>by
 unfold nth;rw[List.getD_eq_getElem?_getD,List.getElem?_replicate];split<;>simp
theorem jj5{out:List Nat}{B w x:Nat}(h:BdB out B)(hx:x≤B+1):BdB (out.set w x) (B+1):=fun y=>by
 by_cases e:y=w
 ·subst e
  by_cases hl:y<out.length
  ·rw[za2 hl];exact hx
  ·rw[List.set_eq_of_length_le (by omega)];have:=h y;omega
 ·rw[za3 (fun e2=>e e2.symm)];have:=h y;omega
theorem jff{out:List Nat}{B C:Nat}(h:BdB out B)(hc:B≤C):BdB out C:=fun x=>Nat.le_trans (h x) hc
theorem jmu{nx:List (List Nat)}{v:Nat}{out:List Nat}{j:Nat}(h:j<(nth nx v).length):dpJ nx v out (j+1)=dpW v (dpJ nx v out j) (nth (nth nx v) j):=by
 rw[dpJ,zea h,List.foldl_append];rfl
theorem jfg(nx:List (List Nat))(v:Nat)(out:List Nat):dpJ nx v out (nth nx v).length=dpV nx out v:=by rw[dpJ,List.take_length];rfl
theorem jmv{n:Nat}{nx:List (List Nat)}{o:List Nat}{k:Nat}(h:k<o.length):dpK n nx o (k+1)=dpV nx (dpK n nx o k) (nth o k):=by
 rw[dpK,zea h,List.foldl_append];rfl
theorem jfh(n:Nat)(nx:List (List Nat))(o:List Nat):dpK n nx o o.length=dpO n nx o:=by rw[dpK,List.take_length];rfl
theorem jfi{p q:Prop}(hq:q)(h:p=q:=by
 conv=>lhs;simp -dsimp -implicitDefEqProofs (disch:=first|assumption|omega|(simp only[r_z,zae,zag]<;>omega)|decide) only[r_r,↓reduceIte,Nat.reduceEqDiff,Nat.reduceAdd,D.fix,Int.reduceToNat,Nat.reduceMul,Nat.reduceBNe,Nat.reduceBEq,gD,zai]):p:=h.mpr hq
theorem zji{p q:Prop}(hq:q)(h:p=q:=by
 conv=>lhs;simp -dsimp -implicitDefEqProofs (disch:=first|assumption|omega|(simp only[r_z,zae,zag]<;>omega)|decide) only[r_r,↓reduceIte,Nat.reduceEqDiff,Nat.reduceAdd,D.fix,Int.reduceToNat,Nat.reduceMul,Nat.reduceBNe,Nat.reduceBEq,gD,zai,jfc]):p:=h.mpr hq
theorem jlf{m:List Nat}{τ τ':Fr}{H H':zaa}(h2:H=H')(h:zgm τ τ':=by
 repeat (first|exact zah _|refine zac ?_ (by first|rfl|(simp[r_f,zae,zag];done)|simp[r_f,zae,zag, *]))):Rt m τ H τ' H':=Rt.end h h2
theorem jfj{p q r:Prop}(e:r)(hq:q)(h:r→p=q:=by
 intro hY
 conv=>lhs;simp -dsimp -implicitDefEqProofs (disch:=first|assumption|omega|(simp only[r_z,zae,zag]<;>omega)|decide) only[r_r,↓reduceIte,Nat.reduceEqDiff,Nat.reduceAdd,D.fix,Int.reduceToNat,Nat.reduceMul,Nat.reduceBNe,Nat.reduceBEq,gD,zai,jfc,hY]):p:=(h e).mpr hq
theorem jon{p q:Prop}(hq:q)(h:p=q:=by
 conv=>lhs;simp (disch:=first|assumption|omega|(simp only[r_z,zae,zag]<;>omega)|decide) only[r_c,Nat.reduceAdd,D.fix,↓reduceIte,Nat.reduceEqDiff,gD,zai]):p:=h.mpr hq
theorem jmw{p:Prop}(h:p:=by
 first|rfl|(simp only[r_g,Nat.reduceAdd,↓reduceIte,Nat.reduceEqDiff,gD,zai];first|done|rfl)):p:=h
theorem jfk(n:Nat)(es:List Ed)(h:Gr n es):zaq Try.prog 40 [iD (n:Int),zal es] (zxx (jcg n es)):=by
 have hb:=h.b
 have hel:=h.l
 have hgr:=zjb h
 have hoc:=zww n es h
 have hR:jcg n es=if(zd4 n es).2=0 then(dpO n (zat n es) (zd4 n es).1,0)else([],(zd4 n es).2):=rfl
 have holt:=jfd (n:=n) (es:=es)
 have holl:=jfe (n:=n) (es:=es)
 have hnl:(zat n es).length=n:=za7 n es
 have hnr:∀u,u<n→(nth (zat n es) u).length≤100000:=fun u hu=>(h.next (st:=u) hu).r u
 have hni:∀u,u<n→∀w∈nth (zat n es) u,w<n:=h.two.ni
 have hoe:(zd4 n es).2=0∨(zd4 n es).2=50:=by unfold zd4;split<;>simp
 generalize zd4 n es=r at hoc hR holt holl hoe
 obtain⟨ol,oe⟩:=r
 rw[zxx]at hoc
 simp only at hoc hR holt holl hoe
 generalize zat n es=nx at hgr hR hnl hnr hni
 generalize za9 n es=pv at hgr
 refine zay (fn:=Try.f40) (by kernel_rfl) Try.func40 rfl (Nat.le_of_ble_eq_true rfl) fun c hc hp=>?_
 refine zau (τ':=frL [(0,.d (iD (n:Int))),(1,.d (zal es))]) (by repeat (first|exact zah _|refine zac ?_ (by first|rfl|(simp[r_f,zae,zag];done)|simp[r_f,zae,zag, *]))) ?_
 refine szq hp (fun _ hZ=>jfi hZ) ?_
 refine zad hp zao hc rfl fun K2 hK2=>?_
 refine zji ?_
 refine zbb (hoc) rfl ?_
 refine zji ?_
 refine hK2 _ _ ?_
 refine zab fun K3 hK3=>?_
 refine szq hp (fun _ hZ=>zji hZ) ?_
 refine zam rfl (fun ht=>?_) (fun ht=>?_)
 ·have hne:oe≠0:=fun e=>by rw[e]at ht;cases ht
  refine szq hp (fun _ hZ=>jfi hZ) ?_
  refine zar ?_
  show closeA _ _=_
  refine jon ?_
  rw[hR,if_neg hne];rfl
 ·have he:oe=0:=by rcases hoe with e|e;exact e;rw[e]at ht;cases ht
  rw[if_pos he]at hR
  refine zak (hK3 _ _ ?_)
  refine zad hp zao hc rfl fun K6 hK6=>?_
  refine zji ?_
  refine zbb (hgr) rfl ?_
  refine zji ?_
  refine hK6 _ _ ?_
  refine szq hp (fun _ hZ=>zji hZ) ?_
  refine zab fun K8 hK8=>?_
  refine szq hp (fun _ hZ=>zji hZ) ?_
  refine zaf ?_
  refine zas hp (fun τ' H' mm=>∃(k:Nat) (out:List Nat),(k≤ol.length∧out=dpK n nx ol k∧out.length=n∧BdB out (k*100000))∧mm=ol.length - k∧H'=[.cells [.d (zai nx),.d (zai pv)],.cells (avs (nsD out))]∧τ'=frL [(4,.d (.val (.slice none 0 0))),(5,.d (iD 0)),(8,.op 0 0),(9,.os 1 1 0 n),(28,.d (.fs (nsD ol) ol.length)),(29,.d (iD ((ol.length:Nat):Int))),(30,.d (iD (k:Int)))]) (ol.length) ?_ ⟨0,List.replicate n 0,⟨Nat.zero_le _,rfl,by simp,by simpa using jj4 n⟩,rfl,rfl,rfl⟩ ?_
  ·refine Rt.trans (Rt.gc (keep:=[0,1]) (by decide) (by decide) (by simp[fzH,gcH])) ?_
   refine jlf ?_
   simp only[r_g,Nat.reduceAdd,↓reduceIte,Nat.reduceEqDiff,gD,zai];rw[zkn];rfl
  rintro τ' H' mm ⟨k,out,⟨hk,hout,hol,hbd⟩,rfl,rfl,rfl⟩
  refine szq hp (fun _ hZ=>zji hZ) ?_
  refine zab fun K11 hK11=>?_
  refine zam rfl (fun ht=>?_) (fun ht=>?_)
  ·have hkl:k<ol.length:=by simp at ht;omega
   obtain⟨v,hv⟩:∃v,v=nth ol k:=⟨_,rfl⟩
   have hvn:v<n:=by rw[hv];exact holt _ (zbe hkl)
   have hg0:(nsD ol)[k]? =some (iD (v:Int)):=by rw[zbi hkl,hv]
   have hg2:=zcu (nx:=nx) (v:=v) (by omega)
   have hgl:=hnr v hvn
   have hnx:=jmv (n:=n) (nx:=nx) hkl
   rw[←hout,←hv]at hnx
   clear hv
   refine zak (hK11 _ _ ?_)
   refine zab fun K12 hK12=>?_
   refine zaf ?_
   refine szq hp (fun _ hZ=>jfj hg0 hZ) ?_
   refine szq hp (fun _ hZ=>jfj hg2 hZ) ?_
   refine zaf ?_
   refine zas hp (fun τ' H' mm=>∃(j:Nat) (o:List Nat),(j≤(nth nx v).length∧o=dpJ nx v out j∧o.length=n∧BdB o (k*100000+j))∧mm=(nth nx v).length - j∧H'=[.cells [.d (zai nx),.d (zai pv)],.cells (avs (nsD o))]∧τ'=frL [(4,.d (.val (.slice none 0 0))),(5,.d (iD 0)),(8,.op 0 0),(9,.os 1 1 0 n),(11,.d (iD (v:Int))),(28,.d (.fs (nsD ol) ol.length)),(29,.d (iD ((ol.length:Nat):Int))),(30,.d (iD (k:Int))),(38,.d (.fs (nsD (nth nx v)) (nth nx v).length)),(39,.d (iD (((nth nx v).length:Nat):Int))),(40,.d (iD (j:Int)))]) ((nth nx v).length) ?_ ⟨0,out,⟨Nat.zero_le _,rfl,hol,by simpa using hbd⟩,rfl,rfl,rfl⟩ ?_
   ·refine jlf ?_
    exact jmw
   rintro τ' H' mm ⟨j,o,⟨hj,ho,hl,hbo⟩,rfl,rfl,rfl⟩
   refine szq hp (fun _ hZ=>zji hZ) ?_
   refine zab fun K16 hK16=>?_
   refine zam rfl (fun ht=>?_) (fun ht=>?_)
   ·have hjl:j<(nth nx v).length:=by simp at ht;omega
    obtain⟨w,hw⟩:∃w,w=nth (nth nx v) j:=⟨_,rfl⟩
    have hwm:w∈nth nx v:=by rw[hw];exact zbe hjl
    have hwn:w<n:=hni v hvn w hwm
    have hg3:(nsD (nth nx v))[j]? =some (iD (w:Int)):=by rw[zbi hjl,hw]
    have hg4:(nsD o)[w]? =some (iD ((nth o w:Nat):Int)):=zbi (by omega)
    have hg5:(nsD o)[v]? =some (iD ((nth o v:Nat):Int)):=zbi (by omega)
    have hmx:max ((nth o w:Nat):Int) (((nth o v:Nat):Int)+1)=((max (nth o w) (nth o v+1):Nat):Int):=by omega
    have hs:=jmu (out:=out) hjl
    rw[←ho,←hw]at hs
    have b1:=hbo w
    have b2:=hbo v
    clear hw
    have hb3:BdB (dpW v o w) (k*100000+(j+1)):=by
     have:=jj5 (w:=w) (x:=max (nth o w) (nth o v+1)) hbo (by omega)
     rw[Nat.add_assoc]at this
     exact this
    refine zak (hK16 _ _ ?_)
    refine zab fun K17 hK17=>?_
    refine zaf ?_
    refine szq hp (fun _ hZ=>jfj hg3 hZ) ?_
    refine ziw zao hc mixed rfl (q:=0) (by kernel_rfl) (by kernel_rfl) fun K19 hK19=>?_
    simp -dsimp -implicitDefEqProofs (disch:=first|assumption|omega|(simp only[r_z,zae,zag]<;>omega)|decide) only[r_r,↓reduceIte,Nat.reduceEqDiff,Nat.reduceAdd,D.fix,Int.reduceToNat,Nat.reduceMul,Nat.reduceBNe,Nat.reduceBEq,gD,zai,hg4,hg5,hmx,zga,jfc]
    refine hK19 _ _ (hK17 _ _ ?_)
    refine zbj hp zao hc rfl fun K20 hK20=>?_
    refine zji ?_
    refine hK20 _ _ ⟨_,_,_,?_,⟨j+1,dpW v o w,⟨by omega,hs.symm,by simp[dpW,hl],hb3⟩,rfl,rfl,rfl⟩,?_⟩
    ·first|omega|(simp only[List.length_cons];omega)|(dsimp only;omega)
    ·refine jlf ?_
     exact jmw
   ·have hje:j=(nth nx v).length:=by simp at ht;omega
    subst hje
    rw[jfg]at ho
    refine za0 (hK12 _ _ ?_)
    refine zbj hp zao hc rfl fun K21 hK21=>?_
    refine zji ?_
    refine hK21 _ _ ⟨_,_,_,?_,⟨k+1,o,⟨by omega,by rw[hnx];exact ho,hl,jff hbo (by omega)⟩,rfl,rfl,rfl⟩,?_⟩
    ·first|omega|(simp only[List.length_cons];omega)|(dsimp only;omega)
    ·refine jlf ?_
     exact jmw
  ·have hke:k=ol.length:=by simp at ht;omega
   subst hke
   rw[jfh]at hout
   refine za0 (hK8 _ _ ?_)
   refine szq hp (fun _ hZ=>jfi hZ) ?_
   refine zar ?_
   show closeA _ _=_
   refine jon ?_
   rw[hR,←hout,zxx,hol];simp only[zht];rfl
end Go.Proofs.Ytfolbdkbpmgjgaa
