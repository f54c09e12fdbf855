/- Depths along an order. -/
import Derived.Test.YtfolbdkbpmgjgaaKv
import Derived.Test.YtfolbdkbpmgjgaaQr
import Derived.Test.YtfolbdkbpmgjgaaKm
set_option linter.unusedVariables false
set_option linter.unusedSimpArgs false
namespace Go.Proofs.Ytfolbdkbpmgjgaa
open Go Go.RowKit
section
def dpW(v:Nat)(out:List Nat)(w:Nat):List Nat:=out.set w (max (nth out w) (nth out v+1))
def dpV(next:List (List Nat))(out:List Nat)(v:Nat):List Nat:=(nth next v).foldl (dpW v) out
def dpO(n:Nat)(next:List (List Nat))(o:List Nat):List Nat:=o.foldl (dpV next) (List.replicate n 0)
section
variable {n:Nat} {next prev:List (List Nat)} (ht:Two n next prev)
include ht
end
/- Depth: walked. -/
set_option maxRecDepth 100000
set_option maxHeartbeats 4000000
end
theorem jen:((((type_of% @zg1)∧((type_of% @zg2)∧(type_of% @zit)))∧((type_of% @zji)∧((type_of% @zc5)∧(type_of% @zc6))))∧(((type_of% @zdg)∧((type_of% @zdv)∧(type_of% @zda)))∧((type_of% @zeo)∧((type_of% @zfj)∧(type_of% @zd4))))):=⟨⟨⟨@zg1,⟨@zg2,@zit⟩⟩,⟨@zji,⟨@zc5,@zc6⟩⟩⟩,⟨⟨@zdg,⟨@zdv,@zda⟩⟩,⟨@zeo,⟨@zfj,@zd4⟩⟩⟩⟩
def jbp(n:Nat)(es:List Ed):List Nat × Int:=if(zer n es).2=0 then(dpO n (za5 n es) (zer n es).1,0)else([],(zer n es).2)
theorem jeo{n:Nat}{es:List Ed}:∀v∈(zer n es).1,v<n:=by
 unfold zer
 split
 ·intro v hv;cases hv
 ·exact(zrs n (zbe n es) n).lt
theorem jep{n:Nat}{es:List Ed}:(zer n es).1.length≤n:=by
 unfold zer
 split
 ·exact Nat.zero_le _
 ·exact zk5 n
def dpK(n:Nat)(nx:List (List Nat))(o:List Nat)(k:Nat):List Nat:=(o.take k).foldl (dpV nx) (List.replicate n 0)
def dpJ(nx:List (List Nat))(v:Nat)(out:List Nat)(j:Nat):List Nat:=((nth nx v).take j).foldl (dpW v) out
def BdB(out:List Nat)(B:Nat):Prop:=∀x,nth out x≤B
theorem jjh(n:Nat):BdB (List.replicate n 0) 0:=fun x=>by
 unfold nth;rw[List.getD_eq_getElem?_getD,List.getElem?_replicate];split<;>simp
theorem jji{out:List Nat}{B w x:Nat}(h:BdB out B)(hx:x≤B+1):BdB (out.set w x) (B+1):=fun y=>by
 by_cases e:y=w
 ·subst e
  by_cases hl:y<out.length
  ·rw[za2 hl];exact hx
  ·rw[List.set_eq_of_length_le (by omega)];have:=h y;omega
 ·rw[za1 (fun e2=>e e2.symm)];have:=h y;omega
theorem jeq{out:List Nat}{B C:Nat}(h:BdB out B)(hc:B≤C):BdB out C:=fun x=>Nat.le_trans (h x) hc
theorem jl4{nx:List (List Nat)}{v:Nat}{out:List Nat}{j:Nat}(h:j<(nth nx v).length):dpJ nx v out (j+1)=dpW v (dpJ nx v out j) (nth (nth nx v) j):=by
 rw[dpJ,zfa h,List.foldl_append];rfl
theorem jer(nx:List (List Nat))(v:Nat)(out:List Nat):dpJ nx v out (nth nx v).length=dpV nx out v:=by rw[dpJ,List.take_length];rfl
theorem jl5{n:Nat}{nx:List (List Nat)}{o:List Nat}{k:Nat}(h:k<o.length):dpK n nx o (k+1)=dpV nx (dpK n nx o k) (nth o k):=by
 rw[dpK,zfa h,List.foldl_append];rfl
theorem jes(n:Nat)(nx:List (List Nat))(o:List Nat):dpK n nx o o.length=dpO n nx o:=by rw[dpK,List.take_length];rfl
theorem jet{p q:Prop}(hq:q)(h:p=q:=by
 conv=>lhs;simp -dsimp -implicitDefEqProofs (disch:=first|assumption|omega|(simp only[r_z,zaf,zad]<;>omega)|decide) only[r_r,↓reduceIte,Nat.reduceEqDiff,Nat.reduceAdd,D.fix,Int.reduceToNat,Nat.reduceMul,Nat.reduceBNe,Nat.reduceBEq,gD,zai]):p:=h.mpr hq
theorem zjb{p q:Prop}(hq:q)(h:p=q:=by
 conv=>lhs;simp -dsimp -implicitDefEqProofs (disch:=first|assumption|omega|(simp only[r_z,zaf,zad]<;>omega)|decide) only[r_r,↓reduceIte,Nat.reduceEqDiff,Nat.reduceAdd,D.fix,Int.reduceToNat,Nat.reduceMul,Nat.reduceBNe,Nat.reduceBEq,gD,zai,jen]):p:=h.mpr hq
theorem jko{m:List Nat}{τ τ':Fr}{H H':zaa}(h2:H=H')(h:zgq τ τ':=by
 repeat (first|exact zaj _|refine zac ?_ (by first|rfl|(simp[r_f,zaf,zad];done)|simp[r_f,zaf,zad, *]))):Rt m τ H τ' H':=Rt.end h h2
theorem jeu{p q r:Prop}(e:r)(hq:q)(h:r→p=q:=by
 intro hY
 conv=>lhs;simp -dsimp -implicitDefEqProofs (disch:=first|assumption|omega|(simp only[r_z,zaf,zad]<;>omega)|decide) only[r_r,↓reduceIte,Nat.reduceEqDiff,Nat.reduceAdd,D.fix,Int.reduceToNat,Nat.reduceMul,Nat.reduceBNe,Nat.reduceBEq,gD,zai,jen,hY]):p:=(h e).mpr hq
theorem jn5{p q:Prop}(hq:q)(h:p=q:=by
 conv=>lhs;simp (disch:=first|assumption|omega|(simp only[r_z,zaf,zad]<;>omega)|decide) only[r_c,Nat.reduceAdd,D.fix,↓reduceIte,Nat.reduceEqDiff,gD,zai]):p:=h.mpr hq
theorem jl6{p:Prop}(h:p:=by
 first|rfl|(simp only[r_g,Nat.reduceAdd,↓reduceIte,Nat.reduceEqDiff,gD,zai];first|done|rfl)):p:=h
theorem jev(n:Nat)(es:List Ed)(h:Gr n es):zar Try.prog 40 [iD (n:Int),zan es] (zw8 (jbp n es)):=by
 have hb:=h.b
 have hel:=h.l
 have hgr:=zi4 h
 have hoc:=zv6 n es h
 have hR:jbp n es=if(zer n es).2=0 then(dpO n (za5 n es) (zer n es).1,0)else([],(zer n es).2):=rfl
 have holt:=jeo (n:=n) (es:=es)
 have holl:=jep (n:=n) (es:=es)
 have hnl:(za5 n es).length=n:=zbp n es
 have hnr:∀u,u<n→(nth (za5 n es) u).length≤100000:=fun u hu=>(h.next (st:=u) hu).r u
 have hni:∀u,u<n→∀w∈nth (za5 n es) u,w<n:=h.two.ni
 have hoe:(zer n es).2=0∨(zer n es).2=50:=by unfold zer;split<;>simp
 generalize zer n es=r at hoc hR holt holl hoe
 obtain⟨ol,oe⟩:=r
 rw[zw8]at hoc
 simp only at hoc hR holt holl hoe
 generalize za5 n es=nx at hgr hR hnl hnr hni
 generalize zbe n es=pv at hgr
 refine zay (fn:=Try.f40) (by kernel_rfl) Try.func40 rfl (Nat.le_of_ble_eq_true rfl) fun c hc hp=>?_
 refine zav (τ':=frL [(0,.d (iD (n:Int))),(1,.d (zan es))]) (by repeat (first|exact zaj _|refine zac ?_ (by first|rfl|(simp[r_f,zaf,zad];done)|simp[r_f,zaf,zad, *]))) ?_
 refine szq hp (fun _ hZ=>jet hZ) ?_
 refine zag hp zam hc rfl fun K2 hK2=>?_
 refine zjb ?_
 refine zbj (hoc) rfl ?_
 refine zjb ?_
 refine hK2 _ _ ?_
 refine zab fun K3 hK3=>?_
 refine szq hp (fun _ hZ=>zjb hZ) ?_
 refine zal rfl (fun ht=>?_) (fun ht=>?_)
 ·have hne:oe≠0:=fun e=>by rw[e]at ht;cases ht
  refine szq hp (fun _ hZ=>jet hZ) ?_
  refine zas ?_
  show closeA _ _=_
  refine jn5 ?_
  rw[hR,if_neg hne];rfl
 ·have he:oe=0:=by rcases hoe with e|e;exact e;rw[e]at ht;cases ht
  rw[if_pos he]at hR
  refine zah (hK3 _ _ ?_)
  refine zag hp zam hc rfl fun K6 hK6=>?_
  refine zjb ?_
  refine zbj (hgr) rfl ?_
  refine zjb ?_
  refine hK6 _ _ ?_
  refine szq hp (fun _ hZ=>zjb hZ) ?_
  refine zab fun K8 hK8=>?_
  refine szq hp (fun _ hZ=>zjb hZ) ?_
  refine zae ?_
  refine zaq hp (fun τ' H' mm=>∃(k:Nat) (out:List Nat),(k≤ol.length∧out=dpK n nx ol k∧out.length=n∧BdB out (k*100000))∧mm=ol.length - k∧H'=[.cells [.d (zai nx),.d (zai pv)],.cells (avs (nsD out))]∧τ'=frL [(4,.d (.val (.slice none 0 0))),(5,.d (iD 0)),(8,.op 0 0),(9,.os 1 1 0 n),(28,.d (.fs (nsD ol) ol.length)),(29,.d (iD ((ol.length:Nat):Int))),(30,.d (iD (k:Int)))]) (ol.length) ?_ ⟨0,List.replicate n 0,⟨Nat.zero_le _,rfl,by simp,by simpa using jjh n⟩,rfl,rfl,rfl⟩ ?_
  ·refine Rt.trans (Rt.gc (keep:=[0,1]) (by decide) (by decide) (by simp[fzH,gcH])) ?_
   refine jko ?_
   simp only[r_g,Nat.reduceAdd,↓reduceIte,Nat.reduceEqDiff,gD,zai];rw[zi6];rfl
  rintro τ' H' mm ⟨k,out,⟨hk,hout,hol,hbd⟩,rfl,rfl,rfl⟩
  refine szq hp (fun _ hZ=>zjb hZ) ?_
  refine zab fun K11 hK11=>?_
  refine zal rfl (fun ht=>?_) (fun ht=>?_)
  ·have hkl:k<ol.length:=by simp at ht;omega
   obtain⟨v,hv⟩:∃v,v=nth ol k:=⟨_,rfl⟩
   have hvn:v<n:=by rw[hv];exact holt _ (za9 hkl)
   have hg0:(nsD ol)[k]? =some (iD (v:Int)):=by rw[za7 hkl,hv]
   have hg2:=zca (nx:=nx) (v:=v) (by omega)
   have hgl:=hnr v hvn
   have hnx:=jl5 (n:=n) (nx:=nx) hkl
   rw[←hout,←hv]at hnx
   clear hv
   refine zah (hK11 _ _ ?_)
   refine zab fun K12 hK12=>?_
   refine zae ?_
   refine szq hp (fun _ hZ=>jeu hg0 hZ) ?_
   refine szq hp (fun _ hZ=>jeu hg2 hZ) ?_
   refine zae ?_
   refine zaq hp (fun τ' H' mm=>∃(j:Nat) (o:List Nat),(j≤(nth nx v).length∧o=dpJ nx v out j∧o.length=n∧BdB o (k*100000+j))∧mm=(nth nx v).length - j∧H'=[.cells [.d (zai nx),.d (zai pv)],.cells (avs (nsD o))]∧τ'=frL [(4,.d (.val (.slice none 0 0))),(5,.d (iD 0)),(8,.op 0 0),(9,.os 1 1 0 n),(11,.d (iD (v:Int))),(28,.d (.fs (nsD ol) ol.length)),(29,.d (iD ((ol.length:Nat):Int))),(30,.d (iD (k:Int))),(38,.d (.fs (nsD (nth nx v)) (nth nx v).length)),(39,.d (iD (((nth nx v).length:Nat):Int))),(40,.d (iD (j:Int)))]) ((nth nx v).length) ?_ ⟨0,out,⟨Nat.zero_le _,rfl,hol,by simpa using hbd⟩,rfl,rfl,rfl⟩ ?_
   ·refine jko ?_
    exact jl6
   rintro τ' H' mm ⟨j,o,⟨hj,ho,hl,hbo⟩,rfl,rfl,rfl⟩
   refine szq hp (fun _ hZ=>zjb hZ) ?_
   refine zab fun K16 hK16=>?_
   refine zal rfl (fun ht=>?_) (fun ht=>?_)
   ·have hjl:j<(nth nx v).length:=by simp at ht;omega
    obtain⟨w,hw⟩:∃w,w=nth (nth nx v) j:=⟨_,rfl⟩
    have hwm:w∈nth nx v:=by rw[hw];exact za9 hjl
    have hwn:w<n:=hni v hvn w hwm
    have hg3:(nsD (nth nx v))[j]? =some (iD (w:Int)):=by rw[za7 hjl,hw]
    have hg4:(nsD o)[w]? =some (iD ((nth o w:Nat):Int)):=za7 (by omega)
    have hg5:(nsD o)[v]? =some (iD ((nth o v:Nat):Int)):=za7 (by omega)
    have hmx:max ((nth o w:Nat):Int) (((nth o v:Nat):Int)+1)=((max (nth o w) (nth o v+1):Nat):Int):=by omega
    have hs:=jl4 (out:=out) hjl
    rw[←ho,←hw]at hs
    have b1:=hbo w
    have b2:=hbo v
    clear hw
    have hb3:BdB (dpW v o w) (k*100000+(j+1)):=by
     have:=jji (w:=w) (x:=max (nth o w) (nth o v+1)) hbo (by omega)
     rw[Nat.add_assoc]at this
     exact this
    refine zah (hK16 _ _ ?_)
    refine zab fun K17 hK17=>?_
    refine zae ?_
    refine szq hp (fun _ hZ=>jeu hg3 hZ) ?_
    refine zjx zam hc mixed rfl (q:=0) (by kernel_rfl) (by kernel_rfl) fun K19 hK19=>?_
    simp -dsimp -implicitDefEqProofs (disch:=first|assumption|omega|(simp only[r_z,zaf,zad]<;>omega)|decide) only[r_r,↓reduceIte,Nat.reduceEqDiff,Nat.reduceAdd,D.fix,Int.reduceToNat,Nat.reduceMul,Nat.reduceBNe,Nat.reduceBEq,gD,zai,hg4,hg5,hmx,ze9,jen]
    refine hK19 _ _ (hK17 _ _ ?_)
    refine zbc hp zam hc rfl fun K20 hK20=>?_
    refine zjb ?_
    refine hK20 _ _ ⟨_,_,_,?_,⟨j+1,dpW v o w,⟨by omega,hs.symm,by simp[dpW,hl],hb3⟩,rfl,rfl,rfl⟩,?_⟩
    ·first|omega|(simp only[List.length_cons];omega)|(dsimp only;omega)
    ·refine jko ?_
     exact jl6
   ·have hje:j=(nth nx v).length:=by simp at ht;omega
    subst hje
    rw[jer]at ho
    refine zaz (hK12 _ _ ?_)
    refine zbc hp zam hc rfl fun K21 hK21=>?_
    refine zjb ?_
    refine hK21 _ _ ⟨_,_,_,?_,⟨k+1,o,⟨by omega,by rw[hnx];exact ho,hl,jeq hbo (by omega)⟩,rfl,rfl,rfl⟩,?_⟩
    ·first|omega|(simp only[List.length_cons];omega)|(dsimp only;omega)
    ·refine jko ?_
     exact jl6
  ·have hke:k=ol.length:=by simp at ht;omega
   subst hke
   rw[jes]at hout
   refine zaz (hK8 _ _ ?_)
   refine szq hp (fun _ hZ=>jet hZ) ?_
   refine zas ?_
   show closeA _ _=_
   refine jn5 ?_
   rw[hR,←hout,zw8,hol];simp only[zhl];rfl
end Go.Proofs.Ytfolbdkbpmgjgaa
