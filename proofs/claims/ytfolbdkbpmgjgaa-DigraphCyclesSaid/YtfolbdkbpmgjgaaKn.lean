/- Depths along an order. -/
import Derived.Test.YtfolbdkbpmgjgaaKv
import Derived.Test.YtfolbdkbpmgjgaaQr
import Derived.Test.YtfolbdkbpmgjgaaKm
set_option linter.unusedVariables false
set_option linter.unusedSimpArgs false
namespace Go.Proofs.Ytfolbdkbpmgjgaa
open Go Go.RowKit
section
def dpW(v:Nat)(out:List Nat)(w:Nat):List Nat:=out.set w (max (nth out w) (nth out v+1))
def dpV(next:List (List Nat))(out:List Nat)(v:Nat):List Nat:=(nth next v).foldl (dpW v) out
def dpO(n:Nat)(next:List (List Nat))(o:List Nat):List Nat:=o.foldl (dpV next) (List.replicate n 0)
section
variable {n:Nat} {next prev:List (List Nat)} (ht:Two n next prev)
include ht
end
/- Depth: walked. -/
set_option maxRecDepth 100000
set_option maxHeartbeats 4000000
end
theorem jfa:((((type_of% @zgp)∧((type_of% @zgq)∧(type_of% @zi1)))∧((type_of% @zjs)∧((type_of% @zc6)∧(type_of% @zc7))))∧(((type_of% @zc8)∧((type_of% @zd8)∧(type_of% @zdc)))∧((type_of% @zet)∧((type_of% @zfm)∧(type_of% @zeu))))):=⟨⟨⟨@zgp,⟨@zgq,@zi1⟩⟩,⟨@zjs,⟨@zc6,@zc7⟩⟩⟩,⟨⟨@zc8,⟨@zd8,@zdc⟩⟩,⟨@zet,⟨@zfm,@zeu⟩⟩⟩⟩
def jcg(n:Nat)(es:List Ed):List Nat × Int:=if(zhv n es).2=0 then(dpO n (za0 n es) (zhv n es).1,0)else([],(zhv n es).2)
theorem jfb{n:Nat}{es:List Ed}:∀v∈(zhv n es).1,v<n:=by
 unfold zhv
 split
 ·intro v hv;cases hv
 ·exact(zvt n (zb8 n es) n).lt
theorem jfc{n:Nat}{es:List Ed}:(zhv n es).1.length≤n:=by
 unfold zhv
 split
 ·exact Nat.zero_le _
 ·exact zof n
def dpK(n:Nat)(nx:List (List Nat))(o:List Nat)(k:Nat):List Nat:=(o.take k).foldl (dpV nx) (List.replicate n 0)
def dpJ(nx:List (List Nat))(v:Nat)(out:List Nat)(j:Nat):List Nat:=((nth nx v).take j).foldl (dpW v) out
def BdB(out:List Nat)(B:Nat):Prop:=∀x,nth out x≤B
theorem jjt(n:Nat):BdB (List.replicate n 0) 0:=fun x=>by
 unfold nth;rw[List.getD_eq_getElem?_getD,List.getElem?_replicate];split<;>simp
theorem jju{out:List Nat}{B w x:Nat}(h:BdB out B)(hx:x≤B+1):BdB (out.set w x) (B+1):=fun y=>by
 by_cases e:y=w
 ·subst e
  by_cases hl:y<out.length
  ·rw[za3 hl];exact hx
  ·rw[List.set_eq_of_length_le (by omega)];have:=h y;omega
 ·rw[za4 (fun e2=>e e2.symm)];have:=h y;omega
theorem jfd{out:List Nat}{B C:Nat}(h:BdB out B)(hc:B≤C):BdB out C:=fun x=>Nat.le_trans (h x) hc
theorem jml{nx:List (List Nat)}{v:Nat}{out:List Nat}{j:Nat}(h:j<(nth nx v).length):dpJ nx v out (j+1)=dpW v (dpJ nx v out j) (nth (nth nx v) j):=by
 rw[dpJ,zfa h,List.foldl_append];rfl
theorem jfe(nx:List (List Nat))(v:Nat)(out:List Nat):dpJ nx v out (nth nx v).length=dpV nx out v:=by rw[dpJ,List.take_length];rfl
theorem jmm{n:Nat}{nx:List (List Nat)}{o:List Nat}{k:Nat}(h:k<o.length):dpK n nx o (k+1)=dpV nx (dpK n nx o k) (nth o k):=by
 rw[dpK,zfa h,List.foldl_append];rfl
theorem jff(n:Nat)(nx:List (List Nat))(o:List Nat):dpK n nx o o.length=dpO n nx o:=by rw[dpK,List.take_length];rfl
theorem jfg{p q:Prop}(hq:q)(h:p=q:=by
 conv=>lhs;simp -dsimp -implicitDefEqProofs (disch:=first|assumption|omega|(simp only[r_z,zag,zai]<;>omega)|decide) only[r_r,↓reduceIte,Nat.reduceEqDiff,Nat.reduceAdd,D.fix,Int.reduceToNat,Nat.reduceMul,Nat.reduceBNe,Nat.reduceBEq,gD,zan]):p:=h.mpr hq
theorem zjg{p q:Prop}(hq:q)(h:p=q:=by
 conv=>lhs;simp -dsimp -implicitDefEqProofs (disch:=first|assumption|omega|(simp only[r_z,zag,zai]<;>omega)|decide) only[r_r,↓reduceIte,Nat.reduceEqDiff,Nat.reduceAdd,D.fix,Int.reduceToNat,Nat.reduceMul,Nat.reduceBNe,Nat.reduceBEq,gD,zan,jfa]):p:=h.mpr hq
theorem jk7{m:List Nat}{τ τ':Fr}{H H':zaa}(h2:H=H')(h:zf6 τ τ':=by
 repeat (first|exact zaj _|refine zac ?_ (by first|rfl|(simp[r_f,zag,zai];done)|simp[r_f,zag,zai, *]))):Rt m τ H τ' H':=Rt.end h h2
theorem jfh{p q r:Prop}(e:r)(hq:q)(h:r→p=q:=by
 intro hY
 conv=>lhs;simp -dsimp -implicitDefEqProofs (disch:=first|assumption|omega|(simp only[r_z,zag,zai]<;>omega)|decide) only[r_r,↓reduceIte,Nat.reduceEqDiff,Nat.reduceAdd,D.fix,Int.reduceToNat,Nat.reduceMul,Nat.reduceBNe,Nat.reduceBEq,gD,zan,jfa,hY]):p:=(h e).mpr hq
theorem joc{p q:Prop}(hq:q)(h:p=q:=by
 conv=>lhs;simp (disch:=first|assumption|omega|(simp only[r_z,zag,zai]<;>omega)|decide) only[r_c,Nat.reduceAdd,D.fix,↓reduceIte,Nat.reduceEqDiff,gD,zan]):p:=h.mpr hq
theorem jmn{p:Prop}(h:p:=by
 first|rfl|(simp only[r_g,Nat.reduceAdd,↓reduceIte,Nat.reduceEqDiff,gD,zan];first|done|rfl)):p:=h
theorem jfi(n:Nat)(es:List Ed)(h:Gr n es):zar Try.prog 40 [iD (n:Int),zal es] (zxw (jcg n es)):=by
 have hb:=h.b
 have hel:=h.l
 have hgr:=zja h
 have hoc:=zwt n es h
 have hR:jcg n es=if(zhv n es).2=0 then(dpO n (za0 n es) (zhv n es).1,0)else([],(zhv n es).2):=rfl
 have holt:=jfb (n:=n) (es:=es)
 have holl:=jfc (n:=n) (es:=es)
 have hnl:(za0 n es).length=n:=zbd n es
 have hnr:∀u,u<n→(nth (za0 n es) u).length≤100000:=fun u hu=>(h.next (st:=u) hu).r u
 have hni:∀u,u<n→∀w∈nth (za0 n es) u,w<n:=h.two.ni
 have hoe:(zhv n es).2=0∨(zhv n es).2=50:=by unfold zhv;split<;>simp
 generalize zhv n es=r at hoc hR holt holl hoe
 obtain⟨ol,oe⟩:=r
 rw[zxw]at hoc
 simp only at hoc hR holt holl hoe
 generalize za0 n es=nx at hgr hR hnl hnr hni
 generalize zb8 n es=pv at hgr
 refine zav (fn:=Try.f40) (by kernel_rfl) Try.func40 rfl (Nat.le_of_ble_eq_true rfl) fun c hc hp=>?_
 refine zat (τ':=frL [(0,.d (iD (n:Int))),(1,.d (zal es))]) (by repeat (first|exact zaj _|refine zac ?_ (by first|rfl|(simp[r_f,zag,zai];done)|simp[r_f,zag,zai, *]))) ?_
 refine szq hp (fun _ hZ=>jfg hZ) ?_
 refine zae hp zao hc rfl fun K2 hK2=>?_
 refine zjg ?_
 refine zbi (hoc) rfl ?_
 refine zjg ?_
 refine hK2 _ _ ?_
 refine zab fun K3 hK3=>?_
 refine szq hp (fun _ hZ=>zjg hZ) ?_
 refine zak rfl (fun ht=>?_) (fun ht=>?_)
 ·have hne:oe≠0:=fun e=>by rw[e]at ht;cases ht
  refine szq hp (fun _ hZ=>jfg hZ) ?_
  refine zas ?_
  show closeA _ _=_
  refine joc ?_
  rw[hR,if_neg hne];rfl
 ·have he:oe=0:=by rcases hoe with e|e;exact e;rw[e]at ht;cases ht
  rw[if_pos he]at hR
  refine zaf (hK3 _ _ ?_)
  refine zae hp zao hc rfl fun K6 hK6=>?_
  refine zjg ?_
  refine zbi (hgr) rfl ?_
  refine zjg ?_
  refine hK6 _ _ ?_
  refine szq hp (fun _ hZ=>zjg hZ) ?_
  refine zab fun K8 hK8=>?_
  refine szq hp (fun _ hZ=>zjg hZ) ?_
  refine zad ?_
  refine zap hp (fun τ' H' mm=>∃(k:Nat) (out:List Nat),(k≤ol.length∧out=dpK n nx ol k∧out.length=n∧BdB out (k*100000))∧mm=ol.length - k∧H'=[.cells [.d (zan nx),.d (zan pv)],.cells (avs (nsD out))]∧τ'=frL [(4,.d (.val (.slice none 0 0))),(5,.d (iD 0)),(8,.op 0 0),(9,.os 1 1 0 n),(28,.d (.fs (nsD ol) ol.length)),(29,.d (iD ((ol.length:Nat):Int))),(30,.d (iD (k:Int)))]) (ol.length) ?_ ⟨0,List.replicate n 0,⟨Nat.zero_le _,rfl,by simp,by simpa using jjt n⟩,rfl,rfl,rfl⟩ ?_
  ·refine Rt.trans (Rt.gc (keep:=[0,1]) (by decide) (by decide) (by simp[fzH,gcH])) ?_
   refine jk7 ?_
   simp only[r_g,Nat.reduceAdd,↓reduceIte,Nat.reduceEqDiff,gD,zan];rw[zkk];rfl
  rintro τ' H' mm ⟨k,out,⟨hk,hout,hol,hbd⟩,rfl,rfl,rfl⟩
  refine szq hp (fun _ hZ=>zjg hZ) ?_
  refine zab fun K11 hK11=>?_
  refine zak rfl (fun ht=>?_) (fun ht=>?_)
  ·have hkl:k<ol.length:=by simp at ht;omega
   obtain⟨v,hv⟩:∃v,v=nth ol k:=⟨_,rfl⟩
   have hvn:v<n:=by rw[hv];exact holt _ (za7 hkl)
   have hg0:(nsD ol)[k]? =some (iD (v:Int)):=by rw[za9 hkl,hv]
   have hg2:=zcs (nx:=nx) (v:=v) (by omega)
   have hgl:=hnr v hvn
   have hnx:=jmm (n:=n) (nx:=nx) hkl
   rw[←hout,←hv]at hnx
   clear hv
   refine zaf (hK11 _ _ ?_)
   refine zab fun K12 hK12=>?_
   refine zad ?_
   refine szq hp (fun _ hZ=>jfh hg0 hZ) ?_
   refine szq hp (fun _ hZ=>jfh hg2 hZ) ?_
   refine zad ?_
   refine zap hp (fun τ' H' mm=>∃(j:Nat) (o:List Nat),(j≤(nth nx v).length∧o=dpJ nx v out j∧o.length=n∧BdB o (k*100000+j))∧mm=(nth nx v).length - j∧H'=[.cells [.d (zan nx),.d (zan pv)],.cells (avs (nsD o))]∧τ'=frL [(4,.d (.val (.slice none 0 0))),(5,.d (iD 0)),(8,.op 0 0),(9,.os 1 1 0 n),(11,.d (iD (v:Int))),(28,.d (.fs (nsD ol) ol.length)),(29,.d (iD ((ol.length:Nat):Int))),(30,.d (iD (k:Int))),(38,.d (.fs (nsD (nth nx v)) (nth nx v).length)),(39,.d (iD (((nth nx v).length:Nat):Int))),(40,.d (iD (j:Int)))]) ((nth nx v).length) ?_ ⟨0,out,⟨Nat.zero_le _,rfl,hol,by simpa using hbd⟩,rfl,rfl,rfl⟩ ?_
   ·refine jk7 ?_
    exact jmn
   rintro τ' H' mm ⟨j,o,⟨hj,ho,hl,hbo⟩,rfl,rfl,rfl⟩
   refine szq hp (fun _ hZ=>zjg hZ) ?_
   refine zab fun K16 hK16=>?_
   refine zak rfl (fun ht=>?_) (fun ht=>?_)
   ·have hjl:j<(nth nx v).length:=by simp at ht;omega
    obtain⟨w,hw⟩:∃w,w=nth (nth nx v) j:=⟨_,rfl⟩
    have hwm:w∈nth nx v:=by rw[hw];exact za7 hjl
    have hwn:w<n:=hni v hvn w hwm
    have hg3:(nsD (nth nx v))[j]? =some (iD (w:Int)):=by rw[za9 hjl,hw]
    have hg4:(nsD o)[w]? =some (iD ((nth o w:Nat):Int)):=za9 (by omega)
    have hg5:(nsD o)[v]? =some (iD ((nth o v:Nat):Int)):=za9 (by omega)
    have hmx:max ((nth o w:Nat):Int) (((nth o v:Nat):Int)+1)=((max (nth o w) (nth o v+1):Nat):Int):=by omega
    have hs:=jml (out:=out) hjl
    rw[←ho,←hw]at hs
    have b1:=hbo w
    have b2:=hbo v
    clear hw
    have hb3:BdB (dpW v o w) (k*100000+(j+1)):=by
     have:=jju (w:=w) (x:=max (nth o w) (nth o v+1)) hbo (by omega)
     rw[Nat.add_assoc]at this
     exact this
    refine zaf (hK16 _ _ ?_)
    refine zab fun K17 hK17=>?_
    refine zad ?_
    refine szq hp (fun _ hZ=>jfh hg3 hZ) ?_
    refine zix zao hc mixed rfl (q:=0) (by kernel_rfl) (by kernel_rfl) fun K19 hK19=>?_
    simp -dsimp -implicitDefEqProofs (disch:=first|assumption|omega|(simp only[r_z,zag,zai]<;>omega)|decide) only[r_r,↓reduceIte,Nat.reduceEqDiff,Nat.reduceAdd,D.fix,Int.reduceToNat,Nat.reduceMul,Nat.reduceBNe,Nat.reduceBEq,gD,zan,hg4,hg5,hmx,zgc,jfa]
    refine hK19 _ _ (hK17 _ _ ?_)
    refine za6 hp zao hc rfl fun K20 hK20=>?_
    refine zjg ?_
    refine hK20 _ _ ⟨_,_,_,?_,⟨j+1,dpW v o w,⟨by omega,hs.symm,by simp[dpW,hl],hb3⟩,rfl,rfl,rfl⟩,?_⟩
    ·first|omega|(simp only[List.length_cons];omega)|(dsimp only;omega)
    ·refine jk7 ?_
     exact jmn
   ·have hje:j=(nth nx v).length:=by simp at ht;omega
    subst hje
    rw[jfe]at ho
    refine zau (hK12 _ _ ?_)
    refine za6 hp zao hc rfl fun K21 hK21=>?_
    refine zjg ?_
    refine hK21 _ _ ⟨_,_,_,?_,⟨k+1,o,⟨by omega,by rw[hnx];exact ho,hl,jfd hbo (by omega)⟩,rfl,rfl,rfl⟩,?_⟩
    ·first|omega|(simp only[List.length_cons];omega)|(dsimp only;omega)
    ·refine jk7 ?_
     exact jmn
  ·have hke:k=ol.length:=by simp at ht;omega
   subst hke
   rw[jff]at hout
   refine zau (hK8 _ _ ?_)
   refine szq hp (fun _ hZ=>jfg hZ) ?_
   refine zas ?_
   show closeA _ _=_
   refine joc ?_
   rw[hR,←hout,zxw,hol];simp only[zhu];rfl
end Go.Proofs.Ytfolbdkbpmgjgaa
