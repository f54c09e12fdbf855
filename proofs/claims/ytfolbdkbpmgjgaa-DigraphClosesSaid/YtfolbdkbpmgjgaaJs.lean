/- Reversed: walked. -/
import Derived.Test.YtfolbdkbpmgjgaaQr
import Derived.Test.YtfolbdkbpmgjgaaJr
set_option linter.unusedVariables false
set_option linter.unusedSimpArgs false
set_option maxRecDepth 100000
set_option maxHeartbeats 4000000
namespace Go.Proofs.Ytfolbdkbpmgjgaa
open Go Go.RowKit
theorem jks:(((((type_of% @zf5)∧(type_of% @zi1))∧((type_of% @zjv)∧((type_of% @zmw)∧(type_of% @zg8))))∧(((type_of% @zgp)∧(type_of% @zgq))∧((type_of% @zmx)∧((type_of% @ze3)∧(type_of% @zd2)))))∧((((type_of% @zjt)∧(type_of% @zju))∧((type_of% @zr8)∧((type_of% @zmu)∧(type_of% @zha))))∧(((type_of% @zg9)∧(type_of% @zmz))∧((type_of% @ze4)∧((type_of% @ze5)∧(type_of% @zmy)))))):=⟨⟨⟨⟨@zf5,@zi1⟩,⟨@zjv,⟨@zmw,@zg8⟩⟩⟩,⟨⟨@zgp,@zgq⟩,⟨@zmx,⟨@ze3,@zd2⟩⟩⟩⟩,⟨⟨⟨@zjt,@zju⟩,⟨@zr8,⟨@zmu,@zha⟩⟩⟩,⟨⟨@zg9,@zmz⟩,⟨@ze4,⟨@ze5,@zmy⟩⟩⟩⟩⟩
theorem jah{es:List Ed}{k:Nat}(h:k<es.length):zen (es.take (k+1))=zen (es.take k)++[((nth es k).2,(nth es k).1)]:=by
 unfold zen
 rw[za1 h,List.take_add_one,List.getElem?_eq_getElem h,List.map_append];rfl
theorem zbp(es:List Ed):(zen es).length=es.length:=by unfold zen;exact List.length_map _
theorem zxt{p q:Prop}(hq:q)(h:p=q:=by
 conv=>lhs;simp -dsimp -implicitDefEqProofs (disch:=first|assumption|omega|(simp only[r_z,zan,zbp]<;>omega)|decide) only[r_r,↓reduceIte,Nat.reduceEqDiff,Nat.reduceAdd,D.fix,Int.reduceToNat,Nat.reduceMul,Nat.reduceBNe,Nat.reduceBEq,grD,zal,jks]):p:=h.mpr hq
theorem jov{m:List Nat}{τ τ':Fr}{H H':zaa}(h2:H=H')(h:zgm τ τ':=by
 repeat (first|exact zah _|refine zac ?_ (by first|rfl|(simp[r_f,zan,zbp];done)|simp[r_f,zan,zbp, *]))):Rt m τ H τ' H':=Rt.end h h2
theorem jno(n:Nat)(es:List Ed)(hl:es.length≤1000):zaq Try.prog 33 [grD n es] (.d (grD n (zen es))):=by
 refine zay (fn:=Try.f33) (by kernel_rfl) Try.func33 rfl (Nat.le_of_ble_eq_true rfl) fun c hc hp=>?_
 refine zau (τ':=frL [(0,.d (grD n es))]) (by repeat (first|exact zah _|refine zac ?_ (by first|rfl|(simp[r_f,zan,zbp];done)|simp[r_f,zan,zbp, *]))) ?_
 refine szq hp (fun _ hZ=>zxt hZ) ?_
 refine szq hp (fun _ hZ=>zxt hZ) ?_
 refine zab fun K3 hK3=>?_
 refine zad hp zao hc rfl fun K4 hK4=>?_
 simp -dsimp -implicitDefEqProofs (disch:=first|assumption|omega|(simp only[r_z,zan,zbp]<;>omega)|decide) only[r_r,↓reduceIte,Nat.reduceEqDiff,Nat.reduceAdd,D.fix,Int.reduceToNat,Nat.reduceMul,Nat.reduceBNe,Nat.reduceBEq,grD,zal]
 refine hK4 _ _ ?_
 refine zaf ?_
 refine zas hp (fun τ' H' mm=>∃(k:Nat),(k≤es.length)∧mm=es.length - k∧H'=[.cells [.d (iD (n:Int)),.d (zal es)],.cells [.d (iD 0),.d (.val (.slice none 0 0))],.cells [.d (iD (n:Int)),.os 2 3 0 k],.cells (avs ((zen (es.take k)).flatMap edC))]∧τ'=frL [(1,.op 0 0),(2,.op 1 0),(3,.op 2 0),(4,.d (iD (k:Int)))]) (es.length) ?_ ⟨0,Nat.zero_le _,rfl,rfl,rfl⟩ ?_
 ·refine Rt.trans (Rt.gc (keep:=[0,1,2]) (by decide) (by decide) (by simp[fzH,gcH])) ?_
  refine Rt.trans (Rt.nilc 2 1 2 rfl rfl) ?_
  refine jov ?_
  first|rfl|(simp only[r_g,Nat.reduceAdd,↓reduceIte,Nat.reduceEqDiff,grD,zal];first|done|rfl)
 rintro τ' H' mm ⟨k,hk,rfl,rfl,rfl⟩
 refine zab fun K5 hK5=>?_
 refine szq hp (fun _ hZ=>zxt hZ) ?_
 refine zam rfl (fun ht=>?_) (fun ht=>?_)
 ·have hke:k<es.length:=by simp at ht;omega
  obtain⟨a,ha⟩:∃a,a=(nth es k).1:=⟨_,rfl⟩
  obtain⟨b,hb⟩:∃b,b=(nth es k).2:=⟨_,rfl⟩
  have hg2:(es.flatMap edC)[k*2]? =some (iD (a:Int)):=by rw[ha];exact jkh hke
  have hg3:(es.flatMap edC)[k*2+1]? =some (iD (b:Int)):=by rw[hb];exact jki hke
  have hs:=jah hke
  rw[←ha,←hb]at hs
  clear ha hb
  have hrl:(zen (es.take k)).length=k:=by rw[zbp,List.length_take];omega
  refine zak (hK5 _ _ ?_)
  refine zab fun K7 hK7=>?_
  refine zaf ?_
  refine ziw zao hc mixed rfl (q:=2) (by kernel_rfl) (by kernel_rfl) fun K8 hK8=>?_
  simp -dsimp -implicitDefEqProofs (disch:=first|assumption|omega|(simp only[r_z,zan,zbp]<;>omega)|decide) only[r_r,↓reduceIte,Nat.reduceEqDiff,Nat.reduceAdd,D.fix,Int.reduceToNat,Nat.reduceMul,Nat.reduceBNe,Nat.reduceBEq,grD,zal,hg2,hg3,jks]
  refine hK8 _ _ (hK7 _ _ ?_)
  refine zbj hp zao hc rfl fun K9 hK9=>?_
  refine zxt ?_
  refine hK9 _ _ ⟨_,_,_,?_,⟨k+1,hke,rfl,rfl,rfl⟩,?_⟩
  ·first|omega|(simp only[List.length_cons];omega)|(dsimp only;omega)
  ·refine Rt.trans (Rt.gc (keep:=[0,1,2,5]) (by decide) (by decide) (by simp[fzH,gcH])) ?_
   refine jov ?_
   simp only[r_g,Nat.reduceAdd,↓reduceIte,Nat.reduceEqDiff,grD,zal];rw[hs,←zo4,List.append_assoc];rfl
 ·have hke:k=es.length:=by simp at ht;omega
  subst hke
  refine za0 (hK3 _ _ ?_)
  refine szq hp (fun _ hZ=>zxt hZ) ?_
  refine zar ?_
  try dsimp only[zcy,za8]
  refine zcb rfl ?_
  simp -dsimp -implicitDefEqProofs (disch:=first|assumption|omega|(simp only[r_z,zan,zbp]<;>omega)|decide) only[r_r,↓reduceIte,Nat.reduceEqDiff,Nat.reduceAdd,D.fix,Int.reduceToNat,Nat.reduceMul,Nat.reduceBNe,Nat.reduceBEq,grD,zal,zf5,zi1]
  show closeA _ _=_
  simp (disch:=first|assumption|omega|(simp only[r_z,zan,zbp]<;>omega)|decide) only[r_c,Nat.reduceAdd,D.fix,↓reduceIte,Nat.reduceEqDiff,grD,zal]
  rw[List.take_length,zxd,zbp]
end Go.Proofs.Ytfolbdkbpmgjgaa
