/- A memory's address. -/
import Derived.Test.YtapjobndmmkanaaGreatQr
import Derived.Test.YtapjobndmmkanaaGreatYj
import Derived.Test.YtapjobndmmkanaaGreatPm
set_option linter.unusedVariables false
set_option linter.unusedSimpArgs false
set_option maxRecDepth 100000
set_option maxHeartbeats 4000000
namespace Go.Proofs.YtapjobndmmkanaaGreat
open Go.Proofs.Tryz
open Go Go.RowKit
theorem zzy{l:List Int}{k:Nat}(h:k<3):((jl4 l k).map iD).set k (iD (nth l k))=(jl4 l (k+1)).map iD:=by
 rcases(show k=0∨k=1∨k=2 by omega)with rfl|rfl|rfl<;>rfl
theorem zxw{p q:Prop}(hq:q)(h:p=q:=by
 conv=>lhs;simp -dsimp -implicitDefEqProofs (disch:=first|assumption|omega|(simp only[r_z,zfs]<;>omega)|decide) only[r_r,↓reduceIte,Nat.reduceEqDiff,Nat.reduceAdd,D.fix,Int.reduceToNat,Nat.reduceMul,Nat.reduceBNe,Nat.reduceBEq,intsD,za4,Int.toNat_natCast,qae]):p:=h.mpr hq
theorem yhb{m:List Nat}{τ τ':Fr}{H H':zad}(h2:H=H')(h:zgk τ τ':=by
 repeat (first|exact zaq _|refine zak ?_ (by first|rfl|(simp[r_f,zfs];done)|simp[r_f,zfs, *]))):Rt m τ H τ' H':=Rt.end h h2
theorem zr2{p q r:Prop}(e:r)(hq:q)(h:r→p=q:=by
 intro hY
 conv=>lhs;simp -dsimp -implicitDefEqProofs (disch:=first|assumption|omega|(simp only[r_z,zfs]<;>omega)|decide) only[r_r,↓reduceIte,Nat.reduceEqDiff,Nat.reduceAdd,D.fix,Int.reduceToNat,Nat.reduceMul,Nat.reduceBNe,Nat.reduceBEq,intsD,za4,Int.toNat_natCast,qae,hY]):p:=(h e).mpr hq
theorem zxx{p q:Prop}(hq:q)(h:p=q:=by
 conv=>lhs;simp -dsimp -implicitDefEqProofs (disch:=first|assumption|omega|(simp only[r_z,zfs]<;>omega)|decide) only[r_r,↓reduceIte,Nat.reduceEqDiff,Nat.reduceAdd,D.fix,Int.reduceToNat,Nat.reduceMul,Nat.reduceBNe,Nat.reduceBEq,intsD,za4,Int.toNat_natCast,jl4,avs,List.map_cons,List.map_nil,qae]):p:=h.mpr hq
theorem zxy{p q:Prop}(hq:q)(h:p=q:=by
 conv=>lhs;simp -dsimp -implicitDefEqProofs (disch:=first|assumption|omega|(simp only[r_z,zfs]<;>omega)|decide) only[r_r,↓reduceIte,Nat.reduceEqDiff,Nat.reduceAdd,D.fix,Int.reduceToNat,Nat.reduceMul,Nat.reduceBNe,Nat.reduceBEq,intsD,za4,Int.toNat_natCast,zwx,jji]):p:=h.mpr hq
theorem jth{p q:Prop}(hq:q)(h:p=q:=by
 conv=>lhs;simp (disch:=first|assumption|omega|(simp only[r_z,zfs]<;>omega)|decide) only[r_c,Nat.reduceAdd,D.fix,↓reduceIte,Nat.reduceEqDiff,intsD,za4,Int.toNat_natCast]):p:=h.mpr hq
theorem yjs{p q:Prop}(hq:q)(h:p=q:=by
 conv=>lhs;simp only[r_g,Nat.reduceAdd,↓reduceIte,Nat.reduceEqDiff,intsD,za4,Int.toNat_natCast]):p:=h.mpr hq
theorem jle(l:List Int)(w:Nat)(hl:l.length≤100)(hw:w≤8):za2 prog 96 [intsD l,iD w] (.d (.agg ((zhu l w).map iD))):=by
 refine zax (fn:=f96) (by kernel_rfl) func96 rfl (qaf rfl) fun c hc hp=>?_
 refine za0 (τ':=frL [(0,.d (intsD l)),(1,.d (iD w))]) (by repeat (first|exact zaq _|refine zak ?_ (by first|rfl|(simp[r_f,zfs];done)|simp[r_f,zfs, *]))) ?_
 refine szq (zxw ·) ?_
 refine szq (zxw ·) ?_
 refine zaa fun K3 hK3=>?_
 refine zaf hp zah hc rfl fun K4 hK4=>?_
 simp -dsimp -implicitDefEqProofs (disch:=first|assumption|omega|(simp only[r_z,zfs]<;>omega)|decide) only[r_r,↓reduceIte,Nat.reduceEqDiff,Nat.reduceAdd,D.fix,Int.reduceToNat,Nat.reduceMul,Nat.reduceBNe,Nat.reduceBEq,intsD,za4,Int.toNat_natCast]
 refine hK4 _ _ ?_
 refine zag ?_
 refine zao hp (fun τ' H' mm=>∃(k:Nat),(k≤3∧∀j,j<k→j<l.length∧2^j<w)∧mm=3 - k∧H'=[.cells (avs ((jl4 l 0).map iD)),.cells (avs ((jl4 l k).map iD))]∧τ'=frL [(0,.d (intsD l)),(1,.d (iD w)),(4,.op 0 0),(5,.op 1 0),(6,.d (iD k))]) (3) ?_ ⟨0,⟨by omega,fun j hj=>by omega⟩,rfl,rfl,rfl⟩ ?_
 ·refine yhb ?_
  rfl
 rintro τ' H' mm ⟨k,⟨hk,hc0⟩,rfl,rfl,rfl⟩
 refine zaa fun K5 hK5=>?_
 refine zaf hp zah hc rfl fun K6 hK6=>?_
 have hsp:(k=0∧l.length≤0)∨(k=0∧0<l.length∧w≤1)∨(k=0∧0<l.length∧1<w)∨(k=1∧l.length≤1)∨(k=1∧1<l.length∧w≤2)∨(k=1∧1<l.length∧2<w)∨(k=2∧l.length≤2)∨(k=2∧2<l.length∧w≤4)∨(k=2∧2<l.length∧4<w)∨(k=3∧l.length≤3)∨(k=3∧3<l.length∧w≤8):=by omega
 rcases hsp with⟨rfl,h1⟩|⟨rfl,h1,h2⟩|⟨rfl,h1,h2⟩|⟨rfl,h1⟩|⟨rfl,h1,h2⟩|⟨rfl,h1,h2⟩|⟨rfl,h1⟩|⟨rfl,h1,h2⟩|⟨rfl,h1,h2⟩|⟨rfl,h1⟩|⟨rfl,h1,h2⟩
 ·have qb:decide (((0:Nat):Int)<l.length)=false:=decide_eq_false (by omega)
  have hs:IntKind.i64.wrap (1*2^min (0:Nat) 64)=((1:Nat):Int):=by decide
  have qc:=qb
  refine zr2 (sza qb (sza hs qc)) ?_
  refine hK6 _ _ ?_
  refine szf ?_
  have he:=zpb hk hc0 (by omega)
  refine zau (hK3 _ _ ?_)
  refine szq (zxx ·) ?_
  refine zaj ?_
  try dsimp only[zcg,za5]
  refine za6 rfl ?_
  refine zxy ?_
  show closeA _ _=_
  refine jth ?_
  rw[←he];rfl
 ·have qb:decide (((0:Nat):Int)<l.length)=true:=decide_eq_true (by omega)
  have hs:IntKind.i64.wrap (1*2^min (0:Nat) 64)=((1:Nat):Int):=by decide
  have qc:decide (((1:Nat):Int)<(w:Int))=false:=decide_eq_false (by omega)
  refine zr2 (sza qb (sza hs qc)) ?_
  refine hK6 _ _ ?_
  refine szf ?_
  have he:=zpb hk hc0 (by omega)
  refine zau (hK3 _ _ ?_)
  refine szq (zxx ·) ?_
  refine zaj ?_
  try dsimp only[zcg,za5]
  refine za6 rfl ?_
  refine zxy ?_
  show closeA _ _=_
  refine jth ?_
  rw[←he];rfl
 ·have qb:decide (((0:Nat):Int)<l.length)=true:=decide_eq_true (by omega)
  have hs:IntKind.i64.wrap (1*2^min (0:Nat) 64)=((1:Nat):Int):=by decide
  have qc:decide (((1:Nat):Int)<(w:Int))=true:=decide_eq_true (by omega)
  refine zr2 (sza qb (sza hs qc)) ?_
  refine hK6 _ _ ?_
  refine szt ?_
  have hst:=zzy (l:=l) (k:=0) (by decide)
  refine zai (hK5 _ _ ?_)
  refine zaa fun K9 hK9=>?_
  refine zag ?_
  refine szs (zxw ·) (hK9 _ _ ?_)
  refine za1 hp zah hc rfl fun K11 hK11=>?_
  refine zxw ?_
  refine hK11 _ _ ⟨_,_,_,?_,⟨1,⟨by omega,fun j hj=>by rcases(show j=0 by omega)with rfl<;>(constructor<;>omega)⟩,rfl,rfl,rfl⟩,?_⟩
  ·first|omega|(simp only[List.length_cons];omega)|(dsimp only;omega)
  ·refine Rt.trans (Rt.gc (keep:=[0,1]) (by decide) (by decide) (by simp[fzH,gcH])) ?_
   refine yhb ?_
   refine yjs ?_;rw[←hst];simp[jl4]
 ·have qb:decide (((1:Nat):Int)<l.length)=false:=decide_eq_false (by omega)
  have hs:IntKind.i64.wrap (1*2^min (1:Nat) 64)=((2:Nat):Int):=by decide
  have qc:=qb
  refine zr2 (sza qb (sza hs qc)) ?_
  refine hK6 _ _ ?_
  refine szf ?_
  have he:=zpb hk hc0 (by omega)
  refine zau (hK3 _ _ ?_)
  refine szq (zxx ·) ?_
  refine zaj ?_
  try dsimp only[zcg,za5]
  refine za6 rfl ?_
  refine zxy ?_
  show closeA _ _=_
  refine jth ?_
  rw[←he];rfl
 ·have qb:decide (((1:Nat):Int)<l.length)=true:=decide_eq_true (by omega)
  have hs:IntKind.i64.wrap (1*2^min (1:Nat) 64)=((2:Nat):Int):=by decide
  have qc:decide (((2:Nat):Int)<(w:Int))=false:=decide_eq_false (by omega)
  refine zr2 (sza qb (sza hs qc)) ?_
  refine hK6 _ _ ?_
  refine szf ?_
  have he:=zpb hk hc0 (by omega)
  refine zau (hK3 _ _ ?_)
  refine szq (zxx ·) ?_
  refine zaj ?_
  try dsimp only[zcg,za5]
  refine za6 rfl ?_
  refine zxy ?_
  show closeA _ _=_
  refine jth ?_
  rw[←he];rfl
 ·have qb:decide (((1:Nat):Int)<l.length)=true:=decide_eq_true (by omega)
  have hs:IntKind.i64.wrap (1*2^min (1:Nat) 64)=((2:Nat):Int):=by decide
  have qc:decide (((2:Nat):Int)<(w:Int))=true:=decide_eq_true (by omega)
  refine zr2 (sza qb (sza hs qc)) ?_
  refine hK6 _ _ ?_
  refine szt ?_
  have hst:=zzy (l:=l) (k:=1) (by decide)
  refine zai (hK5 _ _ ?_)
  refine zaa fun K14 hK14=>?_
  refine zag ?_
  refine szs (zxw ·) (hK14 _ _ ?_)
  refine za1 hp zah hc rfl fun K16 hK16=>?_
  refine zxw ?_
  refine hK16 _ _ ⟨_,_,_,?_,⟨2,⟨by omega,fun j hj=>by rcases(show j=0∨j=1 by omega)with rfl|rfl<;>(constructor<;>omega)⟩,rfl,rfl,rfl⟩,?_⟩
  ·first|omega|(simp only[List.length_cons];omega)|(dsimp only;omega)
  ·refine Rt.trans (Rt.gc (keep:=[0,1]) (by decide) (by decide) (by simp[fzH,gcH])) ?_
   refine yhb ?_
   refine yjs ?_;rw[←hst];simp[jl4]
 ·have qb:decide (((2:Nat):Int)<l.length)=false:=decide_eq_false (by omega)
  have hs:IntKind.i64.wrap (1*2^min (2:Nat) 64)=((4:Nat):Int):=by decide
  have qc:=qb
  refine zr2 (sza qb (sza hs qc)) ?_
  refine hK6 _ _ ?_
  refine szf ?_
  have he:=zpb hk hc0 (by omega)
  refine zau (hK3 _ _ ?_)
  refine szq (zxx ·) ?_
  refine zaj ?_
  try dsimp only[zcg,za5]
  refine za6 rfl ?_
  refine zxy ?_
  show closeA _ _=_
  refine jth ?_
  rw[←he];rfl
 ·have qb:decide (((2:Nat):Int)<l.length)=true:=decide_eq_true (by omega)
  have hs:IntKind.i64.wrap (1*2^min (2:Nat) 64)=((4:Nat):Int):=by decide
  have qc:decide (((4:Nat):Int)<(w:Int))=false:=decide_eq_false (by omega)
  refine zr2 (sza qb (sza hs qc)) ?_
  refine hK6 _ _ ?_
  refine szf ?_
  have he:=zpb hk hc0 (by omega)
  refine zau (hK3 _ _ ?_)
  refine szq (zxx ·) ?_
  refine zaj ?_
  try dsimp only[zcg,za5]
  refine za6 rfl ?_
  refine zxy ?_
  show closeA _ _=_
  refine jth ?_
  rw[←he];rfl
 ·have qb:decide (((2:Nat):Int)<l.length)=true:=decide_eq_true (by omega)
  have hs:IntKind.i64.wrap (1*2^min (2:Nat) 64)=((4:Nat):Int):=by decide
  have qc:decide (((4:Nat):Int)<(w:Int))=true:=decide_eq_true (by omega)
  refine zr2 (sza qb (sza hs qc)) ?_
  refine hK6 _ _ ?_
  refine szt ?_
  have hst:=zzy (l:=l) (k:=2) (by decide)
  refine zai (hK5 _ _ ?_)
  refine zaa fun K19 hK19=>?_
  refine zag ?_
  refine szs (zxw ·) (hK19 _ _ ?_)
  refine za1 hp zah hc rfl fun K21 hK21=>?_
  refine zxw ?_
  refine hK21 _ _ ⟨_,_,_,?_,⟨3,⟨by omega,fun j hj=>by rcases(show j=0∨j=1∨j=2 by omega)with rfl|rfl|rfl<;>(constructor<;>omega)⟩,rfl,rfl,rfl⟩,?_⟩
  ·first|omega|(simp only[List.length_cons];omega)|(dsimp only;omega)
  ·refine Rt.trans (Rt.gc (keep:=[0,1]) (by decide) (by decide) (by simp[fzH,gcH])) ?_
   refine yhb ?_
   refine yjs ?_;rw[←hst];simp[jl4]
 ·have qb:decide (((3:Nat):Int)<l.length)=false:=decide_eq_false (by omega)
  have hs:IntKind.i64.wrap (1*2^min (3:Nat) 64)=((8:Nat):Int):=by decide
  have qc:=qb
  refine zr2 (sza qb (sza hs qc)) ?_
  refine hK6 _ _ ?_
  refine szf ?_
  have he:=zpb hk hc0 (by omega)
  refine zau (hK3 _ _ ?_)
  refine szq (zxx ·) ?_
  refine zaj ?_
  try dsimp only[zcg,za5]
  refine za6 rfl ?_
  refine zxy ?_
  show closeA _ _=_
  refine jth ?_
  rw[←he];rfl
 ·have qb:decide (((3:Nat):Int)<l.length)=true:=decide_eq_true (by omega)
  have hs:IntKind.i64.wrap (1*2^min (3:Nat) 64)=((8:Nat):Int):=by decide
  have qc:decide (((8:Nat):Int)<(w:Int))=false:=decide_eq_false (by omega)
  refine zr2 (sza qb (sza hs qc)) ?_
  refine hK6 _ _ ?_
  refine szf ?_
  have he:=zpb hk hc0 (by omega)
  refine zau (hK3 _ _ ?_)
  refine szq (zxx ·) ?_
  refine zaj ?_
  try dsimp only[zcg,za5]
  refine za6 rfl ?_
  refine zxy ?_
  show closeA _ _=_
  refine jth ?_
  rw[←he];rfl
theorem zvg{f:Nat→Int}{gs:Gs}:∀n,zbu (fun gs i=>(gs,f i)) gs n=(gs,(List.range n).map f)
 |0=>rfl
 |n+1=>by rw[zbu,zvg n];simp[qav]
theorem zr3{a b c:Int}:Value.agg #[.int .i64 a,.int .i64 b,.int .i64 c]=wV ⟨a,b,c⟩:=rfl
def xA(al:List (List Int))(f:FuncId):zad:=[bP,.cells [.d (intssD al)],.cells [.d (.val (.func (.func f) #[] #[]))]]
theorem jwf{p q:Prop}(hq:q)(h:p=q:=by
 conv=>lhs;simp -dsimp -implicitDefEqProofs (disch:=first|assumption|omega|(simp only[r_z,zac,zab]<;>omega)|decide) only[r_r,↓reduceIte,Nat.reduceEqDiff,Nat.reduceAdd,D.fix,Int.reduceToNat,Nat.reduceMul,Nat.reduceBNe,Nat.reduceBEq,r_m,bH,bO,zar,za3,bP,List.cons_append,List.nil_append,xA,intssD]):p:=h.mpr hq
theorem jf2{p q:Prop}(hq:q)(h:p=q:=by
 conv=>lhs;simp -dsimp -implicitDefEqProofs (disch:=first|assumption|omega|(simp only[r_z,zac,zab]<;>omega)|decide) only[r_r,↓reduceIte,Nat.reduceEqDiff,Nat.reduceAdd,D.fix,Int.reduceToNat,Nat.reduceMul,Nat.reduceBNe,Nat.reduceBEq,r_w,r_m,bH,bO,zar,za3,bP,List.cons_append,List.nil_append,xA,intssD,za4,qae]):p:=h.mpr hq
theorem yjt{P:Program}{sm:List Nat}{N:Nat}{τ0 τ:Fr}{H:zad}{f:FuncId}{args:List AV}{K0 KK:AV→zad→Prop}{ks:List Nat}(S T:zad)(h:ScS P ks f args S K0)(hK:∀x S',K0 x S'→S'.length=S.length∧KK x (S'++T))(hH:H=S++T:=by
 rfl) (hN:S.length≤N:=by
 exact qaf rfl) (hm:sm.all (okI ks S.length)=true:=by
 first|rfl|(simp[AV.allIs,AV.allI,zas,zal,zam,okI,ltI,zae,zaz,bH,bO,bP,xA];done)|(intro o ho;simp at ho;done)) (hτ:∀t,(τ t).allI (okI ks S.length)=true:=by
 exact fun t=>zbi (by first|rfl|(simp[AV.allIs,AV.allI,zas,zal,zam,okI,ltI,zae,zaz,bH,bO,bP,xA];done)|(intro o ho;simp at ho;done)) t) (h0:∀t,(τ0 t).allI (okI ks S.length)=true:=by
 exact fun t=>zbi (by first|rfl|(simp[AV.allIs,AV.allI,zas,zal,zam,okI,ltI,zae,zaz,bH,bO,bP,xA];done)|(intro o ho;simp at ho;done)) t) (ha:AV.allIs (ltI S.length) args=true:=by
 first|rfl|(simp[AV.allIs,AV.allI,zas,zal,zam,okI,ltI,zae,zaz,bH,bO,bP,xA];done)|(intro o ho;simp at ho;done)) (hS:∀o∈S,o.allI (ltI S.length)=true:=by
 first|rfl|(simp[AV.allIs,AV.allI,zas,zal,zam,okI,ltI,zae,zaz,bH,bO,bP,xA];done)|(intro o ho;simp at ho;done)) (hT:∀o∈T,o.allI (okI ks S.length)=true:=by
 first|rfl|(simp[AV.allIs,AV.allI,zas,zal,zam,okI,ltI,zae,zaz,bH,bO,bP,xA];done)|(intro o ho;simp at ho;done)):kE P sm N τ0 τ H (.d (.val (.func (.func f) #[] #[]))) args (tg KK):=zpl h hH hN hm hτ h0 ha hS hT hK
theorem jxx(k:List Nat){m:List Nat}{τ τ1:Fr}{H H1:zad}(h:Rt m (fun t=>gcV k (τ t)) (gcH k H) τ1 H1)(a:∀i∈m,k[i]? =some i:=by decide)(b:k.Nodup:=by decide)(c:∀i∈k,i<H.length:=by
 simp[fzH,gcH]):Rt m τ H τ1 H1:=Rt.trans (Rt.gc a b c) h
theorem jxy{m:List Nat}{τ τ':Fr}{H H':zad}(h2:H=H')(h:zgk τ τ':=by
 repeat (first|exact zaq _|refine zak ?_ (by first|rfl|(simp[r_f,zac,zab];done)|simp[r_f,zac,zab, *]))):Rt m τ H τ' H':=Rt.end h h2
theorem yju{p:Prop}(h:p:=by
 first|rfl|(simp only[r_g,Nat.reduceAdd,↓reduceIte,Nat.reduceEqDiff,r_m,bH,bO,zar,za3,bP,List.cons_append,List.nil_append,xA,intssD];first|done|rfl)):p:=h
theorem jwg(e:BE)(gs:Gs)(μ:Mp)(al:List (List Int))(i:Nat)(x:Int)(h:BOk e gs μ)(h1:1<al.length)(hi:i<(nth al 1).length)(hx:NdB (mE2 e) gs x)(hy:NdB (mE2 e) gs (nth (nth al 1) i)):ScS prog [0,1,3,4,5,6,7,8,9,10] 144 [.d (iD i),.d (iD x),.op 10 0,.op 8 0,.op 9 0] (bH e gs μ++xA al 95) (jfy e (xA al 95) (zdn (mE2 e) gs x (nth (nth al 1) i))):=by
 refine zbg (fn:=f144) (by kernel_rfl) func144 rfl (qaf rfl) fun c hc hp=>?_
 refine zn1 ?_
 unfold bH xA bP
 refine szq (jwf ·) ?_
 refine zbc zah hp hc mixed rfl [(0,[]),(1,[]),(2,[]),(3,[]),(4,[]),(5,[]),(6,[]),(7,[]),(8,[]),(9,[]),(10,[])] [[],[],[],[],[3],[3,4],[],[3,4,5,6],[3,4,5,6,7],[0,1,2,3,4,5,6,7,8],[0,1,2,3,4,5,6,7,8,9]] 0 (by kernel_rfl) fun K2 hK2=>?_
 refine jf2 ?_
 refine yjt (bH e gs μ) (xA al 95) (zj3 e gs μ x (nth (nth al 1) i) h hx hy) ?_
 rintro _ _ ⟨μ1,hn1,rfl,rfl⟩
 refine⟨rfl,?_⟩
 refine jf2 ?_
 refine hK2 _ _ ?_
 refine zav hp (τ':=frL [(7,.d (iD (zdn (mE2 e) gs x (nth (nth al 1) i)).2))]) (H':=bH e (zdn (mE2 e) gs x (nth (nth al 1) i)).1 μ1++xA al 95) ?_ ?_
 ·refine jxx [0,1,2,3,4,5,6,7,8,9,10] ?_
  refine jxy ?_
  exact yju
 refine zaj ?_
 refine zap (t:=7) rfl ?_
 show ∃_,_
 exact⟨μ1,hn1,rfl,rfl⟩
theorem yfn(e:BE)(gs:Gs)(μ:Mp)(al:List (List Int))(i:Nat)(x:Int)(h:BOk e gs μ)(h1:1<al.length)(hi:i<(nth al 1).length)(hx:NdB (mE2 e) gs x)(hy:NdB (mE2 e) gs (nth (nth al 1) i)):ScS prog [0,1,3,4,5,6,7,8,9,10] 144 [.d (iD i),.d (iD x),.op 10 0,.op 8 0,.op 9 0] (bH e gs μ++xA al 141) (jfy e (xA al 141) (orB (mE2 e) gs x (nth (nth al 1) i))):=by
 refine zbg (fn:=f144) (by kernel_rfl) func144 rfl (qaf rfl) fun c hc hp=>?_
 refine zn1 ?_
 unfold bH xA bP
 refine szq (jwf ·) ?_
 refine zbc zah hp hc mixed rfl [(0,[]),(1,[]),(2,[]),(3,[]),(4,[]),(5,[]),(6,[]),(7,[]),(8,[]),(9,[]),(10,[])] [[],[],[],[],[3],[3,4],[],[3,4,5,6],[3,4,5,6,7],[0,1,2,3,4,5,6,7,8],[0,1,2,3,4,5,6,7,8,9]] 0 (by kernel_rfl) fun K2 hK2=>?_
 refine jf2 ?_
 refine yjt (bH e gs μ) (xA al 141) (jk7 e gs μ x (nth (nth al 1) i) h hx hy) ?_
 rintro _ _ ⟨μ1,hn1,rfl,rfl⟩
 refine⟨rfl,?_⟩
 refine jf2 ?_
 refine hK2 _ _ ?_
 refine zav hp (τ':=frL [(7,.d (iD (orB (mE2 e) gs x (nth (nth al 1) i)).2))]) (H':=bH e (orB (mE2 e) gs x (nth (nth al 1) i)).1 μ1++xA al 141) ?_ ?_
 ·refine jxx [0,1,2,3,4,5,6,7,8,9,10] ?_
  refine jxy ?_
  exact yju
 refine zaj ?_
 refine zap (t:=7) rfl ?_
 show ∃_,_
 exact⟨μ1,hn1,rfl,rfl⟩
theorem jwh(e:BE)(gs:Gs)(μ:Mp)(al:List (List Int))(i:Nat)(x:Int)(h:BOk e gs μ)(h1:1<al.length)(hi:i<(nth al 1).length)(hx:NdB (mE2 e) gs x)(hy:NdB (mE2 e) gs (nth (nth al 1) i)):ScS prog [0,1,3,4,5,6,7,8,9,10] 144 [.d (iD i),.d (iD x),.op 10 0,.op 8 0,.op 9 0] (bH e gs μ++xA al 143) (jfy e (xA al 143) (zh0 (mE2 e) gs x (nth (nth al 1) i))):=by
 refine zbg (fn:=f144) (by kernel_rfl) func144 rfl (qaf rfl) fun c hc hp=>?_
 refine zn1 ?_
 unfold bH xA bP
 refine szq (jwf ·) ?_
 refine zbc zah hp hc mixed rfl [(0,[]),(1,[]),(2,[]),(3,[]),(4,[]),(5,[]),(6,[]),(7,[]),(8,[]),(9,[]),(10,[])] [[],[],[],[],[3],[3,4],[],[3,4,5,6],[3,4,5,6,7],[0,1,2,3,4,5,6,7,8],[0,1,2,3,4,5,6,7,8,9]] 0 (by kernel_rfl) fun K2 hK2=>?_
 refine jf2 ?_
 refine yjt (bH e gs μ) (xA al 143) (jei e gs μ x (nth (nth al 1) i) h hx hy) ?_
 rintro _ _ ⟨μ1,hn1,rfl,rfl⟩
 refine⟨rfl,?_⟩
 refine jf2 ?_
 refine hK2 _ _ ?_
 refine zav hp (τ':=frL [(7,.d (iD (zh0 (mE2 e) gs x (nth (nth al 1) i)).2))]) (H':=bH e (zh0 (mE2 e) gs x (nth (nth al 1) i)).1 μ1++xA al 143) ?_ ?_
 ·refine jxx [0,1,2,3,4,5,6,7,8,9,10] ?_
  refine jxy ?_
  exact yju
 refine zaj ?_
 refine zap (t:=7) rfl ?_
 show ∃_,_
 exact⟨μ1,hn1,rfl,rfl⟩
theorem yfo{p q:Prop}(hq:q)(h:p=q:=by
 conv=>lhs;simp -dsimp -implicitDefEqProofs (disch:=first|assumption|omega|(simp only[r_z,zac,zab]<;>omega)|decide) only[r_r,↓reduceIte,Nat.reduceEqDiff,Nat.reduceAdd,D.fix,Int.reduceToNat,Nat.reduceMul,Nat.reduceBNe,Nat.reduceBEq,r_w,r_m,bH,bO,zar,za3,bP,List.cons_append,List.nil_append,intssD,za4,qae]):p:=h.mpr hq
theorem yjv(e:BE)(gs:Gs)(μ:Mp)(al:List (List Int))(i:Nat)(x:Int)(h:BOk e gs μ)(h2:2<al.length)(h0:0<(nth al 0).length)(hi:i<(nth al 2).length)(hcc:NdB (mE2 e) gs (nth (nth al 0) 0))(hx:NdB (mE2 e) gs x)(hy:NdB (mE2 e) gs (nth (nth al 2) i))(hl:gs.length+2≤100000):ScS prog [0,1,3,4,5,6,7,8,9] 151 [.d (iD i),.d (iD x),.op 8 0,.op 9 0] (bH e gs μ++[bP,.cells [.d (intssD al)]]) (jfy e [bP,.cells [.d (intssD al)]] (zlf (mE2 e) gs (nth (nth al 0) 0) x (nth (nth al 2) i))):=by
 refine zbg (fn:=f151) (by kernel_rfl) func151 rfl (qaf rfl) fun c hc hp=>?_
 refine zl1 ?_
 unfold bH bP
 refine zaf hp zah hc rfl fun K1 hK1=>?_
 simp -dsimp -implicitDefEqProofs (disch:=first|assumption|omega|(simp only[r_z,zac,zab]<;>omega)|decide) only[r_r,↓reduceIte,Nat.reduceEqDiff,Nat.reduceAdd,D.fix,Int.reduceToNat,Nat.reduceMul,Nat.reduceBNe,Nat.reduceBEq,r_m,bH,bO,zar,za3,bP,List.cons_append,List.nil_append,intssD]
 refine hK1 _ _ ?_
 refine zbc zah hp hc mixed rfl [(0,[]),(1,[]),(2,[]),(3,[]),(4,[]),(5,[]),(6,[]),(7,[]),(8,[]),(9,[]),(10,[]),(11,[]),(12,[]),(13,[]),(14,[])] [[],[],[1],[1,2],[1,2,3],[1,2,3,4],[],[],[7],[7,8],[],[7,8,9,10],[7,8,9,10,11],[0,1,2,3,4,5,6,7,8,9,10,11,12],[0,1,2,3,4,5,6,7,8,9,10,11,12,13]] 0 (by kernel_rfl) fun K2 hK2=>?_
 refine yfo ?_
 refine zpl (S:=bH e gs μ) (T:=[bP,.cells [.d (intssD al)]]) (jtc e gs μ (nth (nth al 0) 0) x (nth (nth al 2) i) h hcc hx hy hl) rfl (qaf rfl) (by first|rfl|(simp[AV.allIs,AV.allI,zas,zal,zam,okI,ltI,zae,zaz,bH,bO,bP];done)|(intro o ho;simp at ho;done)) (fun t=>zbi (by first|rfl|(simp[AV.allIs,AV.allI,zas,zal,zam,okI,ltI,zae,zaz,bH,bO,bP];done)|(intro o ho;simp at ho;done)) t) (fun t=>zbi (by first|rfl|(simp[AV.allIs,AV.allI,zas,zal,zam,okI,ltI,zae,zaz,bH,bO,bP];done)|(intro o ho;simp at ho;done)) t) (by first|rfl|(simp[AV.allIs,AV.allI,zas,zal,zam,okI,ltI,zae,zaz,bH,bO,bP];done)|(intro o ho;simp at ho;done)) (by first|rfl|(simp[AV.allIs,AV.allI,zas,zal,zam,okI,ltI,zae,zaz,bH,bO,bP];done)|(intro o ho;simp at ho;done)) (by first|rfl|(simp[AV.allIs,AV.allI,zas,zal,zam,okI,ltI,zae,zaz,bH,bO,bP];done)|(intro o ho;simp at ho;done)) ?_
 rintro _ _ ⟨μ1,hn1,rfl,rfl⟩
 refine⟨rfl,?_⟩
 refine yfo ?_
 refine hK2 _ _ ?_
 refine zav hp (τ':=frL [(6,.d (iD (zlf (mE2 e) gs (nth (nth al 0) 0) x (nth (nth al 2) i)).2))]) (H':=bH e (zlf (mE2 e) gs (nth (nth al 0) 0) x (nth (nth al 2) i)).1 μ1++[bP,.cells [.d (intssD al)]]) ?_ ?_
 ·refine jxx [0,1,2,3,4,5,6,7,8,9] ?_
  refine jxy ?_
  first|rfl|(simp only[r_g,Nat.reduceAdd,↓reduceIte,Nat.reduceEqDiff,r_m,bH,bO,zar,za3,bP,List.cons_append,List.nil_append,intssD];first|done|rfl)
 refine zaj ?_
 refine zap (t:=6) rfl ?_
 show ∃_,_
 exact⟨μ1,hn1,rfl,rfl⟩
theorem yfp{p q:Prop}(hq:q)(h:p=q:=by
 conv=>lhs;simp -dsimp -implicitDefEqProofs (disch:=first|assumption|omega|(simp only[r_z,zac,zab]<;>omega)|decide) only[r_r,↓reduceIte,Nat.reduceEqDiff,Nat.reduceAdd,D.fix,Int.reduceToNat,Nat.reduceMul,Nat.reduceBNe,Nat.reduceBEq,r_m,bH,bO,zar,za3,bP,List.cons_append,List.nil_append]):p:=h.mpr hq
theorem yma{p:Prop}(h:p:=by
 first|rfl|(simp only[r_g,Nat.reduceAdd,↓reduceIte,Nat.reduceEqDiff,r_m,bH,bO,zar,za3,bP,List.cons_append,List.nil_append];first|done|rfl)):p:=h
theorem yjw(e:BE)(gs:Gs)(μ:Mp)(v i:Nat)(x:Int)(hn:NdM (mE2 e) gs μ)(hv:v<2^62)(hi:i≤60):ScS prog [0,1,3,4,5,6,7,8] 145 [.d (iD i),.d (iD x),.op 8 0] (bH e gs μ++[.cells [.d (iD v)]]) (jfy e [.cells [.d (iD v)]] (gs,((v / 2^i % 2:Nat):Int))):=by
 refine zbg (fn:=f145) (by kernel_rfl) func145 rfl (qaf rfl) fun c hc hp=>?_
 refine zf8 ?_
 unfold bH
 have hbv:=yi0 (v:=v) (k:=i) hv (by omega)
 refine szq (yfp ·) ?_
 refine zaf hp zah hc rfl fun K2 hK2=>?_
 simp -dsimp -implicitDefEqProofs (disch:=first|assumption|omega|(simp only[r_z,zac,zab]<;>omega)|decide) only[r_r,↓reduceIte,Nat.reduceEqDiff,Nat.reduceAdd,D.fix,Int.reduceToNat,Nat.reduceMul,Nat.reduceBNe,Nat.reduceBEq,r_m,bH,bO,zar,za3,bP,List.cons_append,List.nil_append,hbv,Int.toNat_natCast,qae]
 refine hK2 _ _ ?_
 refine zav hp (τ':=frL [(5,.d (iD ((v / 2^i % 2:Nat):Int)))]) (H':=bH e gs μ++[.cells [.d (iD v)]]) ?_ ?_
 ·refine jxx [0,1,2,3,4,5,6,7,8] ?_
  refine jxy ?_
  exact yma
 refine zaj ?_
 refine zap (t:=5) rfl ?_
 show ∃_,_
 exact⟨μ,hn,rfl,rfl⟩
theorem yjx(e:BE)(gs:Gs)(μ:Mp)(j i:Nat)(x:Int)(hn:NdM (mE2 e) gs μ)(hm:InM e.ins e.mi)(hw:(⟨1,(j:Int),(i:Int)⟩:Wire)∈e.ins)(hj:j≤1000)(hi:i≤1000):ScS prog [0,1,3,4,5,6,7,8,9] 146 [.d (iD i),.d (iD x),.op 8 0,.op 9 0] (bH e gs μ++[bP,.cells [.d (iD j)]]) (jfy e [bP,.cells [.d (iD j)]] (gs,((2+zqo ⟨1,(j:Int),(i:Int)⟩ e.ins:Nat):Int))):=by
 refine zbg (fn:=f146) (by kernel_rfl) func146 rfl (qaf rfl) fun c hc hp=>?_
 refine zl1 ?_
 unfold bH bP
 have hkey:zk8 prog tWm (wV ⟨1,(j:Int),(i:Int)⟩):=zw4 (a:=1) (b:=(j:Int)) (c:=(i:Int)) (zh2 (by decide) (by decide)) (zh2 (by omega) (by omega)) (zh2 (by omega) (by omega))
 have hgm:=hm.gt ⟨1,(j:Int),(i:Int)⟩
 rw[if_pos hw]at hgm
 refine szq (yfp ·) ?_
 refine zay zah hc mixed rfl (q:=0) (by kernel_rfl) (by kernel_rfl) fun K2 hK2=>?_
 simp -dsimp -implicitDefEqProofs (disch:=first|assumption|omega|(simp only[r_z,zac,zab]<;>omega)|decide) only[r_r,↓reduceIte,Nat.reduceEqDiff,Nat.reduceAdd,D.fix,Int.reduceToNat,Nat.reduceMul,Nat.reduceBNe,Nat.reduceBEq,r_m,bH,bO,zar,za3,bP,List.cons_append,List.nil_append,zr3,zfc,zpk yg7 hkey hm.ok,hgm,Option.getD_some,qae]
 refine hK2 _ _ ?_
 refine zav hp (τ':=frL [(6,.d (iD ((2+zqo ⟨1,(j:Int),(i:Int)⟩ e.ins:Nat):Int)))]) (H':=bH e gs μ++[bP,.cells [.d (iD j)]]) ?_ ?_
 ·refine jxx [0,1,2,3,4,5,6,7,8,9] ?_
  refine jxy ?_
  exact yma
 refine zaj ?_
 refine zap (t:=6) rfl ?_
 show ∃_,_
 exact⟨μ,hn,rfl,rfl⟩
theorem yfq{p q:Prop}(hq:q)(h:p=q:=by
 conv=>lhs;simp -dsimp -implicitDefEqProofs (disch:=first|assumption|omega|(simp only[r_z,zac,zab]<;>omega)|decide) only[r_r,↓reduceIte,Nat.reduceEqDiff,Nat.reduceAdd,D.fix,Int.reduceToNat,Nat.reduceMul,Nat.reduceBNe,Nat.reduceBEq,r_m,bH,bO,zar,za3,bP,List.cons_append,List.nil_append,qae]):p:=h.mpr hq
theorem zzz(k:List Nat){m:List Nat}{τ τ1:Fr}{H H1:zad}(h:Rt m (fun t=>gcV k (τ t)) (gcH k H) τ1 H1)(a:∀i∈m,k[i]? =some i:=by decide)(b:k.Nodup:=by decide)(c:∀i∈k,i<H.length:=by
 simp[fzH,gcH]):Rt m τ H τ1 H1:=Rt.trans (Rt.gc a b c) h
theorem zsc{m:List Nat}{τ τ':Fr}{H H':zad}(h2:H=H')(h:zgk τ τ':=by
 repeat (first|exact zaq _|refine zak ?_ (by first|rfl|(simp[r_f,zac,zab];done)|simp[r_f,zac,zab, *]))):Rt m τ H τ' H':=Rt.end h h2
theorem yjy(e:BE)(gs:Gs)(μ:Mp)(d0 d1 d2:Int)(j i:Nat)(x:Int)(h:BOk e gs μ)(h0:NdB (mE2 e) gs d0)(h1:NdB (mE2 e) gs d1)(h2:NdB (mE2 e) gs d2)(hj:j≤1000)(hi:i≤1000):ScS prog [0,1,3,4,5,6,7,8,9,10] 153 [.d (iD i),.d (iD x),.op 8 0,.op 9 0,.op 10 0] (bH e gs μ++[bP,.cells [.d (iD d0),.d (iD d1),.d (iD d2)],.cells [.d (iD j)]]) (jfy e [bP,.cells [.d (iD d0),.d (iD d1),.d (iD d2)],.cells [.d (iD j)]] (zc8 (mE2 e) gs ⟨7,d0,d1,d2,((8*j+i:Nat):Int)⟩)):=by
 refine zbg (fn:=f153) (by kernel_rfl) func153 rfl (qaf rfl) fun c hc hp=>?_
 refine zn1 ?_
 unfold bH bP
 have hcc:((8*j+i:Nat):Int)=8*(j:Int)+i:=by omega
 rw[hcc]
 refine zaf hp zah hc rfl fun K1 hK1=>?_
 simp -dsimp -implicitDefEqProofs (disch:=first|assumption|omega|(simp only[r_z,zac,zab]<;>omega)|decide) only[r_r,↓reduceIte,Nat.reduceEqDiff,Nat.reduceAdd,D.fix,Int.reduceToNat,Nat.reduceMul,Nat.reduceBNe,Nat.reduceBEq,r_m,bH,bO,zar,za3,bP,List.cons_append,List.nil_append]
 refine hK1 _ _ ?_
 refine zaf hp zah hc rfl fun K2 hK2=>?_
 refine yfq ?_
 refine zk7 (S:=bH e gs μ) (T:=[bP,.cells [.d (iD d0),.d (iD d1),.d (iD d2)],.cells [.d (iD j)]]) (zl9 e gs μ ⟨7,d0,d1,d2,8*(j:Int)+i⟩ h.n ⟨(zh2 (by decide) (by decide):I64 7),h.nd64 h0,h.nd64 h1,h.nd64 h2,(zh2 (by omega) (by omega):I64 (8*(j:Int)+i))⟩ h.i h.l) rfl (by first|rfl|(simp[AV.allIs,AV.allI,zas,zal,zam,okI,ltI,zae,zaz,bH,bO,bP];done)|(intro o ho;simp at ho;done)) (fun t=>zbi (by first|rfl|(simp[AV.allIs,AV.allI,zas,zal,zam,okI,ltI,zae,zaz,bH,bO,bP];done)|(intro o ho;simp at ho;done)) t) (by first|rfl|(simp[AV.allIs,AV.allI,zas,zal,zam,okI,ltI,zae,zaz,bH,bO,bP];done)|(intro o ho;simp at ho;done)) (by first|rfl|(simp[AV.allIs,AV.allI,zas,zal,zam,okI,ltI,zae,zaz,bH,bO,bP];done)|(intro o ho;simp at ho;done)) (by first|rfl|(simp[AV.allIs,AV.allI,zas,zal,zam,okI,ltI,zae,zaz,bH,bO,bP];done)|(intro o ho;simp at ho;done)) ?_
 rintro _ _ ⟨μ1,hn1,rfl,rfl⟩
 refine⟨rfl,?_⟩
 refine yfq ?_
 refine hK2 _ _ ?_
 refine zav hp (τ':=frL [(7,.d (iD (zc8 (mE2 e) gs ⟨7,d0,d1,d2,8*(j:Int)+i⟩).2))]) (H':=bH e (zc8 (mE2 e) gs ⟨7,d0,d1,d2,8*(j:Int)+i⟩).1 μ1++[bP,.cells [.d (iD d0),.d (iD d1),.d (iD d2)],.cells [.d (iD j)]]) ?_ ?_
 ·refine zzz [0,1,2,3,4,5,6,7,8,9,10] ?_
  refine zsc ?_
  first|rfl|(simp only[r_g,Nat.reduceAdd,↓reduceIte,Nat.reduceEqDiff,r_m,bH,bO,zar,za3,bP,List.cons_append,List.nil_append];first|done|rfl)
 refine zaj ?_
 refine zap (t:=7) rfl ?_
 show ∃_,_
 exact⟨μ1,hn1,rfl,rfl⟩
def zya(m:Nat)(gs:Gs)(x y:List Int)(k:Nat):Gs × List Int:=zbu (fun gs i=>zdn m gs (nth x i) (nth y i)) gs k
theorem jlf{m:Nat}{gs:Gs}{x y:List Int}{k:Nat}:zya m gs x y (k+1)=((zdn m (zya m gs x y k).1 (nth x k) (nth y k)).1,(zya m gs x y k).2++[(zdn m (zya m gs x y k).1 (nth x k) (nth y k)).2]):=rfl
theorem jwi{m:Nat}{gs:Gs}{x y:List Int}{n k:Nat}(h2:2≤m)(h:GI m gs)(hx:NdL m gs x n)(hy:NdL m gs y n)(hk:k≤n):Bs m (1*k) k gs (zya m gs x y k):=zc3 h fun j hj gs' hp hg=>zfy h2 hg ((hx j (by omega)).pre hp) ((hy j (by omega)).pre hp)
theorem jwj(e:BE)(gs:Gs)(μ:Mp)(x y:List Int)(i:Nat)(z:Int)(h:BOk e gs μ)(hi:i<y.length)(hx:NdB (mE2 e) gs z)(hy:NdB (mE2 e) gs (nth y i)):ScS prog [0,1,3,4,5,6,7,8,9,10] 144 [.d (iD i),.d (iD z),.op 10 0,.op 8 0,.op 9 0] (bH e gs μ++xA [x,y] 95) (jfy e (xA [x,y] 95) (zdn (mE2 e) gs z (nth y i))):=jwg e gs μ [x,y] i z h (by simp) hi hx hy
theorem jf3{p q:Prop}(hq:q)(h:p=q:=by
 conv=>lhs;simp -dsimp -implicitDefEqProofs (disch:=first|assumption|omega|(simp only[r_z,zac,zab]<;>omega)|decide) only[r_r,↓reduceIte,Nat.reduceEqDiff,Nat.reduceAdd,D.fix,Int.reduceToNat,Nat.reduceMul,Nat.reduceBNe,Nat.reduceBEq,r_m,bH,bO,zar,za3,zcu,List.cons_append,List.nil_append,bP,xA]):p:=h.mpr hq
theorem zi8{p q:Prop}(hq:q)(h:p=q:=by
 conv=>lhs;simp -dsimp -implicitDefEqProofs (disch:=first|assumption|omega|(simp only[r_z,zac,zab]<;>omega)|decide) only[r_r,↓reduceIte,Nat.reduceEqDiff,Nat.reduceAdd,D.fix,Int.reduceToNat,Nat.reduceMul,Nat.reduceBNe,Nat.reduceBEq,r_m,bH,bO,zar,za3,zcu,List.cons_append,List.nil_append,bP,xA,qae]):p:=h.mpr hq
theorem jwk{p q:Prop}(hq:q)(h:p=q:=by
 conv=>lhs;simp -dsimp -implicitDefEqProofs (disch:=first|assumption|omega|(simp only[r_z,zac,zab]<;>omega)|decide) only[r_r,↓reduceIte,Nat.reduceEqDiff,Nat.reduceAdd,D.fix,Int.reduceToNat,Nat.reduceMul,Nat.reduceBNe,Nat.reduceBEq,r_m,bH,bO,zar,za3,zcu,List.cons_append,List.nil_append,bP,xA,za4,qae]):p:=h.mpr hq
theorem yjz{P:Program}{sm:List Nat}{N:Nat}{τ:Fr}{H:zad}{f:FuncId}{fi ca args:List AV}{K0 KK:AV→zad→Prop}{ks:List Nat}(S T:zad)(h:ScS P ks f (fi++args++ca) S K0)(hK:∀x S',K0 x S'→S'.length=S.length∧KK x (S'++T))(hH:H=S++T:=by
 rfl) (hm:sm.all (okI ks S.length)=true:=by
 first|rfl|(simp[AV.allIs,AV.allI,zas,zal,zam,okI,ltI,zae,zaz,bH,bO,zcu,bP,xA];done)|(intro o ho;simp at ho;done)) (hτ:∀t,(τ t).allI (okI ks S.length)=true:=by
 exact fun t=>zbi (by first|rfl|(simp[AV.allIs,AV.allI,zas,zal,zam,okI,ltI,zae,zaz,bH,bO,zcu,bP,xA];done)|(intro o ho;simp at ho;done)) t) (ha:AV.allIs (ltI S.length) (fi++args++ca)=true:=by
 first|rfl|(simp[AV.allIs,AV.allI,zas,zal,zam,okI,ltI,zae,zaz,bH,bO,zcu,bP,xA];done)|(intro o ho;simp at ho;done)) (hS:∀o∈S,o.allI (ltI S.length)=true:=by
 first|rfl|(simp[AV.allIs,AV.allI,zas,zal,zam,okI,ltI,zae,zaz,bH,bO,zcu,bP,xA];done)|(intro o ho;simp at ho;done)) (hT:∀o∈T,o.allI (okI ks S.length)=true:=by
 first|rfl|(simp[AV.allIs,AV.allI,zas,zal,zam,okI,ltI,zae,zaz,bH,bO,zcu,bP,xA];done)|(intro o ho;simp at ho;done)):kC P sm N H τ (.clo (.func f) fi ca) args true (tg KK):=zow h hH hm hτ ha hS hT hK
theorem jxz{p q:Prop}(hq:q)(h:p=q:=by
 conv=>lhs;simp only[r_g,Nat.reduceAdd,↓reduceIte,Nat.reduceEqDiff,r_m,bH,bO,zar,za3,zcu,List.cons_append,List.nil_append,bP,xA]):p:=h.mpr hq
theorem yj0{p:Prop}(h:p:=by
 first|rfl|(simp only[r_g,Nat.reduceAdd,↓reduceIte,Nat.reduceEqDiff,r_m,bH,bO,zar,za3,zcu,List.cons_append,List.nil_append,bP,xA];first|done|rfl)):p:=h
theorem jow(e:BE)(gs:Gs)(μ:Mp)(x y:List Int)(h:BOk e gs μ)(hx:NdL (mE2 e) gs x x.length)(hy:NdL (mE2 e) gs y x.length)(hxy:y.length=x.length)(hl:gs.length+x.length≤99990)(hxl:x.length≤1000):ScS prog [0,1,3,4,5,6,7,8,9,10] 138 [.d (intsD x),.clo (.func 144) [] [.op 10 0,.op 8 0,.op 9 0]] (bH e gs μ++[bP,.cells [.d (intssD [x,y])],.cells [.d (.val (.func (.func 95) #[] #[]))]]) (joo e [bP,.cells [.d (intssD [x,y])],.cells [.d (.val (.func (.func 95) #[] #[]))]] (zya (mE2 e) gs x y x.length)):=by
 refine zbg (fn:=f138) (by kernel_rfl) func138 rfl (qaf rfl) fun c hc hp=>?_
 refine zdq ?_
 unfold bH bP
 refine szq (jf3 ·) ?_
 refine szq (zi8 ·) ?_
 refine zaa fun K3 hK3=>?_
 refine szq (zi8 ·) ?_
 refine zag ?_
 refine zao hp (fun τ' H' mm=>∃(k:Nat) (μ1:Mp),(k≤x.length∧NdM (mE2 e) (zya (mE2 e) gs x y k).1 μ1)∧mm=x.length - k∧H'=bH e (zya (mE2 e) gs x y k).1 μ1++[bP,.cells [.d (intssD [x,y])],.cells [.d (.val (.func (.func 95) #[] #[]))],zcu (zya (mE2 e) gs x y k).2 x.length]∧τ'=frL [(1,.clo (.func 144) [] [.op 10 0,.op 8 0,.op 9 0]),(5,.os 1 11 0 x.length),(11,.d (intsD x)),(12,.d (iD x.length)),(13,.d (iD k))]) (x.length) ?_ ⟨0,μ,⟨qap _,h.n⟩,rfl,rfl,rfl⟩ ?_
 ·refine zsc ?_
  refine jxz ?_;simp[zya,zbu,zcu,bH,bO,zar,iD,avs,bP,xA]
 rintro τ' H' mm ⟨k,μ1,⟨hk,hn1⟩,rfl,rfl,rfl⟩
 have hb:=jwi zg3 h.g hx hy hk
 have hsu:=@jlf (mE2 e) gs x y k
 have hke:k=x.length→zya (mE2 e) gs x y x.length=zya (mE2 e) gs x y k:=fun e=>by rw[←e]
 generalize zya (mE2 e) gs x y k=s at *
 have hw:=hb.wid
 have hbl:=hb.len
 have h1:BOk e s.1 μ1:=⟨hn1,hb.gi,h.i,by have:=h.l;omega⟩
 refine szq (zi8 ·) ?_
 refine zaa fun K6 hK6=>?_
 refine zan rfl (fun ht=>?_) (fun ht=>?_)
 ·have hlt:k<x.length:=by simp at ht;omega
  have hst:=zgy hw hlt (zdn (mE2 e) s.1 (nth x k) (nth y k)).2
  refine zai (hK6 _ _ ?_)
  refine zaa fun K7 hK7=>?_
  refine zag ?_
  refine szq (jwk ·) ?_
  refine za1 hp zah hc rfl fun K9 hK9=>?_
  refine zi8 ?_
  refine yjz (bH e s.1 μ1++[bP,.cells [.d (intssD [x,y])],.cells [.d (.val (.func (.func 95) #[] #[]))]]) ([zcu s.2 x.length]) (jwj e s.1 μ1 x y k (nth x k) h1 (by show k<y.length;omega) ((hx k hlt).pre hb.pre) ((hy k hlt).pre hb.pre)) ?_
  rintro _ _ ⟨μ2,hn2,rfl,rfl⟩
  refine⟨rfl,?_⟩
  refine zi8 ?_
  refine hK9 _ _ (hK7 _ _ ?_)
  refine za1 hp zah hc rfl fun K10 hK10=>?_
  refine zi8 ?_
  refine hK10 _ _ ⟨_,_,_,?_,⟨k+1,μ2,⟨by omega,by rw[hsu];exact hn2⟩,rfl,rfl,rfl⟩,?_⟩
  ·first|omega|(simp only[List.length_cons];omega)|(dsimp only;omega)
  ·refine zzz [0,1,2,3,4,5,6,7,8,9,10,11] ?_
   refine zsc ?_
   refine jxz ?_;rw[hsu];dsimp only;rw[←hst];simp[bH,bO,zar,avs,bP,xA]
 ·have hkk:k=x.length:=by simp at ht;omega
  have hz:s.2++List.replicate (x.length - s.2.length) (0:Int)=s.2:=by rw[hw,hkk,Nat.sub_self];simp
  rw[hz]
  refine zau (hK3 _ _ ?_)
  refine szq (jf3 ·) ?_
  refine zav hp (τ':=frL [(4,.d (.fs (s.2.map iD) x.length))]) (H':=bH e s.1 μ1++[bP,.cells [.d (intssD [x,y])],.cells [.d (.val (.func (.func 95) #[] #[]))]]) ?_ ?_
  ·refine Rt.trans (Rt.fz (id:=11) (l:=(s.2.map iD)) rfl) ?_
   refine Rt.trans (Rt.slot 4 (zex (zba (by simp[hw,hkk])))) ?_
   refine zzz [0,1,2,3,4,5,6,7,8,9,10] ?_
   refine zsc ?_
   exact yj0
  refine zaj ?_
  refine zap (t:=4) rfl ?_
  show ∃_,_
  rw[hke hkk];exact⟨μ1,hn1,by show AV.d (.fs (s.2.map iD) x.length)= .d (.fs (s.2.map iD) s.2.length);rw[hw,hkk],rfl⟩
def orW(m:Nat)(gs:Gs)(x y:List Int)(k:Nat):Gs × List Int:=zbu (fun gs i=>orB m gs (nth x i) (nth y i)) gs k
theorem jox{m:Nat}{gs:Gs}{x y:List Int}{k:Nat}:orW m gs x y (k+1)=((orB m (orW m gs x y k).1 (nth x k) (nth y k)).1,(orW m gs x y k).2++[(orB m (orW m gs x y k).1 (nth x k) (nth y k)).2]):=rfl
theorem yfr{m:Nat}{gs:Gs}{x y:List Int}{n k:Nat}(h2:2≤m)(h:GI m gs)(hx:NdL m gs x n)(hy:NdL m gs y n)(hk:k≤n):Bs m (1*k) k gs (orW m gs x y k):=zc3 h fun j hj gs' hp hg=>zw0 h2 hg ((hx j (by omega)).pre hp) ((hy j (by omega)).pre hp)
theorem yfs(e:BE)(gs:Gs)(μ:Mp)(x y:List Int)(i:Nat)(z:Int)(h:BOk e gs μ)(hi:i<y.length)(hx:NdB (mE2 e) gs z)(hy:NdB (mE2 e) gs (nth y i)):ScS prog [0,1,3,4,5,6,7,8,9,10] 144 [.d (iD i),.d (iD z),.op 10 0,.op 8 0,.op 9 0] (bH e gs μ++xA [x,y] 141) (jfy e (xA [x,y] 141) (orB (mE2 e) gs z (nth y i))):=yfn e gs μ [x,y] i z h (by simp) hi hx hy
theorem jwl(e:BE)(gs:Gs)(μ:Mp)(x y:List Int)(h:BOk e gs μ)(hx:NdL (mE2 e) gs x x.length)(hy:NdL (mE2 e) gs y x.length)(hxy:y.length=x.length)(hl:gs.length+x.length≤99990)(hxl:x.length≤1000):ScS prog [0,1,3,4,5,6,7,8,9,10] 138 [.d (intsD x),.clo (.func 144) [] [.op 10 0,.op 8 0,.op 9 0]] (bH e gs μ++[bP,.cells [.d (intssD [x,y])],.cells [.d (.val (.func (.func 141) #[] #[]))]]) (joo e [bP,.cells [.d (intssD [x,y])],.cells [.d (.val (.func (.func 141) #[] #[]))]] (orW (mE2 e) gs x y x.length)):=by
 refine zbg (fn:=f138) (by kernel_rfl) func138 rfl (qaf rfl) fun c hc hp=>?_
 refine zdq ?_
 unfold bH bP
 refine szq (jf3 ·) ?_
 refine szq (zi8 ·) ?_
 refine zaa fun K3 hK3=>?_
 refine szq (zi8 ·) ?_
 refine zag ?_
 refine zao hp (fun τ' H' mm=>∃(k:Nat) (μ1:Mp),(k≤x.length∧NdM (mE2 e) (orW (mE2 e) gs x y k).1 μ1)∧mm=x.length - k∧H'=bH e (orW (mE2 e) gs x y k).1 μ1++[bP,.cells [.d (intssD [x,y])],.cells [.d (.val (.func (.func 141) #[] #[]))],zcu (orW (mE2 e) gs x y k).2 x.length]∧τ'=frL [(1,.clo (.func 144) [] [.op 10 0,.op 8 0,.op 9 0]),(5,.os 1 11 0 x.length),(11,.d (intsD x)),(12,.d (iD x.length)),(13,.d (iD k))]) (x.length) ?_ ⟨0,μ,⟨qap _,h.n⟩,rfl,rfl,rfl⟩ ?_
 ·refine zsc ?_
  refine jxz ?_;simp[orW,zbu,zcu,bH,bO,zar,iD,avs,bP,xA]
 rintro τ' H' mm ⟨k,μ1,⟨hk,hn1⟩,rfl,rfl,rfl⟩
 have hb:=yfr zg3 h.g hx hy hk
 have hsu:=@jox (mE2 e) gs x y k
 have hke:k=x.length→orW (mE2 e) gs x y x.length=orW (mE2 e) gs x y k:=fun e=>by rw[←e]
 generalize orW (mE2 e) gs x y k=s at *
 have hw:=hb.wid
 have hbl:=hb.len
 have h1:BOk e s.1 μ1:=⟨hn1,hb.gi,h.i,by have:=h.l;omega⟩
 refine szq (zi8 ·) ?_
 refine zaa fun K6 hK6=>?_
 refine zan rfl (fun ht=>?_) (fun ht=>?_)
 ·have hlt:k<x.length:=by simp at ht;omega
  have hst:=zgy hw hlt (orB (mE2 e) s.1 (nth x k) (nth y k)).2
  refine zai (hK6 _ _ ?_)
  refine zaa fun K7 hK7=>?_
  refine zag ?_
  refine szq (jwk ·) ?_
  refine za1 hp zah hc rfl fun K9 hK9=>?_
  refine zi8 ?_
  refine yjz (bH e s.1 μ1++[bP,.cells [.d (intssD [x,y])],.cells [.d (.val (.func (.func 141) #[] #[]))]]) ([zcu s.2 x.length]) (yfs e s.1 μ1 x y k (nth x k) h1 (by show k<y.length;omega) ((hx k hlt).pre hb.pre) ((hy k hlt).pre hb.pre)) ?_
  rintro _ _ ⟨μ2,hn2,rfl,rfl⟩
  refine⟨rfl,?_⟩
  refine zi8 ?_
  refine hK9 _ _ (hK7 _ _ ?_)
  refine za1 hp zah hc rfl fun K10 hK10=>?_
  refine zi8 ?_
  refine hK10 _ _ ⟨_,_,_,?_,⟨k+1,μ2,⟨by omega,by rw[hsu];exact hn2⟩,rfl,rfl,rfl⟩,?_⟩
  ·first|omega|(simp only[List.length_cons];omega)|(dsimp only;omega)
  ·refine zzz [0,1,2,3,4,5,6,7,8,9,10,11] ?_
   refine zsc ?_
   refine jxz ?_;rw[hsu];dsimp only;rw[←hst];simp[bH,bO,zar,avs,bP,xA]
 ·have hkk:k=x.length:=by simp at ht;omega
  have hz:s.2++List.replicate (x.length - s.2.length) (0:Int)=s.2:=by rw[hw,hkk,Nat.sub_self];simp
  rw[hz]
  refine zau (hK3 _ _ ?_)
  refine szq (jf3 ·) ?_
  refine zav hp (τ':=frL [(4,.d (.fs (s.2.map iD) x.length))]) (H':=bH e s.1 μ1++[bP,.cells [.d (intssD [x,y])],.cells [.d (.val (.func (.func 141) #[] #[]))]]) ?_ ?_
  ·refine Rt.trans (Rt.fz (id:=11) (l:=(s.2.map iD)) rfl) ?_
   refine Rt.trans (Rt.slot 4 (zex (zba (by simp[hw,hkk])))) ?_
   refine zzz [0,1,2,3,4,5,6,7,8,9,10] ?_
   refine zsc ?_
   exact yj0
  refine zaj ?_
  refine zap (t:=4) rfl ?_
  show ∃_,_
  rw[hke hkk];exact⟨μ1,hn1,by show AV.d (.fs (s.2.map iD) x.length)= .d (.fs (s.2.map iD) s.2.length);rw[hw,hkk],rfl⟩
def zyb(m:Nat)(gs:Gs)(x y:List Int)(k:Nat):Gs × List Int:=zbu (fun gs i=>zh0 m gs (nth x i) (nth y i)) gs k
theorem jlg{m:Nat}{gs:Gs}{x y:List Int}{k:Nat}:zyb m gs x y (k+1)=((zh0 m (zyb m gs x y k).1 (nth x k) (nth y k)).1,(zyb m gs x y k).2++[(zh0 m (zyb m gs x y k).1 (nth x k) (nth y k)).2]):=rfl
theorem jwm{m:Nat}{gs:Gs}{x y:List Int}{n k:Nat}(h2:2≤m)(h:GI m gs)(hx:NdL m gs x n)(hy:NdL m gs y n)(hk:k≤n):Bs m (1*k) k gs (zyb m gs x y k):=zc3 h fun j hj gs' hp hg=>zjr h2 hg ((hx j (by omega)).pre hp) ((hy j (by omega)).pre hp)
theorem jwn(e:BE)(gs:Gs)(μ:Mp)(x y:List Int)(i:Nat)(z:Int)(h:BOk e gs μ)(hi:i<y.length)(hx:NdB (mE2 e) gs z)(hy:NdB (mE2 e) gs (nth y i)):ScS prog [0,1,3,4,5,6,7,8,9,10] 144 [.d (iD i),.d (iD z),.op 10 0,.op 8 0,.op 9 0] (bH e gs μ++xA [x,y] 143) (jfy e (xA [x,y] 143) (zh0 (mE2 e) gs z (nth y i))):=jwh e gs μ [x,y] i z h (by simp) hi hx hy
theorem joy(e:BE)(gs:Gs)(μ:Mp)(x y:List Int)(h:BOk e gs μ)(hx:NdL (mE2 e) gs x x.length)(hy:NdL (mE2 e) gs y x.length)(hxy:y.length=x.length)(hl:gs.length+x.length≤99990)(hxl:x.length≤1000):ScS prog [0,1,3,4,5,6,7,8,9,10] 138 [.d (intsD x),.clo (.func 144) [] [.op 10 0,.op 8 0,.op 9 0]] (bH e gs μ++[bP,.cells [.d (intssD [x,y])],.cells [.d (.val (.func (.func 143) #[] #[]))]]) (joo e [bP,.cells [.d (intssD [x,y])],.cells [.d (.val (.func (.func 143) #[] #[]))]] (zyb (mE2 e) gs x y x.length)):=by
 refine zbg (fn:=f138) (by kernel_rfl) func138 rfl (qaf rfl) fun c hc hp=>?_
 refine zdq ?_
 unfold bH bP
 refine szq (jf3 ·) ?_
 refine szq (zi8 ·) ?_
 refine zaa fun K3 hK3=>?_
 refine szq (zi8 ·) ?_
 refine zag ?_
 refine zao hp (fun τ' H' mm=>∃(k:Nat) (μ1:Mp),(k≤x.length∧NdM (mE2 e) (zyb (mE2 e) gs x y k).1 μ1)∧mm=x.length - k∧H'=bH e (zyb (mE2 e) gs x y k).1 μ1++[bP,.cells [.d (intssD [x,y])],.cells [.d (.val (.func (.func 143) #[] #[]))],zcu (zyb (mE2 e) gs x y k).2 x.length]∧τ'=frL [(1,.clo (.func 144) [] [.op 10 0,.op 8 0,.op 9 0]),(5,.os 1 11 0 x.length),(11,.d (intsD x)),(12,.d (iD x.length)),(13,.d (iD k))]) (x.length) ?_ ⟨0,μ,⟨qap _,h.n⟩,rfl,rfl,rfl⟩ ?_
 ·refine zsc ?_
  refine jxz ?_;simp[zyb,zbu,zcu,bH,bO,zar,iD,avs,bP,xA]
 rintro τ' H' mm ⟨k,μ1,⟨hk,hn1⟩,rfl,rfl,rfl⟩
 have hb:=jwm zg3 h.g hx hy hk
 have hsu:=@jlg (mE2 e) gs x y k
 have hke:k=x.length→zyb (mE2 e) gs x y x.length=zyb (mE2 e) gs x y k:=fun e=>by rw[←e]
 generalize zyb (mE2 e) gs x y k=s at *
 have hw:=hb.wid
 have hbl:=hb.len
 have h1:BOk e s.1 μ1:=⟨hn1,hb.gi,h.i,by have:=h.l;omega⟩
 refine szq (zi8 ·) ?_
 refine zaa fun K6 hK6=>?_
 refine zan rfl (fun ht=>?_) (fun ht=>?_)
 ·have hlt:k<x.length:=by simp at ht;omega
  have hst:=zgy hw hlt (zh0 (mE2 e) s.1 (nth x k) (nth y k)).2
  refine zai (hK6 _ _ ?_)
  refine zaa fun K7 hK7=>?_
  refine zag ?_
  refine szq (jwk ·) ?_
  refine za1 hp zah hc rfl fun K9 hK9=>?_
  refine zi8 ?_
  refine yjz (bH e s.1 μ1++[bP,.cells [.d (intssD [x,y])],.cells [.d (.val (.func (.func 143) #[] #[]))]]) ([zcu s.2 x.length]) (jwn e s.1 μ1 x y k (nth x k) h1 (by show k<y.length;omega) ((hx k hlt).pre hb.pre) ((hy k hlt).pre hb.pre)) ?_
  rintro _ _ ⟨μ2,hn2,rfl,rfl⟩
  refine⟨rfl,?_⟩
  refine zi8 ?_
  refine hK9 _ _ (hK7 _ _ ?_)
  refine za1 hp zah hc rfl fun K10 hK10=>?_
  refine zi8 ?_
  refine hK10 _ _ ⟨_,_,_,?_,⟨k+1,μ2,⟨by omega,by rw[hsu];exact hn2⟩,rfl,rfl,rfl⟩,?_⟩
  ·first|omega|(simp only[List.length_cons];omega)|(dsimp only;omega)
  ·refine zzz [0,1,2,3,4,5,6,7,8,9,10,11] ?_
   refine zsc ?_
   refine jxz ?_;rw[hsu];dsimp only;rw[←hst];simp[bH,bO,zar,avs,bP,xA]
 ·have hkk:k=x.length:=by simp at ht;omega
  have hz:s.2++List.replicate (x.length - s.2.length) (0:Int)=s.2:=by rw[hw,hkk,Nat.sub_self];simp
  rw[hz]
  refine zau (hK3 _ _ ?_)
  refine szq (jf3 ·) ?_
  refine zav hp (τ':=frL [(4,.d (.fs (s.2.map iD) x.length))]) (H':=bH e s.1 μ1++[bP,.cells [.d (intssD [x,y])],.cells [.d (.val (.func (.func 143) #[] #[]))]]) ?_ ?_
  ·refine Rt.trans (Rt.fz (id:=11) (l:=(s.2.map iD)) rfl) ?_
   refine Rt.trans (Rt.slot 4 (zex (zba (by simp[hw,hkk])))) ?_
   refine zzz [0,1,2,3,4,5,6,7,8,9,10] ?_
   refine zsc ?_
   exact yj0
  refine zaj ?_
  refine zap (t:=4) rfl ?_
  show ∃_,_
  rw[hke hkk];exact⟨μ1,hn1,by show AV.d (.fs (s.2.map iD) x.length)= .d (.fs (s.2.map iD) s.2.length);rw[hw,hkk],rfl⟩
def zyc(m:Nat)(gs:Gs)(q:Int)(x y:List Int)(k:Nat):Gs × List Int:=zbu (fun gs i=>zlf m gs q (nth x i) (nth y i)) gs k
theorem jlh{m:Nat}{gs:Gs}{q:Int}{x y:List Int}{k:Nat}:zyc m gs q x y (k+1)=((zlf m (zyc m gs q x y k).1 q (nth x k) (nth y k)).1,(zyc m gs q x y k).2++[(zlf m (zyc m gs q x y k).1 q (nth x k) (nth y k)).2]):=rfl
theorem jwo{m:Nat}{gs:Gs}{q:Int}{x y:List Int}{n k:Nat}(h2:2≤m)(h:GI m gs)(hq:NdB m gs q)(hx:NdL m gs x n)(hy:NdL m gs y n)(hk:k≤n):Bs m (2*k) k gs (zyc m gs q x y k):=zc3 h fun j hj gs' hp hg=>zt2 h2 hg (hq.pre hp) ((hx j (by omega)).pre hp) ((hy j (by omega)).pre hp)
theorem yj1(e:BE)(gs:Gs)(μ:Mp)(a x y:List Int)(i:Nat)(z:Int)(h:BOk e gs μ)(h0:0<a.length)(hi:i<y.length)(hq:NdB (mE2 e) gs (nth a 0))(hx:NdB (mE2 e) gs z)(hy:NdB (mE2 e) gs (nth y i))(hl:gs.length+2≤100000):ScS prog [0,1,3,4,5,6,7,8,9] 151 [.d (iD i),.d (iD z),.op 8 0,.op 9 0] (bH e gs μ++[bP,.cells [.d (intssD [a,x,y])]]) (jfy e [bP,.cells [.d (intssD [a,x,y])]] (zlf (mE2 e) gs (nth a 0) z (nth y i))):=yjv e gs μ [a,x,y] i z h (by simp) h0 hi hq hx hy hl
theorem jf4{p q:Prop}(hq:q)(h:p=q:=by
 conv=>lhs;simp -dsimp -implicitDefEqProofs (disch:=first|assumption|omega|(simp only[r_z,zac,zab]<;>omega)|decide) only[r_r,↓reduceIte,Nat.reduceEqDiff,Nat.reduceAdd,D.fix,Int.reduceToNat,Nat.reduceMul,Nat.reduceBNe,Nat.reduceBEq,r_m,bH,bO,zar,za3,zcu,List.cons_append,List.nil_append,bP]):p:=h.mpr hq
theorem zi9{p q:Prop}(hq:q)(h:p=q:=by
 conv=>lhs;simp -dsimp -implicitDefEqProofs (disch:=first|assumption|omega|(simp only[r_z,zac,zab]<;>omega)|decide) only[r_r,↓reduceIte,Nat.reduceEqDiff,Nat.reduceAdd,D.fix,Int.reduceToNat,Nat.reduceMul,Nat.reduceBNe,Nat.reduceBEq,r_m,bH,bO,zar,za3,zcu,List.cons_append,List.nil_append,bP,qae]):p:=h.mpr hq
theorem yj2{P:Program}{sm:List Nat}{N:Nat}{τ:Fr}{H:zad}{f:FuncId}{fi ca args:List AV}{K0 KK:AV→zad→Prop}{ks:List Nat}(S T:zad)(h:ScS P ks f (fi++args++ca) S K0)(hK:∀x S',K0 x S'→S'.length=S.length∧KK x (S'++T))(hH:H=S++T:=by
 rfl) (hm:sm.all (okI ks S.length)=true:=by
 first|rfl|(simp[AV.allIs,AV.allI,zas,zal,zam,okI,ltI,zae,zaz,bH,bO,zcu,bP];done)|(intro o ho;simp at ho;done)) (hτ:∀t,(τ t).allI (okI ks S.length)=true:=by
 exact fun t=>zbi (by first|rfl|(simp[AV.allIs,AV.allI,zas,zal,zam,okI,ltI,zae,zaz,bH,bO,zcu,bP];done)|(intro o ho;simp at ho;done)) t) (ha:AV.allIs (ltI S.length) (fi++args++ca)=true:=by
 first|rfl|(simp[AV.allIs,AV.allI,zas,zal,zam,okI,ltI,zae,zaz,bH,bO,zcu,bP];done)|(intro o ho;simp at ho;done)) (hS:∀o∈S,o.allI (ltI S.length)=true:=by
 first|rfl|(simp[AV.allIs,AV.allI,zas,zal,zam,okI,ltI,zae,zaz,bH,bO,zcu,bP];done)|(intro o ho;simp at ho;done)) (hT:∀o∈T,o.allI (okI ks S.length)=true:=by
 first|rfl|(simp[AV.allIs,AV.allI,zas,zal,zam,okI,ltI,zae,zaz,bH,bO,zcu,bP];done)|(intro o ho;simp at ho;done)):kC P sm N H τ (.clo (.func f) fi ca) args true (tg KK):=zow h hH hm hτ ha hS hT hK
theorem jx0{p q:Prop}(hq:q)(h:p=q:=by
 conv=>lhs;simp only[r_g,Nat.reduceAdd,↓reduceIte,Nat.reduceEqDiff,r_m,bH,bO,zar,za3,zcu,List.cons_append,List.nil_append,bP]):p:=h.mpr hq
theorem yj3{p:Prop}(h:p:=by
 first|rfl|(simp only[r_g,Nat.reduceAdd,↓reduceIte,Nat.reduceEqDiff,r_m,bH,bO,zar,za3,zcu,List.cons_append,List.nil_append,bP];first|done|rfl)):p:=h
theorem joz(e:BE)(gs:Gs)(μ:Mp)(a x y:List Int)(h:BOk e gs μ)(ha:0<a.length)(hq:NdB (mE2 e) gs (nth a 0))(hx:NdL (mE2 e) gs x x.length)(hy:NdL (mE2 e) gs y x.length)(hxy:y.length=x.length)(hl:gs.length+2*x.length≤99990)(hxl:x.length≤1000):ScS prog [0,1,3,4,5,6,7,8,9] 138 [.d (intsD x),.clo (.func 151) [] [.op 8 0,.op 9 0]] (bH e gs μ++[bP,.cells [.d (intssD [a,x,y])]]) (joo e [bP,.cells [.d (intssD [a,x,y])]] (zyc (mE2 e) gs (nth a 0) x y x.length)):=by
 refine zbg (fn:=f138) (by kernel_rfl) func138 rfl (qaf rfl) fun c hc hp=>?_
 refine zdq ?_
 unfold bH bP
 refine szq (jf4 ·) ?_
 refine szq (zi9 ·) ?_
 refine zaa fun K3 hK3=>?_
 refine szq (zi9 ·) ?_
 refine zag ?_
 refine zao hp (fun τ' H' mm=>∃(k:Nat) (μ1:Mp),(k≤x.length∧NdM (mE2 e) (zyc (mE2 e) gs (nth a 0) x y k).1 μ1)∧mm=x.length - k∧H'=bH e (zyc (mE2 e) gs (nth a 0) x y k).1 μ1++[bP,.cells [.d (intssD [a,x,y])],zcu (zyc (mE2 e) gs (nth a 0) x y k).2 x.length]∧τ'=frL [(1,.clo (.func 151) [] [.op 8 0,.op 9 0]),(5,.os 1 10 0 x.length),(11,.d (intsD x)),(12,.d (iD x.length)),(13,.d (iD k))]) (x.length) ?_ ⟨0,μ,⟨qap _,h.n⟩,rfl,rfl,rfl⟩ ?_
 ·refine zsc ?_
  refine jx0 ?_;simp[zyc,zbu,zcu,bH,bO,zar,iD,avs,bP]
 rintro τ' H' mm ⟨k,μ1,⟨hk,hn1⟩,rfl,rfl,rfl⟩
 have hb:=jwo zg3 h.g hq hx hy hk
 have hsu:=@jlh (mE2 e) gs (nth a 0) x y k
 have hke:k=x.length→zyc (mE2 e) gs (nth a 0) x y x.length=zyc (mE2 e) gs (nth a 0) x y k:=fun e=>by rw[←e]
 generalize zyc (mE2 e) gs (nth a 0) x y k=s at *
 have hw:=hb.wid
 have hbl:=hb.len
 have h1:BOk e s.1 μ1:=⟨hn1,hb.gi,h.i,by have:=h.l;omega⟩
 refine szq (zi9 ·) ?_
 refine zaa fun K6 hK6=>?_
 refine zan rfl (fun ht=>?_) (fun ht=>?_)
 ·have hlt:k<x.length:=by simp at ht;omega
  have hst:=zgy hw hlt (zlf (mE2 e) s.1 (nth a 0) (nth x k) (nth y k)).2
  refine zai (hK6 _ _ ?_)
  refine zaa fun K7 hK7=>?_
  refine zag ?_
  refine zaf hp zah hc rfl fun K8 hK8=>?_
  simp -dsimp -implicitDefEqProofs (disch:=first|assumption|omega|(simp only[r_z,zac,zab]<;>omega)|decide) only[r_r,↓reduceIte,Nat.reduceEqDiff,Nat.reduceAdd,D.fix,Int.reduceToNat,Nat.reduceMul,Nat.reduceBNe,Nat.reduceBEq,r_m,bH,bO,zar,za3,zcu,List.cons_append,List.nil_append,bP,za4,qae]
  refine hK8 _ _ ?_
  refine za1 hp zah hc rfl fun K9 hK9=>?_
  refine zi9 ?_
  refine yj2 (bH e s.1 μ1++[bP,.cells [.d (intssD [a,x,y])]]) ([zcu s.2 x.length]) (yj1 e s.1 μ1 a x y k (nth x k) h1 ha (by show k<y.length;omega) (hq.pre hb.pre) ((hx k hlt).pre hb.pre) ((hy k hlt).pre hb.pre) (by omega)) ?_
  rintro _ _ ⟨μ2,hn2,rfl,rfl⟩
  refine⟨rfl,?_⟩
  refine zi9 ?_
  refine hK9 _ _ (hK7 _ _ ?_)
  refine za1 hp zah hc rfl fun K10 hK10=>?_
  refine zi9 ?_
  refine hK10 _ _ ⟨_,_,_,?_,⟨k+1,μ2,⟨by omega,by rw[hsu];exact hn2⟩,rfl,rfl,rfl⟩,?_⟩
  ·first|omega|(simp only[List.length_cons];omega)|(dsimp only;omega)
  ·refine zzz [0,1,2,3,4,5,6,7,8,9,10] ?_
   refine zsc ?_
   refine jx0 ?_;rw[hsu];dsimp only;rw[←hst];simp[bH,bO,zar,avs,bP]
 ·have hkk:k=x.length:=by simp at ht;omega
  have hz:s.2++List.replicate (x.length - s.2.length) (0:Int)=s.2:=by rw[hw,hkk,Nat.sub_self];simp
  rw[hz]
  refine zau (hK3 _ _ ?_)
  refine szq (jf4 ·) ?_
  refine zav hp (τ':=frL [(4,.d (.fs (s.2.map iD) x.length))]) (H':=bH e s.1 μ1++[bP,.cells [.d (intssD [a,x,y])]]) ?_ ?_
  ·refine Rt.trans (Rt.fz (id:=10) (l:=(s.2.map iD)) rfl) ?_
   refine Rt.trans (Rt.slot 4 (zex (zba (by simp[hw,hkk])))) ?_
   refine zzz [0,1,2,3,4,5,6,7,8,9] ?_
   refine zsc ?_
   exact yj3
  refine zaj ?_
  refine zap (t:=4) rfl ?_
  show ∃_,_
  rw[hke hkk];exact⟨μ1,hn1,by show AV.d (.fs (s.2.map iD) x.length)= .d (.fs (s.2.map iD) s.2.length);rw[hw,hkk],rfl⟩
def zyd(gs:Gs)(v k:Nat):Gs × List Int:=zbu (fun gs i=>(gs,((v / 2^i % 2:Nat):Int))) gs k
theorem jli{gs:Gs}{v k:Nat}:zyd gs v (k+1)=((zyd gs v k).1,(zyd gs v k).2++[((v / 2^k % 2:Nat):Int)]):=rfl
theorem jwp{m:Nat}{gs:Gs}{v n k:Nat}(h2:2≤m)(h:GI m gs)(hk:k≤n):Bs m (0*k) k gs (zyd gs v k):=zc3 h fun j hj gs' hp hg=>Rs.same hg ⟨by omega,by omega⟩
theorem yft{p q:Prop}(hq:q)(h:p=q:=by
 conv=>lhs;simp -dsimp -implicitDefEqProofs (disch:=first|assumption|omega|(simp only[r_z,zac,zab]<;>omega)|decide) only[r_r,↓reduceIte,Nat.reduceEqDiff,Nat.reduceAdd,D.fix,Int.reduceToNat,Nat.reduceMul,Nat.reduceBNe,Nat.reduceBEq,r_m,bH,bO,zar,za3,zcu,List.cons_append,List.nil_append]):p:=h.mpr hq
theorem jf5{p q:Prop}(hq:q)(h:p=q:=by
 conv=>lhs;simp -dsimp -implicitDefEqProofs (disch:=first|assumption|omega|(simp only[r_z,zac,zab]<;>omega)|decide) only[r_r,↓reduceIte,Nat.reduceEqDiff,Nat.reduceAdd,D.fix,Int.reduceToNat,Nat.reduceMul,Nat.reduceBNe,Nat.reduceBEq,r_m,bH,bO,zar,za3,zcu,List.cons_append,List.nil_append,qae]):p:=h.mpr hq
theorem ymb{p q:Prop}(hq:q)(h:p=q:=by
 conv=>lhs;simp only[r_g,Nat.reduceAdd,↓reduceIte,Nat.reduceEqDiff,r_m,bH,bO,zar,za3,zcu,List.cons_append,List.nil_append]):p:=h.mpr hq
theorem jo0(e:BE)(gs:Gs)(μ:Mp)(v n:Nat)(h:BOk e gs μ)(hv:v<2^62)(hn60:n≤60):ScS prog [0,1,3,4,5,6,7,8,9] 138 [.os 1 9 0 n,.clo (.func 145) [] [.op 8 0]] (bH e gs μ++[.cells [.d (iD v)],.cells (avs (List.replicate n (iD 0)))]) (joo e [.cells [.d (iD v)],.cells (avs (List.replicate n (iD 0)))] (zyd gs v n)):=by
 refine zbg (fn:=f138) (by kernel_rfl) func138 rfl (qaf rfl) fun c hc hp=>?_
 refine zdq ?_
 unfold bH
 refine szq (yft ·) ?_
 refine szq (jf5 ·) ?_
 refine zaa fun K3 hK3=>?_
 refine szq (jf5 ·) ?_
 refine zag ?_
 refine zao hp (fun τ' H' mm=>∃(k:Nat) (μ1:Mp),(k≤n∧NdM (mE2 e) (zyd gs v k).1 μ1)∧mm=n - k∧H'=bH e (zyd gs v k).1 μ1++[.cells [.d (iD v)],.cells (avs (List.replicate n (iD 0))),zcu (zyd gs v k).2 n]∧τ'=frL [(1,.clo (.func 145) [] [.op 8 0]),(5,.os 1 10 0 n),(11,.os 1 9 0 n),(12,.d (iD n)),(13,.d (iD k))]) (n) ?_ ⟨0,μ,⟨qap _,h.n⟩,rfl,rfl,rfl⟩ ?_
 ·refine zsc ?_
  refine ymb ?_;simp[zyd,zbu,zcu,bH,bO,zar,iD,avs]
 rintro τ' H' mm ⟨k,μ1,⟨hk,hn1⟩,rfl,rfl,rfl⟩
 have hb:=jwp (m:=mE2 e) (v:=v) zg3 h.g hk
 have hsu:=@jli gs v k
 have hke:k=n→zyd gs v n=zyd gs v k:=fun e=>by rw[←e]
 generalize zyd gs v k=s at *
 have hw:=hb.wid
 have hbl:=hb.len
 have h1:BOk e s.1 μ1:=⟨hn1,hb.gi,h.i,by have:=h.l;omega⟩
 refine szq (jf5 ·) ?_
 refine zaa fun K6 hK6=>?_
 refine zan rfl (fun ht=>?_) (fun ht=>?_)
 ·have hlt:k<n:=by simp at ht;omega
  have hrep:(List.replicate n (D.val (.int .i64 0)))[k]? =some (.val (.int .i64 0)):=by simp[hlt]
  have hst:=zgy hw hlt ((s.1,((v / 2^k % 2:Nat):Int))).2
  refine zai (hK6 _ _ ?_)
  refine zaa fun K7 hK7=>?_
  refine zag ?_
  refine zaf hp zah hc rfl fun K8 hK8=>?_
  simp -dsimp -implicitDefEqProofs (disch:=first|assumption|omega|(simp only[r_z,zac,zab]<;>omega)|decide) only[r_r,↓reduceIte,Nat.reduceEqDiff,Nat.reduceAdd,D.fix,Int.reduceToNat,Nat.reduceMul,Nat.reduceBNe,Nat.reduceBEq,r_m,bH,bO,zar,za3,zcu,List.cons_append,List.nil_append,hrep,Option.map_some,qae]
  refine hK8 _ _ ?_
  refine za1 hp zah hc rfl fun K9 hK9=>?_
  refine jf5 ?_
  refine zow (S:=bH e s.1 μ1++[.cells [.d (iD v)]]) (T:=[.cells (avs (List.replicate n (iD 0))),zcu s.2 n]) (yjw e s.1 μ1 v k _ hn1 hv (by omega)) rfl (by first|rfl|(simp[AV.allIs,AV.allI,zas,zal,zam,okI,ltI,zae,zaz,bH,bO,zcu];done)|(intro o ho;simp at ho;done)) (fun t=>zbi (by first|rfl|(simp[AV.allIs,AV.allI,zas,zal,zam,okI,ltI,zae,zaz,bH,bO,zcu];done)|(intro o ho;simp at ho;done)) t) (by first|rfl|(simp[AV.allIs,AV.allI,zas,zal,zam,okI,ltI,zae,zaz,bH,bO,zcu];done)|(intro o ho;simp at ho;done)) (by first|rfl|(simp[AV.allIs,AV.allI,zas,zal,zam,okI,ltI,zae,zaz,bH,bO,zcu];done)|(intro o ho;simp at ho;done)) (by first|rfl|(simp[AV.allIs,AV.allI,zas,zal,zam,okI,ltI,zae,zaz,bH,bO,zcu];done)|(intro o ho;simp at ho;done)) ?_
  rintro _ _ ⟨μ2,hn2,rfl,rfl⟩
  refine⟨rfl,?_⟩
  refine jf5 ?_
  refine hK9 _ _ (hK7 _ _ ?_)
  refine za1 hp zah hc rfl fun K10 hK10=>?_
  refine jf5 ?_
  refine hK10 _ _ ⟨_,_,_,?_,⟨k+1,μ2,⟨by omega,by rw[hsu];exact hn2⟩,rfl,rfl,rfl⟩,?_⟩
  ·first|omega|(simp only[List.length_cons];omega)|(dsimp only;omega)
  ·refine zzz [0,1,2,3,4,5,6,7,8,9,10] ?_
   refine zsc ?_
   refine ymb ?_;rw[hsu];dsimp only;rw[←hst];simp[bH,bO,zar,avs,iD]
 ·have hkk:k=n:=by simp at ht;omega
  have hz:s.2++List.replicate (n - s.2.length) (0:Int)=s.2:=by rw[hw,hkk,Nat.sub_self];simp
  rw[hz]
  refine zau (hK3 _ _ ?_)
  refine szq (yft ·) ?_
  refine zav hp (τ':=frL [(4,.d (.fs (s.2.map iD) n))]) (H':=bH e s.1 μ1++[.cells [.d (iD v)],.cells (avs (List.replicate n (iD 0)))]) ?_ ?_
  ·refine Rt.trans (Rt.fz (id:=10) (l:=(s.2.map iD)) rfl) ?_
   refine Rt.trans (Rt.slot 4 (zex (zba (by simp[hw,hkk])))) ?_
   refine zzz [0,1,2,3,4,5,6,7,8,9] ?_
   refine zsc ?_
   first|rfl|(simp only[r_g,Nat.reduceAdd,↓reduceIte,Nat.reduceEqDiff,r_m,bH,bO,zar,za3,zcu,List.cons_append,List.nil_append];first|done|rfl)
  refine zaj ?_
  refine zap (t:=4) rfl ?_
  show ∃_,_
  rw[hke hkk];exact⟨μ1,hn1,by show AV.d (.fs (s.2.map iD) n)= .d (.fs (s.2.map iD) s.2.length);rw[hw,hkk],rfl⟩
def zye(ins:List Wire)(gs:Gs)(j k:Nat):Gs × List Int:=zbu (fun gs i=>(gs,((2+zqo ⟨1,(j:Int),(i:Int)⟩ ins:Nat):Int))) gs k
theorem jlj{ins:List Wire}{gs:Gs}{j k:Nat}:zye ins gs j (k+1)=((zye ins gs j k).1,(zye ins gs j k).2++[((2+zqo ⟨1,(j:Int),(k:Int)⟩ ins:Nat):Int)]):=rfl
theorem jwq{e:BE}{gs:Gs}{j n k:Nat}(h:GI (mE2 e) gs)(hw:∀i,i<n→(⟨1,(j:Int),(i:Int)⟩:Wire)∈e.ins)(hk:k≤n):Bs (mE2 e) (0*k) k gs (zye e.ins gs j k):=zc3 h fun i hi gs' hp hg=>Rs.same hg (by
 have:=(zm8 (hw i (by omega))).1
 exact⟨by omega,by unfold mE2;omega⟩)
theorem yfu{p q r:Prop}(e:r)(hq:q)(h:r→p=q:=by
 intro hY
 conv=>lhs;simp -dsimp -implicitDefEqProofs (disch:=first|assumption|omega|(simp only[r_z,zac,zab]<;>omega)|decide) only[r_r,↓reduceIte,Nat.reduceEqDiff,Nat.reduceAdd,D.fix,Int.reduceToNat,Nat.reduceMul,Nat.reduceBNe,Nat.reduceBEq,r_m,bH,bO,zar,za3,zcu,List.cons_append,List.nil_append,bP,qae,hY]):p:=(h e).mpr hq
theorem jo1(e:BE)(gs:Gs)(μ:Mp)(j n:Nat)(h:BOk e gs μ)(hm:InM e.ins e.mi)(hwi:∀i,i<n→(⟨1,(j:Int),(i:Int)⟩:Wire)∈e.ins)(hj:j≤1000)(hn60:n≤60):ScS prog [0,1,3,4,5,6,7,8,9] 138 [.d (.fs (List.replicate n (iD 0)) n),.clo (.func 146) [] [.op 8 0,.op 9 0]] (bH e gs μ++[bP,.cells [.d (iD j)]]) (joo e [bP,.cells [.d (iD j)]] (zye e.ins gs j n)):=by
 refine zbg (fn:=f138) (by kernel_rfl) func138 rfl (qaf rfl) fun c hc hp=>?_
 refine zdq ?_
 unfold bH bP
 refine szq (jf4 ·) ?_
 refine szq (zi9 ·) ?_
 refine zaa fun K3 hK3=>?_
 refine szq (zi9 ·) ?_
 refine zag ?_
 refine zao hp (fun τ' H' mm=>∃(k:Nat) (μ1:Mp),(k≤n∧NdM (mE2 e) (zye e.ins gs j k).1 μ1)∧mm=n - k∧H'=bH e (zye e.ins gs j k).1 μ1++[bP,.cells [.d (iD j)],zcu (zye e.ins gs j k).2 n]∧τ'=frL [(1,.clo (.func 146) [] [.op 8 0,.op 9 0]),(5,.os 1 10 0 n),(11,.d (.fs (List.replicate n (iD 0)) n)),(12,.d (iD n)),(13,.d (iD k))]) (n) ?_ ⟨0,μ,⟨qap _,h.n⟩,rfl,rfl,rfl⟩ ?_
 ·refine zsc ?_
  refine jx0 ?_;simp[zye,zbu,zcu,bH,bO,zar,iD,avs,bP]
 rintro τ' H' mm ⟨k,μ1,⟨hk,hn1⟩,rfl,rfl,rfl⟩
 have hb:=jwq h.g hwi hk
 have hsu:=@jlj e.ins gs j k
 have hke:k=n→zye e.ins gs j n=zye e.ins gs j k:=fun e=>by rw[←e]
 generalize zye e.ins gs j k=s at *
 have hw:=hb.wid
 have hbl:=hb.len
 have h1:BOk e s.1 μ1:=⟨hn1,hb.gi,h.i,by have:=h.l;omega⟩
 refine szq (zi9 ·) ?_
 refine zaa fun K6 hK6=>?_
 refine zan rfl (fun ht=>?_) (fun ht=>?_)
 ·have hlt:k<n:=by simp at ht;omega
  have hrep:(List.replicate n (D.val (.int .i64 0)))[k]? =some (.val (.int .i64 0)):=by simp[hlt]
  have hst:=zgy hw hlt ((s.1,((2+zqo ⟨1,(j:Int),(k:Int)⟩ e.ins:Nat):Int))).2
  refine zai (hK6 _ _ ?_)
  refine zaa fun K7 hK7=>?_
  refine zag ?_
  refine szq (yfu hrep ·) ?_
  refine za1 hp zah hc rfl fun K9 hK9=>?_
  refine zi9 ?_
  refine yj2 (bH e s.1 μ1++[bP,.cells [.d (iD j)]]) ([zcu s.2 n]) (yjx e s.1 μ1 j k _ hn1 hm (hwi k hlt) hj (by omega)) ?_
  rintro _ _ ⟨μ2,hn2,rfl,rfl⟩
  refine⟨rfl,?_⟩
  refine zi9 ?_
  refine hK9 _ _ (hK7 _ _ ?_)
  refine za1 hp zah hc rfl fun K10 hK10=>?_
  refine zi9 ?_
  refine hK10 _ _ ⟨_,_,_,?_,⟨k+1,μ2,⟨by omega,by rw[hsu];exact hn2⟩,rfl,rfl,rfl⟩,?_⟩
  ·first|omega|(simp only[List.length_cons];omega)|(dsimp only;omega)
  ·refine zzz [0,1,2,3,4,5,6,7,8,9,10] ?_
   refine zsc ?_
   refine jx0 ?_;rw[hsu];dsimp only;rw[←hst];simp[bH,bO,zar,avs,iD,bP]
 ·have hkk:k=n:=by simp at ht;omega
  have hz:s.2++List.replicate (n - s.2.length) (0:Int)=s.2:=by rw[hw,hkk,Nat.sub_self];simp
  rw[hz]
  refine zau (hK3 _ _ ?_)
  refine szq (jf4 ·) ?_
  refine zav hp (τ':=frL [(4,.d (.fs (s.2.map iD) n))]) (H':=bH e s.1 μ1++[bP,.cells [.d (iD j)]]) ?_ ?_
  ·refine Rt.trans (Rt.fz (id:=10) (l:=(s.2.map iD)) rfl) ?_
   refine Rt.trans (Rt.slot 4 (zex (zba (by simp[hw,hkk])))) ?_
   refine zzz [0,1,2,3,4,5,6,7,8,9] ?_
   refine zsc ?_
   exact yj3
  refine zaj ?_
  refine zap (t:=4) rfl ?_
  show ∃_,_
  rw[hke hkk];exact⟨μ1,hn1,by show AV.d (.fs (s.2.map iD) n)= .d (.fs (s.2.map iD) s.2.length);rw[hw,hkk],rfl⟩
def rdW(m:Nat)(gs:Gs)(d0 d1 d2:Int)(j k:Nat):Gs × List Int:=zbu (fun gs i=>zc8 m gs ⟨7,d0,d1,d2,((8*j+i:Nat):Int)⟩) gs k
theorem jo2{m:Nat}{gs:Gs}{d0 d1 d2:Int}{j k:Nat}:rdW m gs d0 d1 d2 j (k+1)=((zc8 m (rdW m gs d0 d1 d2 j k).1 ⟨7,d0,d1,d2,((8*j+k:Nat):Int)⟩).1,(rdW m gs d0 d1 d2 j k).2++[(zc8 m (rdW m gs d0 d1 d2 j k).1 ⟨7,d0,d1,d2,((8*j+k:Nat):Int)⟩).2]):=rfl
theorem yfv{m:Nat}{gs:Gs}{d0 d1 d2:Int}{j n k:Nat}(h:GI m gs)(h0:NdB m gs d0)(h1:NdB m gs d1)(h2:NdB m gs d2)(hj:8*j+n≤64)(hk:k≤n):Bs m (1*k) k gs (rdW m gs d0 d1 d2 j k):=zc3 h fun i hi gs' hp hg=>by
 have a:=h0.pre hp;have b:=h1.pre hp;have d:=h2.pre hp
 exact zih hg ⟨by simp,by simp,a.1,a.2,b.1,b.2,d.1,d.2,by simp only;omega,by simp only;omega,fun e=>absurd rfl e,fun e=>absurd e (by simp),fun e=>absurd e (by simp)⟩
  ⟨fun e=>absurd e (by simp),fun _ e=>absurd e (by simp),fun e=>absurd e (by simp),fun e=>absurd e (by simp)⟩
theorem jwr(e:BE)(gs:Gs)(μ:Mp)(d0 d1 d2:Int)(j n:Nat)(h:BOk e gs μ)(h0:NdB (mE2 e) gs d0)(hd1:NdB (mE2 e) gs d1)(hd2:NdB (mE2 e) gs d2)(hj:8*j+n≤64)(hl:gs.length+n≤99990):ScS prog [0,1,3,4,5,6,7,8,9,10] 138 [.d (.fs (List.replicate n (iD 0)) n),.clo (.func 153) [] [.op 8 0,.op 9 0,.op 10 0]] (bH e gs μ++[bP,.cells [.d (iD d0),.d (iD d1),.d (iD d2)],.cells [.d (iD j)]]) (joo e [bP,.cells [.d (iD d0),.d (iD d1),.d (iD d2)],.cells [.d (iD j)]] (rdW (mE2 e) gs d0 d1 d2 j n)):=by
 refine zbg (fn:=f138) (by kernel_rfl) func138 rfl (qaf rfl) fun c hc hp=>?_
 refine zdq ?_
 unfold bH bP
 refine szq (jf4 ·) ?_
 refine szq (zi9 ·) ?_
 refine zaa fun K3 hK3=>?_
 refine szq (zi9 ·) ?_
 refine zag ?_
 refine zao hp (fun τ' H' mm=>∃(k:Nat) (μ1:Mp),(k≤n∧NdM (mE2 e) (rdW (mE2 e) gs d0 d1 d2 j k).1 μ1)∧mm=n - k∧H'=bH e (rdW (mE2 e) gs d0 d1 d2 j k).1 μ1++[bP,.cells [.d (iD d0),.d (iD d1),.d (iD d2)],.cells [.d (iD j)],zcu (rdW (mE2 e) gs d0 d1 d2 j k).2 n]∧τ'=frL [(1,.clo (.func 153) [] [.op 8 0,.op 9 0,.op 10 0]),(5,.os 1 11 0 n),(11,.d (.fs (List.replicate n (iD 0)) n)),(12,.d (iD n)),(13,.d (iD k))]) (n) ?_ ⟨0,μ,⟨qap _,h.n⟩,rfl,rfl,rfl⟩ ?_
 ·refine zsc ?_
  refine jx0 ?_;simp[rdW,zbu,zcu,bH,bO,zar,iD,avs,bP]
 rintro τ' H' mm ⟨k,μ1,⟨hk,hn1⟩,rfl,rfl,rfl⟩
 have hb:=yfv h.g h0 hd1 hd2 hj hk
 have hsu:=@jo2 (mE2 e) gs d0 d1 d2 j k
 have hke:k=n→rdW (mE2 e) gs d0 d1 d2 j n=rdW (mE2 e) gs d0 d1 d2 j k:=fun e=>by rw[←e]
 generalize rdW (mE2 e) gs d0 d1 d2 j k=s at *
 have hw:=hb.wid
 have hbl:=hb.len
 have h1:BOk e s.1 μ1:=⟨hn1,hb.gi,h.i,by have:=h.l;omega⟩
 refine szq (zi9 ·) ?_
 refine zaa fun K6 hK6=>?_
 refine zan rfl (fun ht=>?_) (fun ht=>?_)
 ·have hlt:k<n:=by simp at ht;omega
  have hrep:(List.replicate n (D.val (.int .i64 0)))[k]? =some (.val (.int .i64 0)):=by simp[hlt]
  have hst:=zgy hw hlt (zc8 (mE2 e) s.1 ⟨7,d0,d1,d2,((8*j+k:Nat):Int)⟩).2
  refine zai (hK6 _ _ ?_)
  refine zaa fun K7 hK7=>?_
  refine zag ?_
  refine szq (yfu hrep ·) ?_
  refine za1 hp zah hc rfl fun K9 hK9=>?_
  refine zi9 ?_
  refine yj2 (bH e s.1 μ1++[bP,.cells [.d (iD d0),.d (iD d1),.d (iD d2)],.cells [.d (iD j)]]) ([zcu s.2 n]) (yjy e s.1 μ1 d0 d1 d2 j k _ h1 (h0.pre hb.pre) (hd1.pre hb.pre) (hd2.pre hb.pre) (by omega) (by omega)) ?_
  rintro _ _ ⟨μ2,hn2,rfl,rfl⟩
  refine⟨rfl,?_⟩
  refine zi9 ?_
  refine hK9 _ _ (hK7 _ _ ?_)
  refine za1 hp zah hc rfl fun K10 hK10=>?_
  refine zi9 ?_
  refine hK10 _ _ ⟨_,_,_,?_,⟨k+1,μ2,⟨by omega,by rw[hsu];exact hn2⟩,rfl,rfl,rfl⟩,?_⟩
  ·first|omega|(simp only[List.length_cons];omega)|(dsimp only;omega)
  ·refine zzz [0,1,2,3,4,5,6,7,8,9,10,11] ?_
   refine zsc ?_
   refine jx0 ?_;rw[hsu];dsimp only;rw[←hst];simp[bH,bO,zar,avs,iD,bP]
 ·have hkk:k=n:=by simp at ht;omega
  have hz:s.2++List.replicate (n - s.2.length) (0:Int)=s.2:=by rw[hw,hkk,Nat.sub_self];simp
  rw[hz]
  refine zau (hK3 _ _ ?_)
  refine szq (jf4 ·) ?_
  refine zav hp (τ':=frL [(4,.d (.fs (s.2.map iD) n))]) (H':=bH e s.1 μ1++[bP,.cells [.d (iD d0),.d (iD d1),.d (iD d2)],.cells [.d (iD j)]]) ?_ ?_
  ·refine Rt.trans (Rt.fz (id:=11) (l:=(s.2.map iD)) rfl) ?_
   refine Rt.trans (Rt.slot 4 (zex (zba (by simp[hw,hkk])))) ?_
   refine zzz [0,1,2,3,4,5,6,7,8,9,10] ?_
   refine zsc ?_
   exact yj3
  refine zaj ?_
  refine zap (t:=4) rfl ?_
  show ∃_,_
  rw[hke hkk];exact⟨μ1,hn1,by show AV.d (.fs (s.2.map iD) n)= .d (.fs (s.2.map iD) s.2.length);rw[hw,hkk],rfl⟩
end Go.Proofs.YtapjobndmmkanaaGreat
