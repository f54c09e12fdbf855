/- Valid nets are found valid; wires compared. -/
import Derived.Test.YtapjobndmmkanaaGreatQr
import Derived.Test.YtapjobndmmkanaaGreatVd
import Derived.Test.YtapjobndmmkanaaGreatOe
import Derived.Test.YtapjobndmmkanaaGreatPm
import Derived.Test.YtapjobndmmkanaaGreatPn
import Derived.Test.YtapjobndmmkanaaGreatPl
import Derived.Test.YtapjobndmmkanaaGreatYb
import Derived.Test.YtapjobndmmkanaaGreatYs
set_option linter.unusedVariables false
set_option linter.unusedSimpArgs false
set_option maxRecDepth 100000
set_option maxHeartbeats 4000000
namespace Go.Proofs.YtapjobndmmkanaaGreat
open Go.Proofs.Tryz
open Go Go.RowKit
structure NetV (n:Net):Prop where
 len:2+n.ins.length+n.gates.length≤600
 d0:n.out.length=n.drive.length
 wi:∀w∈n.ins,WireIn w
 wo:∀w∈n.out,WireOut w
 g2:zoc (2+n.ins.length) n.gates
 gv:∀g∈n.gates,GateV g
 d2:zu6 (2+n.ins.length+n.gates.length) n.drive
 dl:n.drive.length≤1000
def arN(o:Int):Nat:=if o=1 then 1 else if o≤4 then 2 else 3
theorem ykc{o:Int}(h1:1≤o)(h2:o≤7):(o=1∧arN o=1)∨(2≤o∧o≤4∧arN o=2)∨(5≤o∧arN o=3):=by
 unfold arN
 split
 ·exact .inl ⟨by omega,rfl⟩
 ·split
  ·exact .inr (.inl ⟨by omega,by omega,rfl⟩)
  ·exact .inr (.inr ⟨by omega,rfl⟩)
theorem znp{p q:Prop}(hq:q)(h:p=q:=by
 conv=>lhs;simp -dsimp -implicitDefEqProofs (disch:=first|assumption|omega|(simp only[r_z]<;>omega)|decide) only[r_r,↓reduceIte,Nat.reduceEqDiff,Nat.reduceAdd,D.fix,Int.reduceToNat,Nat.reduceMul,Nat.reduceBNe,Nat.reduceBEq]):p:=h.mpr hq
theorem ygc{p q r:Prop}(e:r)(hq:q)(h:r→p=q:=by
 intro hY
 conv=>lhs;simp -dsimp -implicitDefEqProofs (disch:=first|assumption|omega|(simp only[r_z]<;>omega)|decide) only[r_r,↓reduceIte,Nat.reduceEqDiff,Nat.reduceAdd,D.fix,Int.reduceToNat,Nat.reduceMul,Nat.reduceBNe,Nat.reduceBEq,qae,hY]):p:=(h e).mpr hq
theorem jw3{p q:Prop}(hq:q)(h:p=q:=by
 conv=>lhs;simp (disch:=first|assumption|omega|(simp only[r_z]<;>omega)|decide) only[r_c,Nat.reduceAdd,D.fix,↓reduceIte,Nat.reduceEqDiff]):p:=h.mpr hq
theorem zr6{p q:Prop}(hq:q)(h:p=q:=by
 conv=>lhs;simp -dsimp -implicitDefEqProofs (disch:=first|assumption|omega|(simp only[r_z]<;>omega)|decide) only[r_r,↓reduceIte,Nat.reduceEqDiff,Nat.reduceAdd,D.fix,Int.reduceToNat,Nat.reduceMul,Nat.reduceBNe,Nat.reduceBEq,qae]):p:=h.mpr hq
theorem ygd{p:Prop}(h:p:=by
 simp (disch:=first|assumption|omega|(simp only[r_z]<;>omega)|decide) only[r_c,Nat.reduceAdd,D.fix,↓reduceIte,Nat.reduceEqDiff]):p:=h
theorem jf9{m:List Nat}{τ τ':Fr}{H H':zad}(h2:H=H')(h:zgk τ τ':=by
 repeat (first|exact zaq _|refine zak ?_ (by first|rfl|(simp[r_f];done)|simp[r_f, *]))):Rt m τ H τ' H':=Rt.end h h2
theorem jga{p:Prop}(h:p:=by
 first|rfl|(simp only[r_g,Nat.reduceAdd,↓reduceIte,Nat.reduceEqDiff];first|done|rfl)):p:=h
theorem yge{m k:Nat}{l:List Gate}(h:zoc m l)(hk:k<l.length):GateOk (m+k) (nth l k):=h k hk
theorem zls{p q:Prop}(hq:q)(h:p=q:=by
 conv=>lhs;simp -dsimp -implicitDefEqProofs (disch:=first|assumption|omega|(simp only[r_z,zac,zab]<;>omega)|decide) only[r_r,↓reduceIte,Nat.reduceEqDiff,Nat.reduceAdd,D.fix,Int.reduceToNat,Nat.reduceMul,Nat.reduceBNe,Nat.reduceBEq,zdj,zdu,zbf,zbj,zcp,za3,qae]):p:=h.mpr hq
theorem zph{p q r:Prop}(e:r)(hq:q)(h:r→p=q:=by
 intro hY
 conv=>lhs;simp -dsimp -implicitDefEqProofs (disch:=first|assumption|omega|(simp only[r_z,zac,zab]<;>omega)|decide) only[r_r,↓reduceIte,Nat.reduceEqDiff,Nat.reduceAdd,D.fix,Int.reduceToNat,Nat.reduceMul,Nat.reduceBNe,Nat.reduceBEq,zdj,zdu,zbf,zbj,zcp,za3,qae,hY]):p:=(h e).mpr hq
theorem jep{p q:Prop}(hq:q)(h:p=q:=by
 conv=>lhs;simp -dsimp -implicitDefEqProofs (disch:=first|assumption|omega|(simp only[r_z,zac,zab]<;>omega)|decide) only[r_r,↓reduceIte,Nat.reduceEqDiff,Nat.reduceAdd,D.fix,Int.reduceToNat,Nat.reduceMul,Nat.reduceBNe,Nat.reduceBEq,zdj,zdu,zbf,zbj,zcp,za3]):p:=h.mpr hq
theorem jgb(k:List Nat){m:List Nat}{τ τ1:Fr}{H H1:zad}(h:Rt m (fun t=>gcV k (τ t)) (gcH k H) τ1 H1)(a:∀i∈m,k[i]? =some i:=by decide)(b:k.Nodup:=by decide)(c:∀i∈k,i<H.length:=by
 simp[fzH,gcH]):Rt m τ H τ1 H1:=Rt.trans (Rt.gc a b c) h
theorem zz6{m:List Nat}{τ τ':Fr}{H H':zad}(h2:H=H')(h:zgk τ τ':=by
 repeat (first|exact zaq _|refine zak ?_ (by first|rfl|(simp[r_f,zac,zab];done)|simp[r_f,zac,zab, *]))):Rt m τ H τ' H':=Rt.end h h2
theorem jtj{p q:Prop}(hq:q)(h:p=q:=by
 conv=>lhs;simp -dsimp -implicitDefEqProofs (disch:=first|assumption|omega|(simp only[r_z,zac,zab]<;>omega)|decide) only[r_r,↓reduceIte,Nat.reduceEqDiff,Nat.reduceAdd,D.fix,Int.reduceToNat,Nat.reduceMul,Nat.reduceBNe,Nat.reduceBEq,zdj,zdu,zbf,zbj,zcp,za3,zb2,zb9,qae]):p:=h.mpr hq
theorem jw4{p q:Prop}(hq:q)(h:p=q:=by
 conv=>lhs;simp -dsimp -implicitDefEqProofs (disch:=first|assumption|omega|(simp only[r_z,zac,zab]<;>omega)|decide) only[r_r,↓reduceIte,Nat.reduceEqDiff,Nat.reduceAdd,D.fix,Int.reduceToNat,Nat.reduceMul,Nat.reduceBNe,Nat.reduceBEq,zdj,zdu,zbf,zbj,zcp,za3,zfp,zhl,qae]):p:=h.mpr hq
theorem zz7{p:Prop}(h:p:=by
 first|rfl|(simp only[r_g,Nat.reduceAdd,↓reduceIte,Nat.reduceEqDiff,zdj,zdu,zbf,zbj,zcp,za3];first|done|rfl)):p:=h
theorem ykd{p:Prop}(h:p:=by
 simp (disch:=first|assumption|omega|(simp only[r_z,zac,zab]<;>omega)|decide) only[r_c,Nat.reduceAdd,D.fix,↓reduceIte,Nat.reduceEqDiff,zdj,zdu,zbf,zbj,zcp,za3]):p:=h
theorem jw5{o:Int}(h1:1≤o)(h2:o≤7):za2 prog 70 [iD o] (.d (iD (arN o:Nat))):=by
 refine zax (fn:=f70) (by kernel_rfl) func70 rfl (qaf rfl) fun c hc hp=>?_
 refine za0 (τ':=frL [(0,.d (iD o))]) (by repeat (first|exact zaq _|refine zak ?_ (by first|rfl|(simp[r_f];done)|simp[r_f, *]))) ?_
 refine szq (znp ·) ?_
 refine zaa fun K2 hK2=>?_
 refine szq (znp ·) ?_
 refine zag ?_
 refine szq (zr6 ·) ?_
 refine zan rfl (fun ht=>?_) (fun ht=>?_)
 ·have e:o=1:=by simpa using ht
  refine szq (znp ·) ?_
  refine zaj ?_
  show closeA _ _=_
  refine jw3 ?_
  subst e;rfl
 ·have n1:o≠1:=by simpa using ht
  refine zaa fun K6 hK6=>?_
  have hJ6:∀τ' H',(∃τ1 H1,∃(b:Bool),(b=true↔o≤4)∧H1=[]∧τ1=frL [(3,.d (iD o)),(6,.d (oD b))]∧Rt [] τ' H' τ1 H1)→K6 τ' H':=by
   rintro τ' H' ⟨_,_,b,hb,rfl,rfl,hrt⟩
   refine hK6 _ _ (zav hp hrt ?_)
   clear hrt
   refine zan rfl (fun ht=>?_) (fun ht=>?_)
   ·have e4:o≤4:=hb.1 ht
    refine szq (znp ·) ?_
    refine zaj ?_
    show closeA _ _=_
    refine jw3 ?_
    simp[arN,e4,n1]
   ·have e4:¬o≤4:=fun e=>by rw[hb.2 e]at ht;cases ht
    refine zaa fun K8 hK8=>?_
    have hJ8:∀τ' H',(∃τ1 H1,∃(b:Bool),(b=true)∧H1=[]∧τ1=frL [(3,.d (iD o)),(10,.d (oD b))]∧Rt [] τ' H' τ1 H1)→K8 τ' H':=by
     rintro τ' H' ⟨_,_,b,hb6,rfl,rfl,hrt⟩
     refine hK8 _ _ (zav hp hrt ?_)
     clear hrt
     refine zan rfl (fun ht=>?_) (fun ht=>?_)
     ·refine szq (znp ·) ?_
      refine zaj ?_
      show closeA _ _=_
      refine jw3 ?_
      simp[arN,e4,n1]
     ·rw[hb6]at ht;cases ht
    refine szq (zr6 ·) ?_
    refine zan rfl (fun ht=>?_) (fun ht=>?_)
    ·refine zai (hJ8 _ _ ⟨_,_,true,rfl,rfl,rfl,?_⟩)
     refine jf9 ?_
     exact jga
    ·have n5:o≠5:=by simpa using ht
     refine szq (zr6 ·) ?_
     refine zan rfl (fun ht=>?_) (fun ht=>?_)
     ·refine zai (hJ8 _ _ ⟨_,_,true,rfl,rfl,rfl,?_⟩)
      refine jf9 ?_
      exact jga
     ·have n6:o≠6:=by simpa using ht
      refine za1 hp zah hc rfl fun K12 hK12=>?_
      refine zr6 ?_
      refine hK12 _ _ (hJ8 _ _ ⟨_,_,(o==7),by(have n5:o≠5:=(by assumption));(have n6:o≠6:=(by assumption));simp;omega,rfl,rfl,?_⟩)
      refine jf9 ?_
      exact jga
  refine szq (zr6 ·) ?_
  refine zan rfl (fun ht=>?_) (fun ht=>?_)
  ·refine zai (hJ6 _ _ ⟨_,_,true,by(have e:o=2:=(by simpa using ht));simp[e],rfl,rfl,?_⟩)
   refine jf9 ?_
   exact jga
  ·have n2:o≠2:=by simpa using ht
   refine szq (zr6 ·) ?_
   refine zan rfl (fun ht=>?_) (fun ht=>?_)
   ·refine zai (hJ6 _ _ ⟨_,_,true,by(have e:o=3:=(by simpa using ht));simp[e],rfl,rfl,?_⟩)
    refine jf9 ?_
    exact jga
   ·have n3:o≠3:=by simpa using ht
    refine za1 hp zah hc rfl fun K15 hK15=>?_
    refine zr6 ?_
    refine hK15 _ _ (hJ6 _ _ ⟨_,_,(o==4),by(have n2:o≠2:=(by assumption));(have n3:o≠3:=(by assumption));simp;omega,rfl,rfl,?_⟩)
    refine jf9 ?_
    exact jga
theorem zr7(n m:Int)(h0:0≤n)(h1:n<m):za2 prog 71 [oD true,iD n,iD m] (.d (oD true)):=by
 have q0:decide (0≤n)=true:=decide_eq_true h0
 have q1:decide (n<m)=true:=decide_eq_true h1
 refine zax (fn:=f71) (by kernel_rfl) func71 rfl (qaf rfl) fun c hc hp=>?_
 refine za0 (τ':=frL [(0,.d (oD true)),(1,.d (iD n)),(2,.d (iD m))]) (by repeat (first|exact zaq _|refine zak ?_ (by first|rfl|(simp[r_f];done)|simp[r_f, *]))) ?_
 refine szq (znp ·) ?_
 refine zaa fun K2 hK2=>?_
 refine szq (znp ·) ?_
 refine szt ?_
 refine szq (ygc (sza q0 q1) ·) ?_
 refine zaj ?_
 show closeA _ _=_
 exact ygd
theorem jlu(m:Int):za2 prog 71 [oD false,iD 0,iD m] (.d (oD true)):=by
 refine zax (fn:=f71) (by kernel_rfl) func71 rfl (qaf rfl) fun c hc hp=>?_
 refine za0 (τ':=frL [(0,.d (oD false)),(1,.d (iD 0)),(2,.d (iD m))]) (by repeat (first|exact zaq _|refine zak ?_ (by first|rfl|(simp[r_f];done)|simp[r_f, *]))) ?_
 refine szq (znp ·) ?_
 refine zaa fun K2 hK2=>?_
 refine szq (znp ·) ?_
 refine szf ?_
 refine zai (hK2 _ _ ?_)
 refine zaf hp zah hc rfl fun K4 hK4=>?_
 simp -dsimp -implicitDefEqProofs (disch:=first|assumption|omega|(simp only[r_z]<;>omega)|decide) only[r_r,↓reduceIte,Nat.reduceEqDiff,Nat.reduceAdd,D.fix,Int.reduceToNat,Nat.reduceMul,Nat.reduceBNe,Nat.reduceBEq,beq_self_eq_true,qae]
 refine hK4 _ _ ?_
 refine zaj ?_
 show closeA _ _=_
 exact ygd
theorem zr8{u:Bool}{n m:Int}(h1:u=true→0≤n∧n<m)(h2:u=false→n=0):za2 prog 71 [oD u,iD n,iD m] (.d (oD true)):=by
 cases u with
 |true=>exact zr7 n m (h1 rfl).1 (h1 rfl).2
 |false=>rw[h2 rfl];exact jlu m
theorem zop{p q r:Prop}(e:r)(hq:q)(h:r→p=q:=by
 intro hY
 conv=>lhs;simp -dsimp -implicitDefEqProofs (disch:=first|assumption|omega|(simp only[r_z,zac,zab]<;>omega)|decide) only[r_r,↓reduceIte,Nat.reduceEqDiff,Nat.reduceAdd,D.fix,Int.reduceToNat,Nat.reduceMul,Nat.reduceBNe,Nat.reduceBEq,zdj,zdu,zbf,zbj,zcp,za3,za4,qae,hY]):p:=(h e).mpr hq
theorem jw6(n:Net)(h:NetV n):za2 prog 15 [zdj n] (.d (oD true)):=by
 have hlen:=h.len
 have hd0:=h.d0
 have hdl:=h.dl
 have q0:decide ((600:Int)<2+n.ins.length+n.gates.length)=false:=decide_eq_false (by omega)
 have q1:((n.out.length:Int) !=n.drive.length)=false:=by simp;omega
 have hno:=jun n (by omega) (by omega)
 refine zax (fn:=f15) (by kernel_rfl) func15 rfl (qaf rfl) fun c hc hp=>?_
 refine za0 (τ':=frL [(0,.d (zdj n))]) (by repeat (first|exact zaq _|refine zak ?_ (by first|rfl|(simp[r_f,zac,zab];done)|simp[r_f,zac,zab, *]))) ?_
 refine szq (zls ·) ?_
 refine zaa fun K2 hK2=>?_
 refine zaf hp zah hc rfl fun K3 hK3=>?_
 refine zph (sza q0 q1) ?_
 refine zbl (hno) rfl ?_
 refine zph (sza q0 q1) ?_
 refine hK3 _ _ ?_
 refine szf ?_
 refine zai (hK2 _ _ ?_)
 refine zaa fun K4 hK4=>?_
 refine szq (jep ·) ?_
 refine zag ?_
 refine zao hp (fun τ' H' mm=>∃(k:Nat),(k≤n.ins.length)∧mm=n.ins.length - k∧H'=[.cells (avs (zdu n))]∧τ'=frL [(1,.op 0 0),(3,.d (iD k))]) (n.ins.length) ?_ ⟨0,qap _,rfl,rfl,rfl⟩ ?_
 ·refine zz6 ?_
  exact zz7
 rintro τ' H' mm ⟨k,hk,rfl,rfl,rfl⟩
 refine zaa fun K6 hK6=>?_
 refine szq (zls ·) ?_
 refine zan rfl (fun ht=>?_) (fun ht=>?_)
 ·have hlt:k<n.ins.length:=by simp at ht;omega
  have hw:=h.wi _ (zcb hlt)
  have q2:decide ((nth n.ins k).kind<1)=false:=decide_eq_false (by have:=hw.k1;omega)
  have q3:decide (4<(nth n.ins k).kind)=false:=decide_eq_false (by have:=hw.k4;omega)
  have q4:decide ((nth n.ins k).i<0)=false:=decide_eq_false (by have:=hw.i0;omega)
  have q5:decide ((nth n.ins k).bit<0)=false:=decide_eq_false (by have:=hw.b0;omega)
  have q6:decide (7<(nth n.ins k).bit)=false:=decide_eq_false (by have:=hw.b7;omega)
  refine zai (hK6 _ _ ?_)
  refine zaa fun K8 hK8=>?_
  refine zag ?_
  refine szq (jtj ·) ?_
  refine szq (zph (sza q2 (sza q3 (sza q4 (sza q5 q6)))) ·) ?_
  refine szf ?_
  refine zai (hK8 _ _ ?_)
  refine za1 hp zah hc rfl fun K11 hK11=>?_
  refine zls ?_
  refine hK11 _ _ ⟨_,_,_,?_,⟨k+1,by omega,rfl,rfl,rfl⟩,?_⟩
  ·first|omega|(simp only[List.length_cons];omega)|(dsimp only;omega)
  ·refine jgb [0] ?_
   refine zz6 ?_
   exact zz7
 ·refine zau (hK4 _ _ ?_)
  refine zaa fun K12 hK12=>?_
  refine szq (jep ·) ?_
  refine zag ?_
  refine zao hp (fun τ' H' mm=>∃(k:Nat),(k≤n.gates.length)∧mm=n.gates.length - k∧H'=[.cells (avs (zdu n))]∧τ'=frL [(1,.op 0 0),(5,.d (iD k))]) (n.gates.length) ?_ ⟨0,qap _,rfl,rfl,rfl⟩ ?_
  ·refine jgb [0] ?_
   refine zz6 ?_
   exact zz7
  rintro τ' H' mm ⟨k,hk,rfl,rfl,rfl⟩
  refine zaa fun K14 hK14=>?_
  refine szq (zls ·) ?_
  refine zan rfl (fun ht=>?_) (fun ht=>?_)
  ·have hlt:k<n.gates.length:=by simp at ht;omega
   have hg:=yge h.g2 hlt
   have hv:=h.gv _ (zcb hlt)
   have a3:=ykc hg.o1 hg.o2
   have a0:=hg.a0;have a1:=hg.a1;have b0:=hg.b0;have b1:=hg.b1;have c0:=hg.c0;have c1:=hg.c1;have n0:=hg.n0
   have v1:=hv.c;have v2:=hv.b;have v3:=hv.n;have v4:=hv.m
   obtain⟨ar,har⟩:∃ar,ar=arN (nth n.gates k).op:=⟨_,rfl⟩
   have hac:=jw5 hg.o1 hg.o2
   rw[←har]at a3 hac
   have k0:decide ((ar:Int)<0)=false:=decide_eq_false (by omega)
   have k1:=zr7 (nth n.gates k).a (2+n.ins.length+k) a0 (by omega)
   have k2:=zr8 (u:=decide ((1:Int)<ar)) (n:=(nth n.gates k).b) (m:=2+n.ins.length+k) (fun _=>⟨b0,by omega⟩) (fun hu=>by simp at hu;rcases a3 with⟨e,_⟩|⟨_,_,e⟩|⟨_,e⟩;exact v2 e;omega;omega)
   have k3:=zr8 (u:=decide ((2:Int)<ar)) (n:=(nth n.gates k).c) (m:=2+n.ins.length+k) (fun _=>⟨c0,by omega⟩) (fun hu=>by simp at hu;rcases a3 with⟨e,_⟩|⟨_,e,_⟩|⟨_,e⟩;exact v1 (by omega);exact v1 e;omega)
   have k4:=zr8 (u:=(nth n.gates k).op==7) (n:=(nth n.gates k).n) (m:=64) (fun _=>⟨n0,by omega⟩) (fun hu=>v3 (by simpa using hu))
   refine zai (hK14 _ _ ?_)
   refine zaa fun K16 hK16=>?_
   refine zag ?_
   refine szq (jw4 ·) ?_
   refine zay zah hc mixed rfl (q:=0) (by kernel_rfl) (by kernel_rfl) fun K18 hK18=>?_
   refine zls ?_
   refine zbl (hac) rfl ?_
   refine zls ?_
   refine hK18 _ _ ?_
   refine zaf hp zah hc rfl fun K19 hK19=>?_
   refine zph k0 ?_
   refine zbl (k1) rfl ?_
   refine zph k0 ?_
   refine zbl (k2) rfl ?_
   refine zph k0 ?_
   refine zbl (k3) rfl ?_
   refine zph k0 ?_
   refine zbl (k4) rfl ?_
   refine zph k0 ?_
   refine hK19 _ _ ?_
   refine szf ?_
   refine zai (hK16 _ _ ?_)
   refine za1 hp zah hc rfl fun K20 hK20=>?_
   refine zls ?_
   refine hK20 _ _ ⟨_,_,_,?_,⟨k+1,by omega,rfl,rfl,rfl⟩,?_⟩
   ·first|omega|(simp only[List.length_cons];omega)|(dsimp only;omega)
   ·refine jgb [0] ?_
    refine zz6 ?_
    exact zz7
  ·refine zau (hK12 _ _ ?_)
   refine zaa fun K21 hK21=>?_
   refine szq (jep ·) ?_
   refine zag ?_
   refine zao hp (fun τ' H' mm=>∃(k:Nat),(k≤n.out.length)∧mm=n.out.length - k∧H'=[.cells (avs (zdu n))]∧τ'=frL [(1,.op 0 0),(9,.d (iD k))]) (n.out.length) ?_ ⟨0,qap _,rfl,rfl,rfl⟩ ?_
   ·refine jgb [0] ?_
    refine zz6 ?_
    exact zz7
   rintro τ' H' mm ⟨k,hk,rfl,rfl,rfl⟩
   refine zaa fun K23 hK23=>?_
   refine szq (zls ·) ?_
   refine zan rfl (fun ht=>?_) (fun ht=>?_)
   ·have hlt:k<n.out.length:=by simp at ht;omega
    have hw:=h.wo _ (zcb hlt)
    have hdk:=h.d2 k (by omega)
    have q4:decide ((nth n.out k).i<0)=false:=decide_eq_false (by have:=hw.i0;omega)
    have q5:decide ((nth n.out k).bit<0)=false:=decide_eq_false (by have:=hw.b0;omega)
    have q6:decide (7<(nth n.out k).bit)=false:=decide_eq_false (by have:=hw.b7;omega)
    have k1:=zr7 (nth n.drive k) (2+n.ins.length+n.gates.length) hdk.1 (by omega)
    refine zai (hK23 _ _ ?_)
    refine zaa fun K25 hK25=>?_
    refine zag ?_
    refine szq (jtj ·) ?_
    refine zay zah hc mixed rfl (q:=0) (by kernel_rfl) (by kernel_rfl) fun K27 hK27=>?_
    rcases hw.k with q|⟨q,q'⟩
    ·have q2:((nth n.out k).kind !=1)=false:=by rw[q];rfl
     have q3:=q2
     have q7:=q2
     refine zop (sza q2 (sza q3 (sza q4 (sza q5 (sza q6 q7))))) ?_
     refine zbl (hno) rfl ?_
     refine zop (sza q2 (sza q3 (sza q4 (sza q5 (sza q6 q7))))) ?_
     refine zbl (k1) rfl ?_
     refine zop (sza q2 (sza q3 (sza q4 (sza q5 (sza q6 q7))))) ?_
     refine hK27 _ _ ?_
     refine szf ?_
     refine zai (hK25 _ _ ?_)
     refine za1 hp zah hc rfl fun K28 hK28=>?_
     refine zls ?_
     refine hK28 _ _ ⟨_,_,_,?_,⟨k+1,by omega,rfl,rfl,rfl⟩,?_⟩
     ·first|omega|(simp only[List.length_cons];omega)|(dsimp only;omega)
     ·refine jgb [0] ?_
      refine zz6 ?_
      exact zz7
    ·have q2:decide ((nth n.out k).kind<5)=false:=decide_eq_false (by omega)
     have q3:decide (10<(nth n.out k).kind)=false:=decide_eq_false (by omega)
     have q7:((nth n.out k).kind !=1)=true:=by simp;omega
     refine zop (sza q2 (sza q3 (sza q4 (sza q5 (sza q6 q7))))) ?_
     refine zbl (hno) rfl ?_
     refine zop (sza q2 (sza q3 (sza q4 (sza q5 (sza q6 q7))))) ?_
     refine zbl (k1) rfl ?_
     refine zop (sza q2 (sza q3 (sza q4 (sza q5 (sza q6 q7))))) ?_
     refine hK27 _ _ ?_
     refine szf ?_
     refine zai (hK25 _ _ ?_)
     refine za1 hp zah hc rfl fun K29 hK29=>?_
     refine zls ?_
     refine hK29 _ _ ⟨_,_,_,?_,⟨k+1,by omega,rfl,rfl,rfl⟩,?_⟩
     ·first|omega|(simp only[List.length_cons];omega)|(dsimp only;omega)
     ·refine jgb [0] ?_
      refine zz6 ?_
      exact zz7
   ·refine zau (hK21 _ _ ?_)
    refine szq (jep ·) ?_
    refine zaj ?_
    show closeA _ _=_
    exact ykd
theorem ygf{p:Pr}(h:Proc p):NetV (zd5 p):=by
 have hw:=jvi h
 have ho:=zgv h.ok _ (qao _)
 have h1:=ho.len;have h2:=h.cost;have h3:=h.ins
 have hc:cMP p p.mems.length=zoe p:=rfl
 have hol:=hw.ol
 refine⟨by show 2+(zh9 p).length+(zd4 p p.mems.length).gs.length≤600;omega,hw.od,hw.wi,hw.wo,hw.g,fun g hg=>?_,hw.d,by rw[←hw.od];exact hol⟩
 obtain⟨k,hk,e⟩:=List.mem_iff_getElem.1 hg
 have hk':k<(zd4 p p.mems.length).gs.length:=hk
 have:=ho.gi.rg k hk'
 rw[show nth (zd4 p p.mems.length).gs k=g by rw[zdt hk'];exact e]at this
 exact⟨this.cz,this.bz,this.nz,by have:=this.n1;omega⟩
section
theorem ygg:za2 prog 29 [] (.d (oD true)):=zch (n:=100) mixed zah (by kernel_rfl)
section
variable {p:Pr} {s:PSt} {heads:List Head} {rooms:List Bool}
theorem ygh(hp:Proc p)(h:StP p s heads rooms):za2 prog 27 [.agg (zar p),.agg (zc5 s),za9 heads,boolsD rooms] (.d (.agg (zgz (zh4 p s heads rooms)))):=by
 have:=yev p hp.ok s heads rooms h
 rwa[yeq h]at this
theorem jpb{p:Pr}(hp:Proc p):¬600<2+(zh9 p).length+(zd5 p).gates.length:=by have:=(ygf hp).len;show ¬600<2+(zd5 p).ins.length+(zd5 p).gates.length;omega
theorem jw7(hp:Proc p):za2 prog 30 [zc4 p] (.tup [.d (zdj (zd5 p)),.d (iD 0)]):=by
 have:=jw2 p hp.ok (by have:=hp.ins;omega) (by have:=hp.cost;omega) (by have:=hp.m1;omega)
 unfold jeo at this
 rwa[if_neg (jpb hp)]at this
theorem jlv{f:Fir}:(unf f).st=f.st:=rfl
theorem jpc(hp:Proc p)(h:StP p s heads rooms):za2 prog 28 [.agg (zgz (unf (zh4 p s heads rooms))),.agg (zgz (unf (zh4 p s heads rooms)))] (.d (oD true)):=by
 have hs:=jkq hp h
 have h1:=hs.rl;have h2:=hs.ml
 have:=hp.r3;have:=hp.m1
 refine jv2 _ (by rw[jlv];omega) (by rw[jlv];omega) (fun l hl=>?_) ?_ ?_
 ·rw[jlv]at hl
  obtain⟨i,hi,rfl⟩:=List.getElem_of_mem hl
  rw[←zdt hi,hs.mw i (by omega)]
  have:=(hp.mw i (by omega)).2.2
  omega
 ·show(zh4 p s heads rooms).pops.length≤_
  rw[step_pl.1];have:=hp.t2;omega
 ·show(zh4 p s heads rooms).puts.length≤_
  rw[step_pl.2];have:=hp.q2;omega
end
theorem jw8{p q:Prop}(hq:q)(h:p=q:=by
 conv=>lhs;simp -dsimp -implicitDefEqProofs (disch:=first|assumption|omega|(simp only[r_z]<;>omega)|decide) only[r_r,↓reduceIte,Nat.reduceEqDiff,Nat.reduceAdd,D.fix,Int.reduceToNat,Nat.reduceMul,Nat.reduceBNe,Nat.reduceBEq,zgz,za9,qae]):p:=h.mpr hq
theorem yke(f:Fir):za2 prog 32 [.agg (zgz f)] (.d (.agg (zgz (unf f)))):=by
 refine zax (fn:=f32) (by kernel_rfl) func32 rfl (qaf rfl) fun c hc hp=>?_
 refine za0 (τ':=frL [(0,.d (.agg (zgz f)))]) (by repeat (first|exact zaq _|refine zak ?_ (by first|rfl|(simp[r_f];done)|simp[r_f, *]))) ?_
 refine szq (jw8 ·) ?_
 refine szq (jw8 ·) ?_
 refine szq (jw8 ·) ?_
 refine zaj ?_
 try dsimp only[zcg,za5]
 refine za6 rfl ?_
 simp -dsimp -implicitDefEqProofs (disch:=first|assumption|omega|(simp only[r_z]<;>omega)|decide) only[r_r,↓reduceIte,Nat.reduceEqDiff,Nat.reduceAdd,D.fix,Int.reduceToNat,Nat.reduceMul,Nat.reduceBNe,Nat.reduceBEq,zgz,za9,zn8,zrq]
 show closeA _ _=_
 simp (disch:=first|assumption|omega|(simp only[r_z]<;>omega)|decide) only[r_c,Nat.reduceAdd,D.fix,↓reduceIte,Nat.reduceEqDiff,zgz,za9]
 simp[unf,zgz,za9,boolsD,intsD,intssD,oD,D.fix]
theorem zgp{p q:Prop}(hq:q)(h:p=q:=by
 conv=>lhs;simp -dsimp -implicitDefEqProofs (disch:=first|assumption|omega|(simp only[r_z,zac,zab,zat]<;>omega)|decide) only[r_r,↓reduceIte,Nat.reduceEqDiff,Nat.reduceAdd,D.fix,Int.reduceToNat,Nat.reduceMul,Nat.reduceBNe,Nat.reduceBEq,zc4,zar,zdj,zdu,zbf,zbj,zc5,zgz,za9,zzp,bne_self_eq_false,sD,nS,qae]):p:=h.mpr hq
theorem jlw{p q:Prop}(hq:q)(h:p=q:=by
 conv=>lhs;simp -dsimp -implicitDefEqProofs (disch:=first|assumption|omega|(simp only[r_z,zac,zab,zat]<;>omega)|decide) only[r_r,↓reduceIte,Nat.reduceEqDiff,Nat.reduceAdd,D.fix,Int.reduceToNat,Nat.reduceMul,Nat.reduceBNe,Nat.reduceBEq,zc4,zar,zdj,zdu,zbf,zbj,zc5,zgz,za9,zzp,bne_self_eq_false,sD,nS]):p:=h.mpr hq
theorem yhj{m:List Nat}{τ τ':Fr}{H H':zad}(h2:H=H')(h:zgk τ τ':=by
 repeat (first|exact zaq _|refine zak ?_ (by first|rfl|(simp[r_f,zac,zab,zat,zzp];done)|simp[r_f,zac,zab,zat,zzp, *]))):Rt m τ H τ' H':=Rt.end h h2
theorem ygi{p q r:Prop}(e:r)(hq:q)(h:r→p=q:=by
 intro hY
 conv=>lhs;simp -dsimp -implicitDefEqProofs (disch:=first|assumption|omega|(simp only[r_z,zac,zab,zat]<;>omega)|decide) only[r_r,↓reduceIte,Nat.reduceEqDiff,Nat.reduceAdd,D.fix,Int.reduceToNat,Nat.reduceMul,Nat.reduceBNe,Nat.reduceBEq,zc4,zar,zdj,zdu,zbf,zbj,zc5,zgz,za9,zzp,bne_self_eq_false,sD,nS,qae,hY]):p:=(h e).mpr hq
theorem ygj{p q r:Prop}(e:r)(hq:q)(h:r→p=q:=by
 intro hY
 conv=>lhs;simp -dsimp -implicitDefEqProofs (disch:=first|assumption|omega|(simp only[r_z,zac,zab,zat]<;>omega)|decide) only[r_r,↓reduceIte,Nat.reduceEqDiff,Nat.reduceAdd,D.fix,Int.reduceToNat,Nat.reduceMul,Nat.reduceBNe,Nat.reduceBEq,r_w,zc4,zar,zdj,zdu,zbf,zbj,zc5,zgz,za9,zzp,bne_self_eq_false,sD,nS,qae,hY]):p:=(h e).mpr hq
theorem yhk{p:Prop}(h:p:=by
 first|rfl|(simp only[r_g,Nat.reduceAdd,↓reduceIte,Nat.reduceEqDiff,zc4,zar,zdj,zdu,zbf,zbj,zc5,zgz,za9,zzp,bne_self_eq_false,sD,nS];first|done|rfl)):p:=h
theorem ymn{p:Prop}(h:p:=by
 simp (disch:=first|assumption|omega|(simp only[r_z,zac,zab,zat]<;>omega)|decide) only[r_c,Nat.reduceAdd,D.fix,↓reduceIte,Nat.reduceEqDiff,zc4,zar,zdj,zdu,zbf,zbj,zc5,zgz,za9,zzp,bne_self_eq_false,sD,nS]):p:=h
theorem jlx(x:List Int)(hx:zg1 x)(hxl:x.length≤maxLen)(b:List Int)(hb:zg1 b)(hbl:b.length≤maxLen)(ticks:List (List Int))(htl:ticks.length≤maxLen)(htk:∀l∈ticks,l.length≤maxLen∧zg1 l):za2 prog 5 [.agg [bytesD x],bytesD b,zzp ticks] (.d (oD true)):=by
 refine zax (fn:=f5) (by kernel_rfl) func5 rfl (qaf rfl) fun c hc hp=>?_
 refine za0 (τ':=frL [(0,.d (.agg [bytesD x])),(1,.d (bytesD b)),(2,.d (zzp ticks))]) (by repeat (first|exact zaq _|refine zak ?_ (by first|rfl|(simp[r_f,zac,zab,zat,zzp];done)|simp[r_f,zac,zab,zat,zzp, *]))) ?_
 refine szq (zgp ·) ?_
 refine zaf hp zah hc rfl fun K2 hK2=>?_
 refine jlw ?_
 refine zbl (ygg) rfl ?_
 refine jlw ?_
 refine hK2 _ _ ?_
 refine zaa fun K3 hK3=>?_
 refine szq (zgp ·) ?_
 refine szf ?_
 refine zai (hK3 _ _ ?_)
 refine zaf hp zah hc rfl fun K5 hK5=>?_
 refine zgp ?_
 refine jif (jva x hx hxl) rfl fun r hr=>?_
 obtain⟨p,hP,rfl⟩:=hr
 refine zgp ?_
 refine hK5 _ _ ?_
 refine zaf hp zah hc rfl fun K6 hK6=>?_
 refine zgp ?_
 refine zbl (jw7 hP) rfl ?_
 refine zgp ?_
 refine hK6 _ _ ?_
 refine zaa fun K7 hK7=>?_
 refine zaf hp zah hc rfl fun K8 hK8=>?_
 refine zgp ?_
 refine zbl (jw6 _ (ygf hP)) rfl ?_
 refine zgp ?_
 refine hK8 _ _ ?_
 refine szf ?_
 refine zai (hK7 _ _ ?_)
 refine zaf hp zah hc rfl fun K9 hK9=>?_
 refine zgp ?_
 refine jif (jvr p hP b hb hbl) rfl fun r hr=>?_
 obtain⟨s,hs,rfl⟩:=hr
 refine zgp ?_
 refine hK9 _ _ ?_
 refine szq (zgp ·) ?_
 refine zaa fun K11 hK11=>?_
 refine szq (jlw ·) ?_
 refine zag ?_
 refine zao hp (fun τ' H' mm=>∃(i:Nat) (s:PSt),(i≤8∧StS p s)∧mm=8 - i∧H'=[.cells (avs (zar p)),.cells (avs (zdu (zd5 p))),.cells (avs (zc5 s)),.cells (avs (zc5 s))]∧τ'=frL [(1,.d (bytesD b)),(2,.d (zzp ticks)),(7,.d (oD true)),(8,.op 0 0),(9,.op 1 0),(11,.op 2 0),(12,.op 3 0),(13,.d (iD i))]) (8) ?_ ⟨0,s,⟨qap _,hs⟩,rfl,rfl,rfl⟩ ?_
 ·refine Rt.trans (Rt.gc (keep:=[1,2,3,4]) (by decide) (by decide) (by simp[fzH,gcH])) ?_
  refine yhj ?_
  exact yhk
 rintro τ' H' mm ⟨i,s,⟨hi,hs⟩,rfl,rfl,rfl⟩
 refine zaa fun K13 hK13=>?_
 refine zaf hp zah hc rfl fun K14 hK14=>?_
 by_cases q:i≤ticks.length
 ·have q1:decide ((i:Int)≤ticks.length)=true:=decide_eq_true (by omega)
  refine ygi q1 ?_
  refine hK14 _ _ ?_
  refine zan rfl (fun ht=>?_) (fun ht=>?_)
  ·have hi8:i<8:=by simp at ht;omega
   refine zai (hK13 _ _ ?_)
   refine zaa fun K15 hK15=>?_
   refine zag ?_
   refine zaf hp zah hc rfl fun K16 hK16=>?_
   refine zgp ?_
   refine jif (yee p hP b hb hbl) rfl fun r hr=>?_
   obtain⟨heads,rooms,hin,rfl⟩:=hr
   refine zgp ?_
   refine hK16 _ _ ?_
   refine zaa fun K17 hK17=>?_
   have hJ17:∀τ' H',(∃τ1 H1,∃(heads:List Head) (rooms:List Bool),(InS p heads rooms)∧H1=[.cells (avs (zar p)),.cells (avs (zdu (zd5 p))),.cells (avs (zc5 s)),.cells (avs (zc5 s)),.cells [.d (za9 heads),.d (boolsD rooms)]]∧τ1=frL [(1,.d (bytesD b)),(2,.d (zzp ticks)),(7,.d (oD true)),(8,.op 0 0),(9,.op 1 0),(11,.op 2 0),(12,.op 3 0),(13,.d (iD i)),(14,.op 4 0)]∧Rt [] τ' H' τ1 H1)→K17 τ' H':=by
    rintro τ' H' ⟨_,_,heads,rooms,hin,rfl,rfl,hrt⟩
    refine hK17 _ _ (zav hp hrt ?_)
    clear hrt
    have hst:=yi2 hs hin
    have hstep:=ygh hP hst
    have hnet:=jvh (zd5 p) s heads rooms (jvi hP) (yi3 hP hst)
    rw[jn4 hP hst]at hnet
    have hsame:=jpc hP hst
    have hnew:=jkq hP hst
    generalize zh4 p s heads rooms=f at *
    have hval:=yjc p hP f.st hnew
    refine zay zah hc mixed rfl (q:=2) (by kernel_rfl) (by kernel_rfl) fun K18 hK18=>?_
    refine zgp ?_
    refine zbl (hstep) rfl ?_
    refine zgp ?_
    refine zbl (hnet) rfl ?_
    refine zgp ?_
    refine hK18 _ _ ?_
    refine zaa fun K19 hK19=>?_
    refine zay zah hc mixed rfl (q:=0) (by kernel_rfl) (by kernel_rfl) fun K20 hK20=>?_
    refine zgp ?_
    refine zbl (yke f) rfl ?_
    refine zgp ?_
    refine zbl (hsame) rfl ?_
    refine zgp ?_
    refine zbl (hval) rfl ?_
    refine zgp ?_
    refine hK20 _ _ ?_
    refine szf ?_
    refine zai (hK19 _ _ ?_)
    refine szq (zgp ·) ?_
    refine szs (zgp ·) (hK15 _ _ ?_)
    refine za1 hp zah hc rfl fun K23 hK23=>?_
    refine zgp ?_
    refine hK23 _ _ ⟨_,_,_,?_,⟨i+1,f.st,⟨by omega,hnew⟩,rfl,rfl,rfl⟩,?_⟩
    ·first|omega|(simp only[List.length_cons];omega)|(dsimp only;omega)
    ·refine Rt.trans (Rt.gc (keep:=[0,1,2,3]) (by decide) (by decide) (by simp[fzH,gcH])) ?_
     refine yhj ?_
     exact yhk
   refine szq (zgp ·) ?_
   refine zan rfl (fun ht=>?_) (fun ht=>?_)
   ·have hi0:0<i:=by simp at ht;omega
    have hlt:i - 1<ticks.length:=by omega
    have hix:(i:Int) - 1=((i - 1:Nat):Int):=by omega
    have gT:(ticks.map bytesD)[i - 1]? =some (bytesD (nth ticks (i - 1))):=za4 hlt
    obtain⟨hlT,hbT⟩:=htk _ (zcb hlt)
    refine zmu zah hp hc mixed rfl [(0,[]),(1,[]),(2,[]),(3,[]),(4,[]),(5,[]),(6,[]),(7,[])] [[],[],[],[2],[1,2,3],[1,2,3,4],[0,1,2,3,4,5],[0,1,2,3,4,5,6]] 0 (by kernel_rfl) fun K25 hK25=>?_
    refine ygj (sza hix gT) ?_
    refine ji6 (yee p hP (nth ticks (i - 1)) hbT hlT) rfl fun r hr=>?_
    obtain⟨heads2,rooms2,hin2,rfl⟩:=hr
    refine ygj (sza hix gT) ?_
    refine hK25 _ _ (hJ17 _ _ ⟨_,_,heads2,rooms2,hin2,rfl,rfl,?_⟩)
    refine Rt.trans (Rt.gc (keep:=[0,1,2,3,4]) (by decide) (by decide) (by simp[fzH,gcH])) ?_
    refine yhj ?_
    exact yhk
   ·refine zai (hJ17 _ _ ⟨_,_,heads,rooms,hin,rfl,rfl,?_⟩)
    refine yhj ?_
    exact yhk
  ·refine zau (hK11 _ _ ?_)
   refine szq (jlw ·) ?_
   refine zaj ?_
   show closeA _ _=_
   exact ymn
 ·have q1:decide ((i:Int)≤ticks.length)=false:=decide_eq_false (by omega)
  refine ygi q1 ?_
  refine hK14 _ _ ?_
  refine szf ?_
  refine zau (hK11 _ _ ?_)
  refine szq (jlw ·) ?_
  refine zaj ?_
  show closeA _ _=_
  exact ymn
end
end Go.Proofs.YtapjobndmmkanaaGreat
