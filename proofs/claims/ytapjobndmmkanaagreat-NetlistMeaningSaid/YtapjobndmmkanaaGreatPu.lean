/- Valid nets are found valid; wires compared. -/
import Derived.Test.YtapjobndmmkanaaGreatQr
import Derived.Test.YtapjobndmmkanaaGreatVd
import Derived.Test.YtapjobndmmkanaaGreatOe
import Derived.Test.YtapjobndmmkanaaGreatPm
import Derived.Test.YtapjobndmmkanaaGreatPn
import Derived.Test.YtapjobndmmkanaaGreatPl
import Derived.Test.YtapjobndmmkanaaGreatYb
import Derived.Test.YtapjobndmmkanaaGreatYs
set_option linter.unusedVariables false
set_option linter.unusedSimpArgs false
set_option maxRecDepth 100000
set_option maxHeartbeats 4000000
namespace Go.Proofs.YtapjobndmmkanaaGreat
open Go.Proofs.Tryz
open Go Go.RowKit
structure IV (n:Net):Prop where
 len:2+n.ins.length+n.aO.length≤600
 d0:n.out.length=n.cG.length
 wi:∀w∈n.ins,nh w
 wo:∀w∈n.out,jJ w
 g2:FL (2+n.ins.length) n.aO
 gv:∀g∈n.aO,I1 g
 d2:Mu (2+n.ins.length+n.aO.length) n.cG
 dl:n.cG.length≤1000
def Fg(o:Int):Nat:=if o=1 then 1 else if o≤4 then 2 else 3
theorem op7{o:Int}(h1:1≤o)(h2:o≤7):o=1∨o=2∨o=3∨o=4∨o=5∨o=6∨o=7:=by omega
theorem ymb{o:Int}(h1:1≤o)(h2:o≤7):(o=1∧Fg o=1)∨(2≤o∧o≤4∧Fg o=2)∨(5≤o∧Fg o=3):=by
 unfold Fg
 split
 ·exact .inl ⟨by omega,rfl⟩
 ·split
  ·exact .inr (.inl ⟨by omega,by omega,rfl⟩)
  ·exact .inr (.inr ⟨by omega,rfl⟩)
theorem LD{p q:Prop}(hq:q)(h:p=q:=by
 conv=>lhs;simp -dsimp -implicitDefEqProofs (disch:=first|assumption|omega|(simp only[aK]<;>omega)|decide) only[aP,↓reduceIte,Nat.reduceEqDiff,Nat.reduceAdd,D.fix,Int.reduceToNat,Nat.reduceMul,Nat.reduceBNe,Nat.reduceBEq]):p:=h.mpr hq
theorem yg9{p q r:Prop}(e:r)(hq:q)(h:r→p=q:=by
 intro hY
 conv=>lhs;simp -dsimp -implicitDefEqProofs (disch:=first|assumption|omega|(simp only[aK]<;>omega)|decide) only[aP,↓reduceIte,Nat.reduceEqDiff,Nat.reduceAdd,D.fix,Int.reduceToNat,Nat.reduceMul,Nat.reduceBNe,Nat.reduceBEq,bw,hY]):p:=(h e).mpr hq
theorem XP{p:Prop}(h:p:=by
 simp (disch:=first|assumption|omega|(simp only[aK]<;>omega)|decide) only[gF,Nat.reduceAdd,D.fix,↓reduceIte,Nat.reduceEqDiff]):p:=h
theorem yhb{m k:Nat}{l:List Gate}(h:FL m l)(hk:k<l.length):yf (m+k) (nth l k):=h k hk
theorem yl{p q:Prop}(hq:q)(h:p=q:=by
 conv=>lhs;simp -dsimp -implicitDefEqProofs (disch:=first|assumption|omega|(simp only[aK,aT,bx]<;>omega)|decide) only[aP,↓reduceIte,Nat.reduceEqDiff,Nat.reduceAdd,D.fix,Int.reduceToNat,Nat.reduceMul,Nat.reduceBNe,Nat.reduceBEq,eF,eZ,cH,jf,cn,bE,bw]):p:=h.mpr hq
theorem Ar{p q r:Prop}(e:r)(hq:q)(h:r→p=q:=by
 intro hY
 conv=>lhs;simp -dsimp -implicitDefEqProofs (disch:=first|assumption|omega|(simp only[aK,aT,bx]<;>omega)|decide) only[aP,↓reduceIte,Nat.reduceEqDiff,Nat.reduceAdd,D.fix,Int.reduceToNat,Nat.reduceMul,Nat.reduceBNe,Nat.reduceBEq,eF,eZ,cH,jf,cn,bE,bw,hY]):p:=(h e).mpr hq
theorem LC{p q:Prop}(hq:q)(h:p=q:=by
 conv=>lhs;simp -dsimp -implicitDefEqProofs (disch:=first|assumption|omega|(simp only[aK,aT,bx]<;>omega)|decide) only[aP,↓reduceIte,Nat.reduceEqDiff,Nat.reduceAdd,D.fix,Int.reduceToNat,Nat.reduceMul,Nat.reduceBNe,Nat.reduceBEq,eF,eZ,cH,jf,cn,bE]):p:=h.mpr hq
theorem EO(k:List Nat){m:List Nat}{τ τ1:Fr}{H H1:ak}(h:Rt m (fun t=>c7 k (τ t)) (dg k H) τ1 H1)(a:∀i∈m,k[i]? =some i:=by decide)(b:k.Nodup:=by decide)(c:∀i∈k,i<H.length:=by
 simp[eS,dg]):Rt m τ H τ1 H1:=Rt.trans (Rt.gc a b c) h
theorem CH{m:List Nat}{τ τ':Fr}{H H':ak}(h2:H=H')(h:fm τ τ':=by
 repeat (first|exact bT _|refine bM ?_ (by first|rfl|(simp[aR,aT,bx];done)|simp[aR,aT,bx, *]))):Rt m τ H τ' H':=Rt.end h h2
theorem jui{p q:Prop}(hq:q)(h:p=q:=by
 conv=>lhs;simp -dsimp -implicitDefEqProofs (disch:=first|assumption|omega|(simp only[aK,aT,bx]<;>omega)|decide) only[aP,↓reduceIte,Nat.reduceEqDiff,Nat.reduceAdd,D.fix,Int.reduceToNat,Nat.reduceMul,Nat.reduceBNe,Nat.reduceBEq,eF,eZ,cH,jf,cn,bE,AF,qK,bw]):p:=h.mpr hq
theorem yhc{p q:Prop}(hq:q)(h:p=q:=by
 conv=>lhs;simp -dsimp -implicitDefEqProofs (disch:=first|assumption|omega|(simp only[aK,aT,bx]<;>omega)|decide) only[aP,↓reduceIte,Nat.reduceEqDiff,Nat.reduceAdd,D.fix,Int.reduceToNat,Nat.reduceMul,Nat.reduceBNe,Nat.reduceBEq,eF,eZ,cH,jf,cn,bE,AG,vR,bw]):p:=h.mpr hq
theorem CG{p:Prop}(h:p:=by
 first|rfl|(simp only[cD,Nat.reduceAdd,↓reduceIte,Nat.reduceEqDiff,eF,eZ,cH,jf,cn,bE];first|done|rfl)):p:=h
theorem ymc{p:Prop}(h:p:=by
 simp (disch:=first|assumption|omega|(simp only[aK,aT,bx]<;>omega)|decide) only[gF,Nat.reduceAdd,D.fix,↓reduceIte,Nat.reduceEqDiff,eF,eZ,cH,jf,cn,bE]):p:=h
theorem jx8{o:Int}(h1:1≤o)(h2:o≤7):cC prog 70 [iD o] (.d (iD (Fg o:Nat))):=by
 rcases op7 h1 h2 with h|h|h|h|h|h|h<;>(subst h;exact ub (n:=80) mixed ax (by kernel_rfl))
theorem M1(n m:Int)(h0:0≤n)(h1:n<m):cC prog 71 [oD true,iD n,iD m] (.d (oD true)):=by
 have q0:decide (0≤n)=true:=decide_eq_true h0
 have q1:decide (n<m)=true:=decide_eq_true h1
 refine ez (fn:=f71) (by kernel_rfl) func71 rfl (bN rfl) fun c hc hp=>?_
 refine dG (τ':=aG [(0,.d (oD true)),(1,.d (iD n)),(2,.d (iD m))]) (by repeat (first|exact bT _|refine bM ?_ (by first|rfl|(simp[aR];done)|simp[aR, *]))) ?_
 refine aj (LD ·) ?_
 refine aH fun K2 bG=>?_
 refine aj (LD ·) ?_
 refine jW ?_
 refine aj (yg9 (aL q0 q1) ·) ?_
 refine bh ?_
 show aC _ _=_
 exact XP
theorem jm4(m:Int):cC prog 71 [oD false,iD 0,iD m] (.d (oD true)):=by
 refine ez (fn:=f71) (by kernel_rfl) func71 rfl (bN rfl) fun c hc hp=>?_
 refine dG (τ':=aG [(0,.d (oD false)),(1,.d (iD 0)),(2,.d (iD m))]) (by repeat (first|exact bT _|refine bM ?_ (by first|rfl|(simp[aR];done)|simp[aR, *]))) ?_
 refine aj (LD ·) ?_
 refine aH fun K2 bG=>?_
 refine aj (LD ·) ?_
 refine eC ?_
 refine bB (bG _ _ ?_)
 refine bC hp ax hc rfl fun K4 dD=>?_
 simp -dsimp -implicitDefEqProofs (disch:=first|assumption|omega|(simp only[aK]<;>omega)|decide) only[aP,↓reduceIte,Nat.reduceEqDiff,Nat.reduceAdd,D.fix,Int.reduceToNat,Nat.reduceMul,Nat.reduceBNe,Nat.reduceBEq,beq_self_eq_true,bw]
 refine dD _ _ ?_
 refine bh ?_
 show aC _ _=_
 exact XP
theorem M0{u:Bool}{n m:Int}(h1:u=true→0≤n∧n<m)(h2:u=false→n=0):cC prog 71 [oD u,iD n,iD m] (.d (oD true)):=by
 cases u with
 |true=>exact M1 n m (h1 rfl).1 (h1 rfl).2
 |false=>rw[h2 rfl];exact jm4 m
theorem DB{p q r:Prop}(e:r)(hq:q)(h:r→p=q:=by
 intro hY
 conv=>lhs;simp -dsimp -implicitDefEqProofs (disch:=first|assumption|omega|(simp only[aK,aT,bx]<;>omega)|decide) only[aP,↓reduceIte,Nat.reduceEqDiff,Nat.reduceAdd,D.fix,Int.reduceToNat,Nat.reduceMul,Nat.reduceBNe,Nat.reduceBEq,eF,eZ,cH,jf,cn,bE,dm,bw,hY]):p:=(h e).mpr hq
theorem jx9(n:Net)(h:IV n):cC prog 15 [eF n] (.d (oD true)):=by
 have hlen:=h.len
 have hd0:=h.d0
 have mG:=h.dl
 have q0:decide ((600:Int)<2+n.ins.length+n.aO.length)=false:=decide_eq_false (by omega)
 have q1:((n.out.length:Int) !=n.cG.length)=false:=by simp;omega
 have lX:=jvp n (by omega) (by omega)
 refine ez (fn:=f15) (by kernel_rfl) func15 rfl (bN rfl) fun c hc hp=>?_
 refine dG (τ':=aG [(0,.d (eF n))]) (by repeat (first|exact bT _|refine bM ?_ (by first|rfl|(simp[aR,aT,bx];done)|simp[aR,aT,bx, *]))) ?_
 refine aj (yl ·) ?_
 refine aH fun K2 bG=>?_
 refine bC hp ax hc rfl fun K3 bS=>?_
 refine Ar (aL q0 q1) ?_
 refine cQ (lX) rfl ?_
 refine Ar (aL q0 q1) ?_
 refine bS _ _ ?_
 refine eC ?_
 refine bB (bG _ _ ?_)
 refine aH fun K4 dD=>?_
 refine aj (LC ·) ?_
 refine aW ?_
 refine c9 hp (fun τ' H' mm=>∃(k:Nat),(k≤n.ins.length)∧mm=n.ins.length - k∧H'=[.cells (au (eZ n))]∧τ'=aG [(1,.op 0 0),(3,.d (iD k))]) (n.ins.length) ?_ ⟨0,cy _,rfl,rfl,rfl⟩ ?_
 ·refine CH ?_
  exact CG
 rintro τ' H' mm ⟨k,hk,rfl,rfl,rfl⟩
 refine aH fun K6 cF=>?_
 refine aj (yl ·) ?_
 refine aX rfl (fun ht=>?_) (fun ht=>?_)
 ·have aA:k<n.ins.length:=by simp at ht;omega
  have hw:=h.wi _ (my aA)
  have q2:decide ((nth n.ins k).kind<1)=false:=decide_eq_false (by have:=hw.k1;omega)
  have q3:decide (4<(nth n.ins k).kind)=false:=decide_eq_false (by have:=hw.k4;omega)
  have q4:decide ((nth n.ins k).i<0)=false:=decide_eq_false (by have:=hw.i0;omega)
  have q5:decide ((nth n.ins k).bit<0)=false:=decide_eq_false (by have:=hw.b0;omega)
  have q6:decide (7<(nth n.ins k).bit)=false:=decide_eq_false (by have:=hw.b7;omega)
  refine bB (cF _ _ ?_)
  refine aH fun K8 dC=>?_
  refine aW ?_
  refine aj (jui ·) ?_
  refine aj (Ar (aL q2 (aL q3 (aL q4 (aL q5 q6)))) ·) ?_
  refine eC ?_
  refine bB (dC _ _ ?_)
  refine bA hp ax hc rfl fun lz cm=>?_
  refine yl ?_
  refine cm _ _ ⟨_,_,_,?_,⟨k+1,by omega,rfl,rfl,rfl⟩,?_⟩
  ·first|omega|(simp only[List.length_cons];omega)|(dsimp only;omega)
  ·refine EO [0] ?_
   refine CH ?_
   exact CG
 ·refine cL (dD _ _ ?_)
  refine aH fun nk cU=>?_
  refine aj (LC ·) ?_
  refine aW ?_
  refine c9 hp (fun τ' H' mm=>∃(k:Nat),(k≤n.aO.length)∧mm=n.aO.length - k∧H'=[.cells (au (eZ n))]∧τ'=aG [(1,.op 0 0),(5,.d (iD k))]) (n.aO.length) ?_ ⟨0,cy _,rfl,rfl,rfl⟩ ?_
  ·refine EO [0] ?_
   refine CH ?_
   exact CG
  rintro τ' H' mm ⟨k,hk,rfl,rfl,rfl⟩
  refine aH fun rM dI=>?_
  refine aj (yl ·) ?_
  refine aX rfl (fun ht=>?_) (fun ht=>?_)
  ·have aA:k<n.aO.length:=by simp at ht;omega
   have hg:=yhb h.g2 aA
   have hv:=h.gv _ (my aA)
   have a3:=ymb hg.o1 hg.o2
   have a0:=hg.a0;have a1:=hg.a1;have b0:=hg.b0;have b1:=hg.b1;have c0:=hg.c0;have c1:=hg.c1;have n0:=hg.n0
   have v1:=hv.c;have v2:=hv.b;have v3:=hv.n;have v4:=hv.m
   obtain⟨ar,L8⟩:∃ar,ar=Fg (nth n.aO k).op:=⟨_,rfl⟩
   have hac:=jx8 hg.o1 hg.o2
   rw[←L8]at a3 hac
   have k0:decide ((ar:Int)<0)=false:=decide_eq_false (by omega)
   have k1:=M1 (nth n.aO k).a (2+n.ins.length+k) a0 (by omega)
   have k2:=M0 (u:=decide ((1:Int)<ar)) (n:=(nth n.aO k).b) (m:=2+n.ins.length+k) (fun _=>⟨b0,by omega⟩) (fun hu=>by simp at hu;rcases a3 with⟨e,_⟩|⟨_,_,e⟩|⟨_,e⟩;exact v2 e;omega;omega)
   have k3:=M0 (u:=decide ((2:Int)<ar)) (n:=(nth n.aO k).c) (m:=2+n.ins.length+k) (fun _=>⟨c0,by omega⟩) (fun hu=>by simp at hu;rcases a3 with⟨e,_⟩|⟨_,e,_⟩|⟨_,e⟩;exact v1 (by omega);exact v1 e;omega)
   have k4:=M0 (u:=(nth n.aO k).op==7) (n:=(nth n.aO k).n) (m:=64) (fun _=>⟨n0,by omega⟩) (fun hu=>v3 (by simpa using hu))
   refine bB (dI _ _ ?_)
   refine aH fun pM df=>?_
   refine aW ?_
   refine aj (yhc ·) ?_
   refine eN ax hc mixed rfl (q:=0) (by kernel_rfl) (by kernel_rfl) fun ye fP=>?_
   refine yl ?_
   refine cQ (hac) rfl ?_
   refine yl ?_
   refine fP _ _ ?_
   refine bC hp ax hc rfl fun wT fC=>?_
   refine Ar k0 ?_
   refine cQ (k1) rfl ?_
   refine Ar k0 ?_
   refine cQ (k2) rfl ?_
   refine Ar k0 ?_
   refine cQ (k3) rfl ?_
   refine Ar k0 ?_
   refine cQ (k4) rfl ?_
   refine Ar k0 ?_
   refine fC _ _ ?_
   refine eC ?_
   refine bB (df _ _ ?_)
   refine bA hp ax hc rfl fun uK eG=>?_
   refine yl ?_
   refine eG _ _ ⟨_,_,_,?_,⟨k+1,by omega,rfl,rfl,rfl⟩,?_⟩
   ·first|omega|(simp only[List.length_cons];omega)|(dsimp only;omega)
   ·refine EO [0] ?_
    refine CH ?_
    exact CG
  ·refine cL (cU _ _ ?_)
   refine aH fun yU ib=>?_
   refine aj (LC ·) ?_
   refine aW ?_
   refine c9 hp (fun τ' H' mm=>∃(k:Nat),(k≤n.out.length)∧mm=n.out.length - k∧H'=[.cells (au (eZ n))]∧τ'=aG [(1,.op 0 0),(9,.d (iD k))]) (n.out.length) ?_ ⟨0,cy _,rfl,rfl,rfl⟩ ?_
   ·refine EO [0] ?_
    refine CH ?_
    exact CG
   rintro τ' H' mm ⟨k,hk,rfl,rfl,rfl⟩
   refine aH fun yd gw=>?_
   refine aj (yl ·) ?_
   refine aX rfl (fun ht=>?_) (fun ht=>?_)
   ·have aA:k<n.out.length:=by simp at ht;omega
    have hw:=h.wo _ (my aA)
    have hdk:=h.d2 k (by omega)
    have q4:decide ((nth n.out k).i<0)=false:=decide_eq_false (by have:=hw.i0;omega)
    have q5:decide ((nth n.out k).bit<0)=false:=decide_eq_false (by have:=hw.b0;omega)
    have q6:decide (7<(nth n.out k).bit)=false:=decide_eq_false (by have:=hw.b7;omega)
    have k1:=M1 (nth n.cG k) (2+n.ins.length+n.aO.length) hdk.1 (by omega)
    refine bB (gw _ _ ?_)
    refine aH fun BK jn=>?_
    refine aW ?_
    refine aj (jui ·) ?_
    refine eN ax hc mixed rfl (q:=0) (by kernel_rfl) (by kernel_rfl) fun IZ l7=>?_
    rcases hw.k with q|⟨q,q'⟩
    ·have q2:((nth n.out k).kind !=1)=false:=by rw[q];rfl
     have q3:=q2
     have q7:=q2
     refine DB (aL q2 (aL q3 (aL q4 (aL q5 (aL q6 q7))))) ?_
     refine cQ (lX) rfl ?_
     refine DB (aL q2 (aL q3 (aL q4 (aL q5 (aL q6 q7))))) ?_
     refine cQ (k1) rfl ?_
     refine DB (aL q2 (aL q3 (aL q4 (aL q5 (aL q6 q7))))) ?_
     refine l7 _ _ ?_
     refine eC ?_
     refine bB (jn _ _ ?_)
     refine bA hp ax hc rfl fun Aa iU=>?_
     refine yl ?_
     refine iU _ _ ⟨_,_,_,?_,⟨k+1,by omega,rfl,rfl,rfl⟩,?_⟩
     ·first|omega|(simp only[List.length_cons];omega)|(dsimp only;omega)
     ·refine EO [0] ?_
      refine CH ?_
      exact CG
    ·have q2:decide ((nth n.out k).kind<5)=false:=decide_eq_false (by omega)
     have q3:decide (10<(nth n.out k).kind)=false:=decide_eq_false (by omega)
     have q7:((nth n.out k).kind !=1)=true:=by simp;omega
     refine DB (aL q2 (aL q3 (aL q4 (aL q5 (aL q6 q7))))) ?_
     refine cQ (lX) rfl ?_
     refine DB (aL q2 (aL q3 (aL q4 (aL q5 (aL q6 q7))))) ?_
     refine cQ (k1) rfl ?_
     refine DB (aL q2 (aL q3 (aL q4 (aL q5 (aL q6 q7))))) ?_
     refine l7 _ _ ?_
     refine eC ?_
     refine bB (jn _ _ ?_)
     refine bA hp ax hc rfl fun BJ iT=>?_
     refine yl ?_
     refine iT _ _ ⟨_,_,_,?_,⟨k+1,by omega,rfl,rfl,rfl⟩,?_⟩
     ·first|omega|(simp only[List.length_cons];omega)|(dsimp only;omega)
     ·refine EO [0] ?_
      refine CH ?_
      exact CG
   ·refine cL (ib _ _ ?_)
    refine aj (LC ·) ?_
    refine bh ?_
    show aC _ _=_
    exact ymc
theorem Qa{p q:Prop}(hq:q)(h:p=q:=by
 conv=>lhs;simp -dsimp -implicitDefEqProofs (disch:=first|assumption|omega|(simp only[aK,aT]<;>omega)|decide) only[aP,↓reduceIte,Nat.reduceEqDiff,Nat.reduceAdd,D.fix,Int.reduceToNat,Nat.reduceMul,Nat.reduceBNe,Nat.reduceBEq,cH,AF,qK,cn,ri]):p:=h.mpr hq
theorem Qp{p q:Prop}(hq:q)(h:p=q:=by
 conv=>lhs;simp -dsimp -implicitDefEqProofs (disch:=first|assumption|omega|(simp only[aK,aT]<;>omega)|decide) only[aP,↓reduceIte,Nat.reduceEqDiff,Nat.reduceAdd,D.fix,Int.reduceToNat,Nat.reduceMul,Nat.reduceBNe,Nat.reduceBEq,cH,AF,qK,cn,ri,bw]):p:=h.mpr hq
theorem XO{m:List Nat}{τ τ':Fr}{H H':ak}(h2:H=H')(h:fm τ τ':=by
 repeat (first|exact bT _|refine bM ?_ (by first|rfl|(simp[aR,aT];done)|simp[aR,aT, *]))):Rt m τ H τ' H':=Rt.end h h2
theorem XN{p:Prop}(h:p:=by
 first|rfl|(simp only[cD,Nat.reduceAdd,↓reduceIte,Nat.reduceEqDiff,cH,AF,qK,cn,ri];first|done|rfl)):p:=h
theorem I9(l:List aB)(hl:l.length≤1000000):cC prog 20 [cH l,cH l] (.d (oD true)):=by
 refine ez (fn:=f20) (by kernel_rfl) func20 rfl (bN rfl) fun c hc hp=>?_
 refine dG (τ':=aG [(0,.d (cH l)),(1,.d (cH l))]) (by repeat (first|exact bT _|refine bM ?_ (by first|rfl|(simp[aR,aT];done)|simp[aR,aT, *]))) ?_
 refine aj (Qa ·) ?_
 refine aH fun K2 bG=>?_
 refine aj (Qp ·) ?_
 refine aX rfl (fun ht=>?_) (fun ht=>?_)
 ·simp at ht
 ·refine bB (bG _ _ ?_)
  refine aH fun K4 dD=>?_
  refine aj (Qa ·) ?_
  refine aW ?_
  refine c9 hp (fun τ' H' mm=>∃(k:Nat),(k≤l.length)∧mm=l.length - k∧H'=[]∧τ'=aG [(0,.d (cH l)),(1,.d (cH l)),(5,.d (iD k))]) (l.length) ?_ ⟨0,cy _,rfl,rfl,rfl⟩ ?_
  ·refine XO ?_
   exact XN
  rintro τ' H' mm ⟨k,hk,rfl,rfl,rfl⟩
  refine aH fun K6 cF=>?_
  refine aj (Qp ·) ?_
  refine aX rfl (fun ht=>?_) (fun ht=>?_)
  ·have aA:k<l.length:=by simp at ht;omega
   refine bB (cF _ _ ?_)
   refine aH fun K8 dC=>?_
   refine aW ?_
   refine eN ax hc mixed rfl (q:=0) (by kernel_rfl) (by kernel_rfl) fun K9 cJ=>?_
   simp -dsimp -implicitDefEqProofs (disch:=first|assumption|omega|(simp only[aK,aT]<;>omega)|decide) only[aP,↓reduceIte,Nat.reduceEqDiff,Nat.reduceAdd,D.fix,Int.reduceToNat,Nat.reduceMul,Nat.reduceBNe,Nat.reduceBEq,cH,AF,qK,cn,ri,bw,Dw jsa,Dw jsa]
   refine cJ _ _ ?_
   refine aX rfl (fun ht=>?_) (fun ht=>?_)
   ·simp at ht
   ·refine bB (dC _ _ ?_)
    refine bA hp ax hc rfl fun kL bU=>?_
    refine Qp ?_
    refine bU _ _ ⟨_,_,_,?_,⟨k+1,by omega,rfl,rfl,rfl⟩,?_⟩
    ·first|omega|(simp only[List.length_cons];omega)|(dsimp only;omega)
    ·refine XO ?_
     exact XN
  ·refine cL (dD _ _ ?_)
   refine aj (Qa ·) ?_
   refine bh ?_
   show aC _ _=_
   simp (disch:=first|assumption|omega|(simp only[aK,aT]<;>omega)|decide) only[gF,Nat.reduceAdd,D.fix,↓reduceIte,Nat.reduceEqDiff,cH,AF,qK,cn,ri]
theorem XM{p:Pr}(h:fD p):IV (eV p):=by
 have hw:=OV h
 have ho:=uT h.ok _ (bm _)
 have h1:=ho.len;have h2:=h.cost;have h3:=h.ins
 have hc:wQ p p.mems.length=qB p:=rfl
 have sf:=hw.ol
 refine⟨by show 2+(dN p).length+(gU p p.mems.length).gs.length≤600;omega,hw.od,hw.wi,hw.wo,hw.g,fun g hg=>?_,hw.d,by rw[←hw.od];exact sf⟩
 obtain⟨k,hk,e⟩:=List.mem_iff_getElem.1 hg
 have oz:k<(gU p p.mems.length).gs.length:=hk
 have:=ho.gi.rg k oz
 rw[show nth (gU p p.mems.length).gs k=g by rw[mS oz];exact e]at this
 exact⟨this.cz,this.bz,this.nz,by have:=this.n1;omega⟩
section
theorem yp6:(type_of% @DA):=@DA
section
variable {p:Pr} {s:im} {heads:List Head} {rooms:List Bool}
theorem yhg(hp:fD p)(h:qt p s heads rooms):cC prog 27 [.agg (aD p),.agg (fG s),eT heads,bn rooms] (.d (.agg (jm (qF p s heads rooms)))):=by
 have:=yfj p hp.ok s heads rooms h
 rwa[Yk h]at this
end
end
end Go.Proofs.YtapjobndmmkanaaGreat
