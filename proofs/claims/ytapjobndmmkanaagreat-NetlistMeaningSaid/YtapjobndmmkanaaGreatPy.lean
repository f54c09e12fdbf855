/- The chapter's examples (netlist). -/
import Derived.Test.YtapjobndmmkanaaGreatQr
import Derived.Test.YtapjobndmmkanaaGreatLk
import Derived.Test.YtapjobndmmkanaaGreatPu
import Derived.Test.YtapjobndmmkanaaGreatPx
import Derived.Test.YtapjobndmmkanaaGreatYb
set_option linter.unusedVariables false
set_option linter.unusedSimpArgs false
set_option maxRecDepth 100000
set_option maxHeartbeats 4000000
namespace Go.Proofs.YtapjobndmmkanaaGreat
open Go.Proofs.Tryz
open Go Go.RowKit
theorem Oy{p q:Prop}(hq:q)(h:p=q:=by
 conv=>lhs;simp -dsimp -implicitDefEqProofs (disch:=first|assumption|omega|(simp only[aK,aT,bx]<;>omega)|decide) only[aP,↓reduceIte,Nat.reduceEqDiff,Nat.reduceAdd,D.fix,Int.reduceToNat,Nat.reduceMul,Nat.reduceBNe,Nat.reduceBEq,eF,eZ,cH,jf,bE,ri,bw]):p:=h.mpr hq
theorem KQ{p q:Prop}(hq:q)(h:p=q:=by
 conv=>lhs;simp -dsimp -implicitDefEqProofs (disch:=first|assumption|omega|(simp only[aK,aT,bx]<;>omega)|decide) only[aP,↓reduceIte,Nat.reduceEqDiff,Nat.reduceAdd,D.fix,Int.reduceToNat,Nat.reduceMul,Nat.reduceBNe,Nat.reduceBEq,eF,eZ,cH,jf,bE,ri,bne_self_eq_false,bw]):p:=h.mpr hq
theorem XI{p q:Prop}(hq:q)(h:p=q:=by
 conv=>lhs;simp -dsimp -implicitDefEqProofs (disch:=first|assumption|omega|(simp only[aK,aT,bx]<;>omega)|decide) only[aP,↓reduceIte,Nat.reduceEqDiff,Nat.reduceAdd,D.fix,Int.reduceToNat,Nat.reduceMul,Nat.reduceBNe,Nat.reduceBEq,eF,eZ,cH,jf,bE,ri]):p:=h.mpr hq
theorem WH{m:List Nat}{τ τ':Fr}{H H':ak}(h2:H=H')(h:fm τ τ':=by
 repeat (first|exact bT _|refine bM ?_ (by first|rfl|(simp[aR,aT,bx];done)|simp[aR,aT,bx, *]))):Rt m τ H τ' H':=Rt.end h h2
theorem WG{p:Prop}(h:p:=by
 first|rfl|(simp only[cD,Nat.reduceAdd,↓reduceIte,Nat.reduceEqDiff,eF,eZ,cH,jf,bE,ri];first|done|rfl)):p:=h
theorem jul(n:Net)(h1:n.ins.length≤1000000)(h2:n.aO.length≤1000000)(h3:n.out.length≤1000000)(h4:n.cG.length≤1000000):cC prog 13 [eF n,eF n] (.d (oD true)):=by
 have iJ:=PK n.cG n.cG (by unfold maxLen;omega)
 rw[show decide (n.cG=n.cG)=true by simp]at iJ
 refine ez (fn:=f13) (by kernel_rfl) func13 rfl (bN rfl) fun c hc hp=>?_
 refine dG (τ':=aG [(0,.d (eF n)),(1,.d (eF n))]) (by repeat (first|exact bT _|refine bM ?_ (by first|rfl|(simp[aR,aT,bx];done)|simp[aR,aT,bx, *]))) ?_
 refine aj (Oy ·) ?_
 refine aH fun K2 bG=>?_
 refine bC hp ax hc rfl fun K3 bS=>?_
 refine KQ ?_
 refine cQ (I9 n.ins h1) rfl ?_
 refine KQ ?_
 refine cQ (I9 n.out h3) rfl ?_
 refine KQ ?_
 refine cQ (iJ) rfl ?_
 refine KQ ?_
 refine bS _ _ ?_
 refine eC ?_
 refine bB (bG _ _ ?_)
 refine aH fun K4 dD=>?_
 refine aj (XI ·) ?_
 refine aW ?_
 refine c9 hp (fun τ' H' mm=>∃(k:Nat),(k≤n.aO.length)∧mm=n.aO.length - k∧H'=[.cells (au (eZ n)),.cells (au (eZ n))]∧τ'=aG [(2,.op 0 0),(3,.op 1 0),(5,.d (iD k))]) (n.aO.length) ?_ ⟨0,cy _,rfl,rfl,rfl⟩ ?_
 ·refine WH ?_
  exact WG
 rintro τ' H' mm ⟨k,hk,rfl,rfl,rfl⟩
 refine aH fun K6 cF=>?_
 refine aj (Oy ·) ?_
 refine aX rfl (fun ht=>?_) (fun ht=>?_)
 ·have aA:k<n.aO.length:=by simp at ht;omega
  refine bB (cF _ _ ?_)
  refine aH fun K8 dC=>?_
  refine aW ?_
  refine eN ax hc mixed rfl (q:=0) (by kernel_rfl) (by kernel_rfl) fun K9 cJ=>?_
  simp -dsimp -implicitDefEqProofs (disch:=first|assumption|omega|(simp only[aK,aT,bx]<;>omega)|decide) only[aP,↓reduceIte,Nat.reduceEqDiff,Nat.reduceAdd,D.fix,Int.reduceToNat,Nat.reduceMul,Nat.reduceBNe,Nat.reduceBEq,eF,eZ,cH,jf,bE,ri,AG,vR,bw,Dw jsb,Dw jsb]
  refine cJ _ _ ?_
  refine aX rfl (fun ht=>?_) (fun ht=>?_)
  ·simp at ht
  ·refine bB (dC _ _ ?_)
   refine bA hp ax hc rfl fun kL bU=>?_
   refine Oy ?_
   refine bU _ _ ⟨_,_,_,?_,⟨k+1,by omega,rfl,rfl,rfl⟩,?_⟩
   ·first|omega|(simp only[List.length_cons];omega)|(dsimp only;omega)
   ·refine WH ?_
    exact WG
 ·refine cL (dD _ _ ?_)
  refine aj (XI ·) ?_
  refine bh ?_
  show aC _ _=_
  simp (disch:=first|assumption|omega|(simp only[aK,aT,bx]<;>omega)|decide) only[gF,Nat.reduceAdd,D.fix,↓reduceIte,Nat.reduceEqDiff,eF,eZ,cH,jf,bE,ri]
def lP:Pr:=⟨⟨#[112]⟩,⟨#[97]⟩,[⟨⟨#[114]⟩,1,0,.not (.fe 0),0,⟨#[]⟩,0⟩],[],[],[]⟩
def ui:Pr:={lP with ae:=[⟨0,1,.lM 1 1⟩]}
def zr:Net:=⟨[⟨1,0,0⟩],[⟨1,2,0,0,0⟩],[⟨1,0,0⟩],[3]⟩
def oC:Net:=⟨[⟨1,0,0⟩,⟨2,0,0⟩,⟨3,0,0⟩],[⟨1,2,0,0,0⟩,⟨5,4,5,2,0⟩],[⟨1,0,0⟩,⟨5,0,0⟩],[6,4]⟩
theorem jm8:eV lP=zr:=by kernel_rfl
theorem jm9:eV ui=oC:=by kernel_rfl
theorem DZ{P:Nat→Prop}(h:P 0):∀i,i<1→P i:=fun i hi=>by rw[show i=0 by omega];exact h
theorem yhm:bJ lP:=by
 refine⟨⟨DZ (by decide),fun i hi=>absurd hi (by simp[aI,lP]),fun i hi=>absurd hi (by simp[aI,lP]),by decide⟩,fun i hi=>absurd hi (by simp[lP]),DZ ?_,fun i hi=>absurd hi (by simp[lP]),fun i hi=>absurd hi (by simp[lP]),fun i hi=>absurd hi (by simp[lP]),fun i hi=>absurd hi (by simp[lP]),fun i hi=>absurd hi (by simp[lP]),fun i hi=>absurd hi (by simp[lP]),by decide,by decide,by decide,by decide⟩
 exact⟨show 0<1 by decide,rfl⟩
theorem yhn:bJ ui:=by
 refine⟨⟨DZ (by decide),DZ (by decide),fun i hi=>absurd hi (by simp[aI,ui,lP]),by decide⟩,DZ ?_,DZ ?_,fun i hi=>absurd hi (by simp[ui,lP]),fun i hi=>absurd hi (by simp[ui,lP]),fun i hi=>absurd hi (by simp[ui,lP]),fun i hi=>absurd hi (by simp[ui,lP]),fun i hi=>absurd hi (by simp[ui,lP]),fun i hi=>absurd hi (by simp[ui,lP]),by decide,by decide,by decide,by decide⟩
 ·exact⟨⟨by decide,by decide,by decide⟩,rfl⟩
 ·exact⟨show 0<1 by decide,rfl⟩
theorem ymj:cC prog 11 [cv lP] (.d (.agg (rW zr 0))):=by
 have h:=MQ lP yhm (by decide) (by decide) (by decide) (by rw[jm8];decide)
 rwa[jm8]at h
theorem ymk:cC prog 11 [cv ui] (.d (.agg (rW oC 0))):=by
 have h:=MQ ui yhn (by decide) (by decide) (by decide) (by rw[jm9];decide)
 rwa[jm9]at h
theorem yml:cC prog 16 [eF zr] (.d (iD 1)):=ub (n:=200) mixed ax (by kernel_rfl)
theorem ymm:cC prog 16 [eF oC] (.d (iD 2)):=ub (n:=200) mixed ax (by kernel_rfl)
theorem ymn:cC prog 14 [eF zr] (.d (oD true)):=ub (n:=200) mixed ax (by kernel_rfl)
theorem ymo:cC prog 14 [.agg [.fs [] 0,.fs (bE ⟨1,2,0,0,0⟩) 1,.fs [] 0,.fs [] 0]] (.d (oD false)):=ub (n:=200) mixed ax (by kernel_rfl)
theorem jfk{p:Pr}(h:bJ p){i:Nat}:∀j,i≤j→j≤p.ag.length→(eL p i).gs<+:(eL p j).gs
 |0,hi,_=>by rw[show i=0 by omega];exact List.prefix_refl _
 |j+1,hi,hj=>by
  by_cases e:i=j+1
  ·subst e;exact List.prefix_refl _
  ·have ih:=jfk h (i:=i) j (by omega) (by omega)
   obtain⟨hb,ht⟩:=yp h (show j<p.ag.length by omega) (xg h j (by omega))
   rw[←hb.wid]at ht
   exact ih.trans (hb.pre.trans ht.pre)
theorem yho{n w:Nat}:(eV (iB n w)).aO=(eL (iB n w) n).gs:=by
 show(eL (iB n w) (iB n w).ag.length).gs=_
 rw[CL]
theorem ymp:(eL (iB 16 8) 11).gs=uh:=yqr
theorem jyd:600<2+(dN (iB 16 8)).length+(eV (iB 16 8)).aO.length:=by
 have hk:=(jfk (XJ (n:=16) (w:=8) (by decide) (by decide) (by decide) (by decide)) (i:=11) 16 (by decide) (by rw[CL];decide)).length_le
 have h3:600<130+uh.length:=by decide +kernel
 rw[ymp]at hk
 rw[juk,yho]
 omega
theorem yhp:cC prog 11 [cv (iB 16 8)] (.d (.agg (rW ⟨[],[],[],[]⟩ 2))):=
 jm5 (iB 16 8) (XJ (by decide) (by decide) (by decide) (by decide)) (by rw[juk];decide) (by rw[jfi (by decide)];decide) (by decide) jyd
theorem ymq:cC prog 10 [.val (.int .u8 15),.val (.int .u8 7)] (.d (cv (iB 16 8))):=jqm 15 7 (by decide) (by decide)
theorem jqp:cC prog 13 [eF zr,eF zr] (.d (oD true)):=jul zr (by decide) (by decide) (by decide) (by decide)
theorem jqq:cC prog 13 [eF oC,eF oC] (.d (oD true)):=jul oC (by decide) (by decide) (by decide) (by decide)
theorem ph{p q:Prop}(hq:q)(h:p=q:=by
 conv=>lhs;simp -dsimp -implicitDefEqProofs (disch:=first|assumption|omega|(simp only[aK]<;>omega)|decide) only[aP,↓reduceIte,Nat.reduceEqDiff,Nat.reduceAdd,D.fix,Int.reduceToNat,Nat.reduceMul,Nat.reduceBNe,Nat.reduceBEq,beq_self_eq_true,Int.reduceBEq,k8,aD,cv,eZ,eF,sD,nS,rW,bW,cg,List.cons_append,List.nil_append,List.append_eq,bw]):p:=h.mpr hq
theorem KP(k:List Nat){m:List Nat}{τ τ1:Fr}{H H1:ak}(h:Rt m (fun t=>c7 k (τ t)) (dg k H) τ1 H1)(a:∀i∈m,k[i]? =some i:=by decide)(b:k.Nodup:=by decide)(c:∀i∈k,i<H.length:=by
 simp[eS,dg]):Rt m τ H τ1 H1:=Rt.trans (Rt.gc a b c) h
theorem KO{m:List Nat}{τ τ':Fr}{H H':ak}(h2:H=H')(h:fm τ τ':=by
 repeat (first|exact bT _|refine bM ?_ (by first|rfl|(simp[aR];done)|simp[aR, *]))):Rt m τ H τ' H':=Rt.end h h2
theorem KN{p:Prop}(h:p:=by
 first|rfl|(simp only[cD,Nat.reduceAdd,↓reduceIte,Nat.reduceEqDiff,beq_self_eq_true,Int.reduceBEq,k8,aD,cv,eZ,eF,sD,nS,rW,bW,cg,List.cons_append,List.nil_append,List.append_eq];first|done|rfl)):p:=h
theorem zyr:cC prog 8 [] (.d (oD true)):=by
 refine ez (fn:=f8) (by kernel_rfl) func8 rfl (bN rfl) fun c hc hp=>?_
 refine dG (τ':=aG []) (bT _) ?_
 refine bC hp ax hc rfl fun K1 rE=>?_
 simp -dsimp -implicitDefEqProofs (disch:=first|assumption|omega|(simp only[aK]<;>omega)|decide) only[aP,↓reduceIte,Nat.reduceEqDiff,Nat.reduceAdd,D.fix,Int.reduceToNat,Nat.reduceMul,Nat.reduceBNe,Nat.reduceBEq,beq_self_eq_true,Int.reduceBEq,k8,aD,cv,eZ,eF,sD,nS,rW,bW,cg,List.cons_append,List.nil_append,List.append_eq]
 refine rE _ _ ?_
 refine aj (ph ·) ?_
 refine aj (ph ·) ?_
 refine bI hp (τ':=aG [(2,.op 0 0)]) (H':=[.cells (au (aD lP))]) ?_ ?_
 ·refine Rt.trans (Rt.rF 1 6 rfl rfl) ?_
  refine Rt.trans (Rt.fz (id:=1) (l:=(bW (.fe 0))) rfl) ?_
  refine Rt.trans (Rt.fz (id:=2) (l:=(lH ⟨⟨#[114]⟩,1,0,.not (.fe 0),0,⟨#[]⟩,0⟩)) rfl) ?_
  refine Rt.trans (Rt.rF 3 3 rfl rfl) ?_
  refine Rt.trans (Rt.rF 3 4 rfl rfl) ?_
  refine Rt.trans (Rt.rF 3 5 rfl rfl) ?_
  refine KP [3] ?_
  refine KO ?_
  exact KN
 refine aj (ph ·) ?_
 refine aj (ph ·) ?_
 refine bI hp (τ':=aG [(2,.op 0 0),(3,.op 1 0)]) (H':=[.cells (au (aD lP)),.cells (au (aD ui))]) ?_ ?_
 ·refine Rt.trans (Rt.rF 2 8 rfl rfl) ?_
  refine Rt.trans (Rt.fz (id:=2) (l:=(oW ⟨0,1,.lM 1 1⟩)) rfl) ?_
  refine KP [0,1] ?_
  refine KO ?_
  exact KN
 refine aj (ph ·) ?_
 refine aj (ph ·) ?_
 refine bI hp (τ':=aG [(2,.op 0 0),(3,.op 1 0),(4,.op 2 0),(5,.op 3 0)]) (H':=[.cells (au (aD lP)),.cells (au (aD ui)),.cells (au (cn ⟨1,0,0⟩)),.cells (au (eZ zr))]) ?_ ?_
 ·refine Rt.trans (Rt.fz (id:=3) (l:=(cn ⟨1,0,0⟩)) rfl) ?_
  refine Rt.trans (Rt.fz (id:=4) (l:=(bE ⟨1,2,0,0,0⟩)) rfl) ?_
  refine Rt.trans (Rt.fz (id:=5) (l:=(cn ⟨1,0,0⟩)) rfl) ?_
  refine Rt.trans (Rt.fz (id:=6) (l:=[iD 3]) rfl) ?_
  refine KP [0,1,2,7] ?_
  refine KO ?_
  exact KN
 refine aj (ph ·) ?_
 refine bI hp (τ':=aG [(2,.op 0 0),(3,.op 1 0),(5,.op 2 0),(6,.op 3 0)]) (H':=[.cells (au (aD lP)),.cells (au (aD ui)),.cells (au (eZ zr)),.cells (au (eZ oC))]) ?_ ?_
 ·refine Rt.trans (Rt.fz (id:=4) (l:=(oC.ins.flatMap cn)) rfl) ?_
  refine Rt.trans (Rt.fz (id:=5) (l:=(oC.aO.flatMap bE)) rfl) ?_
  refine Rt.trans (Rt.fz (id:=6) (l:=(oC.out.flatMap cn)) rfl) ?_
  refine Rt.trans (Rt.fz (id:=7) (l:=[iD 6,iD 4]) rfl) ?_
  refine KP [0,1,3,8] ?_
  refine KO ?_
  exact KN
 refine eN ax hc mixed rfl (q:=2) (by kernel_rfl) (by kernel_rfl) fun K9 cJ=>?_
 refine ph ?_
 refine cQ (ymj) rfl ?_
 refine ph ?_
 refine cQ (ymk) rfl ?_
 refine ph ?_
 refine cJ _ _ ?_
 refine bC hp ax hc rfl fun kL bU=>?_
 refine ph ?_
 refine cQ (jqp) rfl ?_
 refine ph ?_
 refine cQ (jqq) rfl ?_
 refine ph ?_
 refine cQ (ymn) rfl ?_
 refine ph ?_
 refine cQ (yml) rfl ?_
 refine ph ?_
 refine cQ (ymm) rfl ?_
 refine ph ?_
 refine yaa (ymo) ?_ ?_
 ·simp (disch:=first|assumption|omega|(simp only[aK]<;>omega)|decide) only[gF,Nat.reduceAdd,D.fix,↓reduceIte,Nat.reduceEqDiff,beq_self_eq_true,Int.reduceBEq,k8,aD,cv,eZ,eF,sD,nS,rW,bW,cg,List.cons_append,List.nil_append,List.append_eq,bE]
 refine ph ?_
 refine cQ (ymq) rfl ?_
 refine ph ?_
 refine cQ (yhp) rfl ?_
 refine ph ?_
 refine bU _ _ ?_
 refine bh ?_
 show aC _ _=_
 simp (disch:=first|assumption|omega|(simp only[aK]<;>omega)|decide) only[gF,Nat.reduceAdd,D.fix,↓reduceIte,Nat.reduceEqDiff,beq_self_eq_true,Int.reduceBEq,k8,aD,cv,eZ,eF,sD,nS,rW,bW,cg,List.cons_append,List.nil_append,List.append_eq]
theorem jqu{p:Pr}(h:fD p):2+(dN p).length+(eV p).aO.length≤600:=(XM h).len
theorem jg6{p:Pr}(h:fD p):cC prog 11 [cv p] (.d (.agg (rW (eV p) 0))):=
 MQ p h.ok (by have:=h.ins;omega) (by have:=h.cost;omega) (by have:=h.m1;omega) (by have:=jqu h;omega)
theorem XH{l:List ly}{k:Nat}(h:k<l.length):(l.flatMap lH)[k*13+1]? =some (iD (nth l k).w):=(nC (j:=1) lA h (by omega)).trans rfl
theorem ymr{l:List jD}{k:Nat}(h:k<l.length):(l.flatMap oW)[k*9+1]? =some (iD (nth l k).w):=(nC (j:=1) mb h (by omega)).trans rfl
theorem yms{l:List ni}{k:Nat}(h:k<l.length):(l.flatMap sb)[k*16+1]? =some (iD (nth l k).w):=(nC (j:=1) kg h (by omega)).trans rfl
theorem ymt{l:List nj}{k:Nat}(h:k<l.length):(l.flatMap oX)[k*27+1]? =some (iD (nth l k).w):=(nC (j:=1) mJ h (by omega)).trans rfl
section
section
variable {p:Pr}
theorem Ox(h:bJ p){i:Nat}(hi:i<p.ag.length):1≤(nth p.ag i).w∧(nth p.ag i).w≤8:=by
 have:=h.ct.r i (by simpa[aI]using hi)
 rwa[show nth (aI p).ag i=(nth p.ag i).w from lQ hi]at this
theorem XG(h:bJ p){i:Nat}(hi:i<p.ae.length):1≤(nth p.ae i).w∧(nth p.ae i).w≤8:=by
 have:=h.ct.t i (by simpa[aI]using hi)
 rwa[zA hi]at this
theorem ymu(h:bJ p){i:Nat}(hi:i<p.mems.length):1≤(nth p.mems i).w∧(nth p.mems i).w≤8:=by
 have:=h.ct.m i (by simpa[aI]using hi)
 rw[show nth (aI p).mems i=((nth p.mems i).words,(nth p.mems i).w) from lQ hi]at this
 exact this.2.2
theorem ymv(h:bJ p):p.mems.length≤8:=by have:=h.ct.l;simpa[aI]using this
end
section
variable {n w:Nat}
end
end
section
def JT(ws:List aB)(kind i:Int)(w:Nat)(x:AV)(S':ak):Prop:=∃z:Unit,x= .os 3 1 0 (ws.length+w)∧S'=[.dead,.cells (au ((ws++bK kind i w).flatMap cn))]
theorem pW{p q:Prop}(hq:q)(h:p=q:=by
 conv=>lhs;simp -dsimp -implicitDefEqProofs (disch:=first|assumption|omega|(simp only[aK,aT,cX]<;>omega)|decide) only[aP,↓reduceIte,Nat.reduceEqDiff,Nat.reduceAdd,D.fix,Int.reduceToNat,Nat.reduceMul,Nat.reduceBNe,Nat.reduceBEq,cn,bw]):p:=h.mpr hq
theorem EN{p q:Prop}(hq:q)(h:p=q:=by
 conv=>lhs;simp -dsimp -implicitDefEqProofs (disch:=first|assumption|omega|(simp only[aK,aT,cX]<;>omega)|decide) only[aP,↓reduceIte,Nat.reduceEqDiff,Nat.reduceAdd,D.fix,Int.reduceToNat,Nat.reduceMul,Nat.reduceBNe,Nat.reduceBEq,cn]):p:=h.mpr hq
theorem wz{m:List Nat}{τ τ':Fr}{H H':ak}(h2:H=H')(h:fm τ τ':=by
 repeat (first|exact bT _|refine bM ?_ (by first|rfl|(simp[aR,aT,cX];done)|simp[aR,aT,cX, *]))):Rt m τ H τ' H':=Rt.end h h2
theorem ns(k:List Nat){m:List Nat}{τ τ1:Fr}{H H1:ak}(h:Rt m (fun t=>c7 k (τ t)) (dg k H) τ1 H1)(a:∀i∈m,k[i]? =some i:=by decide)(b:k.Nodup:=by decide)(c:∀i∈k,i<H.length:=by
 simp[eS,dg]):Rt m τ H τ1 H1:=Rt.trans (Rt.gc a b c) h
theorem D3{p:Prop}(h:p:=by
 first|rfl|(simp only[cD,Nat.reduceAdd,↓reduceIte,Nat.reduceEqDiff,cn];first|done|rfl)):p:=h
theorem D2{p q:Prop}(hq:q)(h:p=q:=by
 conv=>lhs;simp only[cD,Nat.reduceAdd,↓reduceIte,Nat.reduceEqDiff,cn]):p:=h.mpr hq
theorem B9(ws:List aB)(kind i:Int)(w:Nat)(h0:1≤w)(h1:w≤1000)(hl:ws.length≤100000):cM prog [0] 78 [.os 3 0 0 ws.length,.agg [.d (iD kind),.d (iD i),.d (iD w)]] ([.cells (au (ws.flatMap cn)),.free]) (JT ws kind i w):=by
 refine fV (fn:=f78) (by kernel_rfl) func78 rfl (bN rfl) fun c hc hp=>?_
 refine oc ?_
 refine aj (pW ·) ?_
 refine aH fun K2 bG=>?_
 refine aj (EN ·) ?_
 refine aW ?_
 refine c9 hp (fun τ' H' mm=>∃(k:Nat) (o0 o1:bq) (x0:AV),(k≤w∧((k=0∧o0= .cells (au (ws.flatMap cn))∧o1= .free∧x0= .os 3 0 0 ws.length)∨(1≤k∧o0= .dead∧o1= .cells (au ((ws++bK kind i k).flatMap cn))∧x0= .os 3 1 0 (ws.length+k))))∧mm=w - k∧H'=[o0,o1,.cells [.d (iD kind),.d (iD i),.d (iD w)]]∧τ'=aG [(0,x0),(3,.op 2 0),(5,.d (iD k))]) (w) ?_ ⟨0,.cells (au (ws.flatMap cn)),.free,.os 3 0 0 ws.length,⟨cy _,.inl ⟨rfl,rfl,rfl,rfl⟩⟩,rfl,rfl,rfl⟩ ?_
 ·refine wz ?_
  exact D3
 rintro τ' H' mm ⟨k,o0,o1,x0,⟨hk,fk⟩,rfl,rfl,rfl⟩
 refine aH fun K4 dD=>?_
 refine aj (pW ·) ?_
 refine aX rfl (fun ht=>?_) (fun ht=>?_)
 ·have aA:k<w:=by simp at ht;omega
  have ou:ws++bK kind i (k+1)=(ws++bK kind i k)++[⟨kind,i,(k:Int)⟩]:=by rw[xh,List.append_assoc]
  refine bB (dD _ _ ?_)
  refine aH fun K6 cF=>?_
  refine aW ?_
  refine bA hp ax hc rfl fun K7 de=>?_
  rcases fk with⟨rfl,rfl,rfl,rfl⟩|⟨zR,rfl,rfl,rfl⟩
  ·refine pW ?_
   refine de _ _ (cF _ _ ?_)
   refine bA hp ax hc rfl fun K8 dC=>?_
   refine pW ?_
   refine dC _ _ ⟨_,_,_,?_,⟨0+1,.dead,_,_,⟨by omega,.inr ⟨bm _,rfl,rfl,rfl⟩⟩,rfl,rfl,rfl⟩,?_⟩
   ·first|omega|(simp only[List.length_cons];omega)|(dsimp only;omega)
   ·refine ns [0,4,2] ?_
    refine wz ?_
    refine D2 ?_;rw[ou];simp[bK,au,iD,cn]
  ·refine pW ?_
   refine de _ _ (cF _ _ ?_)
   refine bA hp ax hc rfl fun K9 cJ=>?_
   refine pW ?_
   refine cJ _ _ ⟨_,_,_,?_,⟨k+1,.dead,_,_,⟨by omega,.inr ⟨by omega,rfl,rfl,rfl⟩⟩,rfl,rfl,rfl⟩,?_⟩
   ·first|omega|(simp only[List.length_cons];omega)|(dsimp only;omega)
   ·refine ns [0,4,2] ?_
    refine wz ?_
    refine D2 ?_;rw[ou];simp[au,iD,cn]
 ·have cf:k=w:=by simp at ht;omega
  subst cf
  obtain⟨rfl,rfl,rfl⟩:o0= .dead∧o1= .cells (au ((ws++bK kind i k).flatMap cn))∧x0= .os 3 1 0 (ws.length+k):=by
   rcases fk with⟨e,_⟩|⟨_,h⟩
   ·omega
   ·exact h
  refine cL (bG _ _ ?_)
  refine aj (EN ·) ?_
  refine bI hp (τ':=aG [(4,.os 3 1 0 (ws.length+k))]) (H':=[.dead,.cells (au ((ws++bK kind i k).flatMap cn))]) ?_ ?_
  ·refine ns [0,1] ?_
   refine wz ?_
   exact D3
  refine bh ?_
  refine c8 (t:=4) rfl ?_
  show ∃_,_
  exact⟨(),rfl,rfl⟩
def WE(ws:List aB)(kind i:Int)(w:Nat)(x:AV)(S':ak):Prop:=∃z:Unit,x= .os 3 2 0 (ws.length+w)∧S'=[.dead,.dead,.cells (au ((ws++bK kind i w).flatMap cn))]
theorem MP(ws:List aB)(kind i:Int)(w:Nat)(h0:1≤w)(h1:w≤1000)(hl:ws.length≤100000):cM prog [0,1] 78 [.os 3 1 0 ws.length,.agg [.d (iD kind),.d (iD i),.d (iD w)]] ([.dead,.cells (au (ws.flatMap cn)),.free]) (WE ws kind i w):=by
 refine fV (fn:=f78) (by kernel_rfl) func78 rfl (bN rfl) fun c hc hp=>?_
 refine oc ?_
 refine aj (pW ·) ?_
 refine aH fun K2 bG=>?_
 refine aj (EN ·) ?_
 refine aW ?_
 refine c9 hp (fun τ' H' mm=>∃(k:Nat) (o0 o1:bq) (x0:AV),(k≤w∧((k=0∧o0= .cells (au (ws.flatMap cn))∧o1= .free∧x0= .os 3 1 0 ws.length)∨(1≤k∧o0= .dead∧o1= .cells (au ((ws++bK kind i k).flatMap cn))∧x0= .os 3 2 0 (ws.length+k))))∧mm=w - k∧H'=[.dead,o0,o1,.cells [.d (iD kind),.d (iD i),.d (iD w)]]∧τ'=aG [(0,x0),(3,.op 3 0),(5,.d (iD k))]) (w) ?_ ⟨0,.cells (au (ws.flatMap cn)),.free,.os 3 1 0 ws.length,⟨cy _,.inl ⟨rfl,rfl,rfl,rfl⟩⟩,rfl,rfl,rfl⟩ ?_
 ·refine wz ?_
  exact D3
 rintro τ' H' mm ⟨k,o0,o1,x0,⟨hk,fk⟩,rfl,rfl,rfl⟩
 refine aH fun K4 dD=>?_
 refine aj (pW ·) ?_
 refine aX rfl (fun ht=>?_) (fun ht=>?_)
 ·have aA:k<w:=by simp at ht;omega
  have ou:ws++bK kind i (k+1)=(ws++bK kind i k)++[⟨kind,i,(k:Int)⟩]:=by rw[xh,List.append_assoc]
  refine bB (dD _ _ ?_)
  refine aH fun K6 cF=>?_
  refine aW ?_
  refine bA hp ax hc rfl fun K7 de=>?_
  rcases fk with⟨rfl,rfl,rfl,rfl⟩|⟨zR,rfl,rfl,rfl⟩
  ·refine pW ?_
   refine de _ _ (cF _ _ ?_)
   refine bA hp ax hc rfl fun K8 dC=>?_
   refine pW ?_
   refine dC _ _ ⟨_,_,_,?_,⟨0+1,.dead,_,_,⟨by omega,.inr ⟨bm _,rfl,rfl,rfl⟩⟩,rfl,rfl,rfl⟩,?_⟩
   ·first|omega|(simp only[List.length_cons];omega)|(dsimp only;omega)
   ·refine ns [0,1,5,3] ?_
    refine wz ?_
    refine D2 ?_;rw[ou];simp[bK,au,iD,cn]
  ·refine pW ?_
   refine de _ _ (cF _ _ ?_)
   refine bA hp ax hc rfl fun K9 cJ=>?_
   refine pW ?_
   refine cJ _ _ ⟨_,_,_,?_,⟨k+1,.dead,_,_,⟨by omega,.inr ⟨by omega,rfl,rfl,rfl⟩⟩,rfl,rfl,rfl⟩,?_⟩
   ·first|omega|(simp only[List.length_cons];omega)|(dsimp only;omega)
   ·refine ns [0,1,5,3] ?_
    refine wz ?_
    refine D2 ?_;rw[ou];simp[au,iD,cn]
 ·have cf:k=w:=by simp at ht;omega
  subst cf
  obtain⟨rfl,rfl,rfl⟩:o0= .dead∧o1= .cells (au ((ws++bK kind i k).flatMap cn))∧x0= .os 3 2 0 (ws.length+k):=by
   rcases fk with⟨e,_⟩|⟨_,h⟩
   ·omega
   ·exact h
  refine cL (bG _ _ ?_)
  refine aj (EN ·) ?_
  refine bI hp (τ':=aG [(4,.os 3 2 0 (ws.length+k))]) (H':=[.dead,.dead,.cells (au ((ws++bK kind i k).flatMap cn))]) ?_ ?_
  ·refine ns [0,1,2] ?_
   refine wz ?_
   exact D3
  refine bh ?_
  refine c8 (t:=4) rfl ?_
  show ∃_,_
  exact⟨(),rfl,rfl⟩
def yqs(ws:List aB)(kind i:Int)(w:Nat)(x:AV)(S':ak):Prop:=∃z:Unit,x= .os 3 3 0 (ws.length+w)∧S'=[.dead,.dead,.dead,.cells (au ((ws++bK kind i w).flatMap cn))]
theorem jqv(ws:List aB)(kind i:Int)(w:Nat)(h0:1≤w)(h1:w≤1000)(hl:ws.length≤100000):cM prog [0,1,2] 78 [.os 3 2 0 ws.length,.agg [.d (iD kind),.d (iD i),.d (iD w)]] ([.dead,.dead,.cells (au (ws.flatMap cn)),.free]) (yqs ws kind i w):=by
 refine fV (fn:=f78) (by kernel_rfl) func78 rfl (bN rfl) fun c hc hp=>?_
 refine oc ?_
 refine aj (pW ·) ?_
 refine aH fun K2 bG=>?_
 refine aj (EN ·) ?_
 refine aW ?_
 refine c9 hp (fun τ' H' mm=>∃(k:Nat) (o0 o1:bq) (x0:AV),(k≤w∧((k=0∧o0= .cells (au (ws.flatMap cn))∧o1= .free∧x0= .os 3 2 0 ws.length)∨(1≤k∧o0= .dead∧o1= .cells (au ((ws++bK kind i k).flatMap cn))∧x0= .os 3 3 0 (ws.length+k))))∧mm=w - k∧H'=[.dead,.dead,o0,o1,.cells [.d (iD kind),.d (iD i),.d (iD w)]]∧τ'=aG [(0,x0),(3,.op 4 0),(5,.d (iD k))]) (w) ?_ ⟨0,.cells (au (ws.flatMap cn)),.free,.os 3 2 0 ws.length,⟨cy _,.inl ⟨rfl,rfl,rfl,rfl⟩⟩,rfl,rfl,rfl⟩ ?_
 ·refine wz ?_
  exact D3
 rintro τ' H' mm ⟨k,o0,o1,x0,⟨hk,fk⟩,rfl,rfl,rfl⟩
 refine aH fun K4 dD=>?_
 refine aj (pW ·) ?_
 refine aX rfl (fun ht=>?_) (fun ht=>?_)
 ·have aA:k<w:=by simp at ht;omega
  have ou:ws++bK kind i (k+1)=(ws++bK kind i k)++[⟨kind,i,(k:Int)⟩]:=by rw[xh,List.append_assoc]
  refine bB (dD _ _ ?_)
  refine aH fun K6 cF=>?_
  refine aW ?_
  refine bA hp ax hc rfl fun K7 de=>?_
  rcases fk with⟨rfl,rfl,rfl,rfl⟩|⟨zR,rfl,rfl,rfl⟩
  ·refine pW ?_
   refine de _ _ (cF _ _ ?_)
   refine bA hp ax hc rfl fun K8 dC=>?_
   refine pW ?_
   refine dC _ _ ⟨_,_,_,?_,⟨0+1,.dead,_,_,⟨by omega,.inr ⟨bm _,rfl,rfl,rfl⟩⟩,rfl,rfl,rfl⟩,?_⟩
   ·first|omega|(simp only[List.length_cons];omega)|(dsimp only;omega)
   ·refine ns [0,1,2,6,4] ?_
    refine wz ?_
    refine D2 ?_;rw[ou];simp[bK,au,iD,cn]
  ·refine pW ?_
   refine de _ _ (cF _ _ ?_)
   refine bA hp ax hc rfl fun K9 cJ=>?_
   refine pW ?_
   refine cJ _ _ ⟨_,_,_,?_,⟨k+1,.dead,_,_,⟨by omega,.inr ⟨by omega,rfl,rfl,rfl⟩⟩,rfl,rfl,rfl⟩,?_⟩
   ·first|omega|(simp only[List.length_cons];omega)|(dsimp only;omega)
   ·refine ns [0,1,2,6,4] ?_
    refine wz ?_
    refine D2 ?_;rw[ou];simp[au,iD,cn]
 ·have cf:k=w:=by simp at ht;omega
  subst cf
  obtain⟨rfl,rfl,rfl⟩:o0= .dead∧o1= .cells (au ((ws++bK kind i k).flatMap cn))∧x0= .os 3 3 0 (ws.length+k):=by
   rcases fk with⟨e,_⟩|⟨_,h⟩
   ·omega
   ·exact h
  refine cL (bG _ _ ?_)
  refine aj (EN ·) ?_
  refine bI hp (τ':=aG [(4,.os 3 3 0 (ws.length+k))]) (H':=[.dead,.dead,.dead,.cells (au ((ws++bK kind i k).flatMap cn))]) ?_ ?_
  ·refine ns [0,1,2,3] ?_
   refine wz ?_
   exact D3
  refine bh ?_
  refine c8 (t:=4) rfl ?_
  show ∃_,_
  exact⟨(),rfl,rfl⟩
theorem MO{p:Pr}(h:bJ p):∀i,i≤p.ag.length→(eW p i).length≤8*i
 |0,_=>by simp[eW]
 |i+1,hi=>by have:=MO h i (by omega);have:=(Ox h (show i<p.ag.length by omega)).2;rw[eW,List.length_append,cX];omega
theorem MN{p:Pr}(h:bJ p):∀i,i≤p.ae.length→(eJ p i).length≤800+9*i
 |0,_=>by have:=MO h _ (bm _);have:=h.rl;rw[eJ];omega
 |i+1,hi=>by have:=MN h i (by omega);have:=(XG h (show i<p.ae.length by omega)).2;rw[eJ,List.length_append,List.length_append,cX,cX];omega
theorem jfl{p:Pr}(h:bJ p):∀i,i≤p.ao.length→(fq p i).length≤1700+i
 |0,_=>by have:=MN h _ (bm _);have:=h.tl;rw[fq];omega
 |i+1,hi=>by have:=jfl h i (by omega);rw[fq,List.length_append,cX];omega
theorem yh{p q:Prop}(hq:q)(h:p=q:=by
 conv=>lhs;simp -dsimp -implicitDefEqProofs (disch:=first|assumption|omega|(simp only[aK,dK,dT,dS,aT,cX]<;>omega)|decide) only[aP,↓reduceIte,Nat.reduceEqDiff,Nat.reduceAdd,D.fix,Int.reduceToNat,Nat.reduceMul,Nat.reduceBNe,Nat.reduceBEq,sD,cv,aD,cH,bw]):p:=h.mpr hq
theorem Cm{m:List Nat}{τ τ':Fr}{H H':ak}(h2:H=H')(h:fm τ τ':=by
 repeat (first|exact bT _|refine bM ?_ (by first|rfl|(simp[aR,dK,dT,dS,aT,cX];done)|simp[aR,dK,dT,dS,aT,cX, *]))):Rt m τ H τ' H':=Rt.end h h2
theorem KM{p q:Prop}(hq:q)(h:p=q:=by
 conv=>lhs;simp -dsimp -implicitDefEqProofs (disch:=first|assumption|omega|(simp only[aK,dK,dT,dS,aT,cX]<;>omega)|decide) only[aP,↓reduceIte,Nat.reduceEqDiff,Nat.reduceAdd,D.fix,Int.reduceToNat,Nat.reduceMul,Nat.reduceBNe,Nat.reduceBEq,sD,cv,aD,cH]):p:=h.mpr hq
theorem XF{p q:Prop}(hq:q)(h:p=q:=by
 conv=>lhs;simp -dsimp -implicitDefEqProofs (disch:=first|assumption|omega|(simp only[aK,dK,dT,dS,aT,cX]<;>omega)|decide) only[aP,↓reduceIte,Nat.reduceEqDiff,Nat.reduceAdd,D.fix,Int.reduceToNat,Nat.reduceMul,Nat.reduceBNe,Nat.reduceBEq,sD,cv,aD,cH,XH,bw]):p:=h.mpr hq
theorem D1{P:Program}{sm:List Nat}{N:Nat}{τ:Fr}{H:ak}{f:FuncId}{args:List AV}{K0 KK:AV→ak→Prop}{ks:List Nat}(S T:ak)(h:cM P ks f args S K0)(hK:∀x S',K0 x S'→S'.length=S.length∧KK x (S'++T))(hH:H=S++T:=by
 rfl) (hm:sm.all (aJ ks S.length)=true:=by
 first|rfl|(simp[AV.ah,AV.allI,bc,bg,bf,aJ,aN,aY,aZ,fj];done)|(intro o ho;simp at ho;done)) (hτ:∀t,(τ t).allI (aJ ks S.length)=true:=by
 exact fun t=>fU (by first|rfl|(simp[AV.ah,AV.allI,bc,bg,bf,aJ,aN,aY,aZ,fj];done)|(intro o ho;simp at ho;done)) t) (ha:AV.ah (aN S.length) args=true:=by
 first|rfl|(simp[AV.ah,AV.allI,bc,bg,bf,aJ,aN,aY,aZ,fj];done)|(intro o ho;simp at ho;done)) (hS:∀o∈S,o.allI (aN S.length)=true:=by
 first|rfl|(simp[AV.ah,AV.allI,bc,bg,bf,aJ,aN,aY,aZ,fj];done)|(intro o ho;simp at ho;done)) (hT:∀o∈T,o.allI (aJ ks S.length)=true:=by
 first|rfl|(simp[AV.ah,AV.allI,bc,bg,bf,aJ,aN,aY,aZ,fj];done)|(intro o ho;simp at ho;done)):kC P sm N H τ (.d (.val (.func (.func f) #[] #[]))) args true (tg KK):=r7 h hH hm hτ ha hS hT hK
theorem Ow{p q:Prop}(hq:q)(h:p=q:=by
 conv=>lhs;simp -dsimp -implicitDefEqProofs (disch:=first|assumption|omega|(simp only[aK,dK,dT,dS,aT,cX]<;>omega)|decide) only[aP,↓reduceIte,Nat.reduceEqDiff,Nat.reduceAdd,D.fix,Int.reduceToNat,Nat.reduceMul,Nat.reduceBNe,Nat.reduceBEq,sD,cv,aD,cH,ymr,bw]):p:=h.mpr hq
theorem JS{p:Prop}(h:p:=by
 first|rfl|(simp only[cD,Nat.reduceAdd,↓reduceIte,Nat.reduceEqDiff,sD,cv,aD,cH];first|done|rfl)):p:=h
theorem xv{p q:Prop}(hq:q)(h:p=q:=by
 conv=>lhs;simp only[cD,Nat.reduceAdd,↓reduceIte,Nat.reduceEqDiff,sD,cv,aD,cH]):p:=h.mpr hq
theorem jnb(p:Pr)(h:bJ p):cC prog 21 [cv p] (.d (cH (dN p))):=by
 have jR:=h.rl;have vt:=h.tl;have wI:=h.ql
 refine ez (fn:=f21) (by kernel_rfl) func21 rfl (bN rfl) fun c hc hp=>?_
 refine dG (τ':=aG [(0,.d (cv p))]) (by repeat (first|exact bT _|refine bM ?_ (by first|rfl|(simp[aR,dK,dT,dS,aT,cX];done)|simp[aR,dK,dT,dS,aT,cX, *]))) ?_
 refine aj (yh ·) ?_
 refine aj (yh ·) ?_
 refine aH fun K3 bS=>?_
 refine bI hp (τ':=aG [(1,.op 2 0),(3,.os 3 0 0 0)]) (H':=[.cells [],.free,.cells (au (aD p))]) ?_ ?_
 ·refine Rt.trans (Rt.lL) ?_
  refine ns [1,2,0] ?_
  refine Cm ?_
  exact JS
 refine aj (KM ·) ?_
 refine aW ?_
 refine c9 hp (fun τ' H' mm=>∃(i:Nat),(i≤p.ag.length)∧mm=p.ag.length - i∧H'=[.cells (au ((eW p i).flatMap cn)),.free,.cells (au (aD p))]∧τ'=aG [(1,.op 2 0),(3,.os 3 0 0 (eW p i).length),(4,.d (iD i))]) (p.ag.length) ?_ ⟨0,cy _,rfl,rfl,rfl⟩ ?_
 ·refine Cm ?_
  exact JS
 rintro τ' H' mm ⟨i,hi,rfl,rfl,rfl⟩
 refine aH fun K5 fA=>?_
 refine aj (yh ·) ?_
 refine aX rfl (fun ht=>?_) (fun ht=>?_)
 ·have aA:i<p.ag.length:=by simp at ht;omega
  have hw:=Ox h aA
  have hle:=MO h i hi
  have eU:=B9 (eW p i) 1 i (nth p.ag i).w hw.1 (by omega) (by omega)
  have cu:eW p (i+1)=eW p i++bK 1 i (nth p.ag i).w:=rfl
  have uw:(eW p i++bK 1 i (nth p.ag i).w).length=(eW p i).length+(nth p.ag i).w:=by rw[List.length_append,cX]
  refine bB (fA _ _ ?_)
  refine aH fun K7 de=>?_
  refine aW ?_
  refine bA hp ax hc rfl fun K8 dC=>?_
  refine XF ?_
  refine D1 ([.cells (au ((eW p i).flatMap cn)),.free]) ([.cells (au (aD p))]) (eU) ?_
  rintro _ _ ⟨z,rfl,rfl⟩
  refine⟨rfl,?_⟩
  refine XF ?_
  refine dC _ _ (de _ _ ?_)
  refine bA hp ax hc rfl fun K9 cJ=>?_
  refine yh ?_
  refine cJ _ _ ⟨_,_,_,?_,⟨i+1,by omega,rfl,rfl,rfl⟩,?_⟩
  ·first|omega|(simp only[List.length_cons];omega)|(dsimp only;omega)
  ·refine Rt.trans (Rt.lL) ?_
   refine ns [1,3,2] ?_
   refine Cm ?_
   refine xv ?_;rw[cu]
 ·have jI:i=p.ag.length:=by simp at ht;omega
  subst jI
  refine cL (bS _ _ ?_)
  refine aH fun kL bU=>?_
  refine aj (KM ·) ?_
  refine aW ?_
  refine c9 hp (fun τ' H' mm=>∃(i:Nat),(i≤p.ae.length)∧mm=p.ae.length - i∧H'=[.cells (au ((eJ p i).flatMap cn)),.free,.free,.cells (au (aD p))]∧τ'=aG [(1,.op 3 0),(3,.os 3 0 0 (eJ p i).length),(5,.d (iD i))]) (p.ae.length) ?_ ⟨0,cy _,rfl,rfl,rfl⟩ ?_
  ·refine Rt.trans (Rt.lL) ?_
   refine ns [0,1,3,2] ?_
   refine Cm ?_
   refine xv ?_;simp[eJ]
  rintro τ' H' mm ⟨i,hi,rfl,rfl,rfl⟩
  refine aH fun nk cU=>?_
  refine aj (yh ·) ?_
  refine aX rfl (fun ht=>?_) (fun ht=>?_)
  ·have aA:i<p.ae.length:=by simp at ht;omega
   have hw:=XG h aA
   have hle:=MN h i hi
   have eU:=B9 (eJ p i) 2 i (nth p.ae i).w hw.1 (by omega) (by omega)
   obtain⟨A,hA⟩:∃A,A=eJ p i++bK 2 i (nth p.ae i).w:=⟨_,rfl⟩
   have Dd:A.length=(eJ p i).length+(nth p.ae i).w:=by rw[hA,List.length_append,cX]
   unfold JT at eU
   rw[←hA,←Dd]at eU
   have nL:=MP A 3 i 1 (bm _) (by decide) (by omega)
   have cu:eJ p (i+1)=A++bK 3 i 1:=by rw[hA];rfl
   have uw:(A++bK 3 i 1).length=A.length+1:=by rw[List.length_append,cX]
   clear hA
   refine bB (cU _ _ ?_)
   refine aH fun rM dI=>?_
   refine aW ?_
   refine bA hp ax hc rfl fun tG ea=>?_
   refine Ow ?_
   refine D1 ([.cells (au ((eJ p i).flatMap cn)),.free]) ([.free,.cells (au (aD p))]) (eU) ?_
   rintro _ _ ⟨z,rfl,rfl⟩
   refine⟨rfl,?_⟩
   refine Ow ?_
   refine D1 ([.dead,.cells (au (A.flatMap cn)),.free]) ([.cells (au (aD p))]) (nL) ?_
   rintro _ _ ⟨z,rfl,rfl⟩
   refine⟨rfl,?_⟩
   refine Ow ?_
   refine ea _ _ (dI _ _ ?_)
   refine bA hp ax hc rfl fun pM df=>?_
   refine yh ?_
   refine df _ _ ⟨_,_,_,?_,⟨i+1,by omega,rfl,rfl,rfl⟩,?_⟩
   ·first|omega|(simp only[List.length_cons];omega)|(dsimp only;omega)
   ·refine Rt.trans (Rt.lL) ?_
    refine Rt.trans (Rt.lL) ?_
    refine ns [2,4,5,3] ?_
    refine Cm ?_
    refine xv ?_;rw[cu]
  ·have jI:i=p.ae.length:=by simp at ht;omega
   subst jI
   refine cL (bU _ _ ?_)
   refine aH fun tF eh=>?_
   refine aj (KM ·) ?_
   refine aW ?_
   refine c9 hp (fun τ' H' mm=>∃(i:Nat),(i≤p.ao.length)∧mm=p.ao.length - i∧H'=[.cells (au ((fq p i).flatMap cn)),.free,.cells (au (aD p))]∧τ'=aG [(1,.op 2 0),(3,.os 3 0 0 (fq p i).length),(6,.d (iD i))]) (p.ao.length) ?_ ⟨0,cy _,rfl,rfl,rfl⟩ ?_
   ·refine ns [0,1,3] ?_
    refine Cm ?_
    refine xv ?_;simp[fq]
   rintro τ' H' mm ⟨i,hi,rfl,rfl,rfl⟩
   refine aH fun wT fC=>?_
   refine aj (yh ·) ?_
   refine aX rfl (fun ht=>?_) (fun ht=>?_)
   ·have aA:i<p.ao.length:=by simp at ht;omega
    have hle:=jfl h i hi
    have eU:=B9 (fq p i) 4 i 1 (bm _) (by decide) (by omega)
    have cu:fq p (i+1)=fq p i++bK 4 i 1:=rfl
    have uw:(fq p i++bK 4 i 1).length=(fq p i).length+1:=by rw[List.length_append,cX]
    refine bB (fC _ _ ?_)
    refine aH fun yU ib=>?_
    refine aW ?_
    refine bA hp ax hc rfl fun wS fB=>?_
    refine yh ?_
    refine D1 ([.cells (au ((fq p i).flatMap cn)),.free]) ([.cells (au (aD p))]) (eU) ?_
    rintro _ _ ⟨z,rfl,rfl⟩
    refine⟨rfl,?_⟩
    refine yh ?_
    refine fB _ _ (ib _ _ ?_)
    refine bA hp ax hc rfl fun yd gw=>?_
    refine yh ?_
    refine gw _ _ ⟨_,_,_,?_,⟨i+1,by omega,rfl,rfl,rfl⟩,?_⟩
    ·first|omega|(simp only[List.length_cons];omega)|(dsimp only;omega)
    ·refine Rt.trans (Rt.lL) ?_
     refine ns [1,3,2] ?_
     refine Cm ?_
     refine xv ?_;rw[cu]
   ·have jI:i=p.ao.length:=by simp at ht;omega
    subst jI
    refine cL (eh _ _ ?_)
    refine aj (KM ·) ?_
    refine bh ?_
    show aC _ _=_
    simp (disch:=first|assumption|omega|(simp only[aK,dK,dT,dS,aT,cX]<;>omega)|decide) only[gF,Nat.reduceAdd,D.fix,↓reduceIte,Nat.reduceEqDiff,sD,cv,aD,cH]
    simp[dN,Jw]
section
variable {p:Pr}
theorem yhu(h:bJ p){i:Nat}(hi:i<p.ag.length):(eL p (i+1)).out=(eL p i).out++bK 1 i (nth p.ag i).w:=by
 have hs:=(yp h hi (xg h i (by omega))).b.wid
 rw[eL];simp only[hs]
theorem yhv{i:Nat}:(jU p (i+1)).out=(jU p i).out++bK 5 i 1:=rfl
theorem yhw(h:bJ p){i:Nat}(hi:i<p.ao.length):(jq p (i+1)).out=(jq p i).out++bK 6 i 1++bK 7 i (nth p.ao i).w:=by
 have hs:=(zb h hi (yu h i (by omega))).hb.wid
 rw[jq];simp only[hs];rfl
theorem yhx(h:bJ p){i:Nat}(hi:i<p.mems.length):(gU p (i+1)).out=(gU p i).out++bK 8 i 1++bK 9 i 3++bK 10 i (nth p.mems i).w:=by
 have hs:=(za h hi (uT h i (by omega)) rfl rfl rfl rfl).hw.wid
 rw[gU];simp only[hs];rfl
end
theorem vK{p q:Prop}(hq:q)(h:p=q:=by
 conv=>lhs;simp -dsimp -implicitDefEqProofs (disch:=first|assumption|omega|(simp only[aK,dK,dT,dS,fM,aT,cX]<;>omega)|decide) only[aP,↓reduceIte,Nat.reduceEqDiff,Nat.reduceAdd,D.fix,Int.reduceToNat,Nat.reduceMul,Nat.reduceBNe,Nat.reduceBEq,sD,cv,aD,cH,bw]):p:=h.mpr hq
theorem zq{m:List Nat}{τ τ':Fr}{H H':ak}(h2:H=H')(h:fm τ τ':=by
 repeat (first|exact bT _|refine bM ?_ (by first|rfl|(simp[aR,dK,dT,dS,fM,aT,cX];done)|simp[aR,dK,dT,dS,fM,aT,cX, *]))):Rt m τ H τ' H':=Rt.end h h2
theorem GZ{p q:Prop}(hq:q)(h:p=q:=by
 conv=>lhs;simp -dsimp -implicitDefEqProofs (disch:=first|assumption|omega|(simp only[aK,dK,dT,dS,fM,aT,cX]<;>omega)|decide) only[aP,↓reduceIte,Nat.reduceEqDiff,Nat.reduceAdd,D.fix,Int.reduceToNat,Nat.reduceMul,Nat.reduceBNe,Nat.reduceBEq,sD,cv,aD,cH]):p:=h.mpr hq
theorem XE{p q:Prop}(hq:q)(h:p=q:=by
 conv=>lhs;simp -dsimp -implicitDefEqProofs (disch:=first|assumption|omega|(simp only[aK,dK,dT,dS,fM,aT,cX]<;>omega)|decide) only[aP,↓reduceIte,Nat.reduceEqDiff,Nat.reduceAdd,D.fix,Int.reduceToNat,Nat.reduceMul,Nat.reduceBNe,Nat.reduceBEq,sD,cv,aD,cH,XH,bw]):p:=h.mpr hq
theorem Ps{p q:Prop}(hq:q)(h:p=q:=by
 conv=>lhs;simp -dsimp -implicitDefEqProofs (disch:=first|assumption|omega|(simp only[aK,dK,dT,dS,fM,aT,cX]<;>omega)|decide) only[aP,↓reduceIte,Nat.reduceEqDiff,Nat.reduceAdd,D.fix,Int.reduceToNat,Nat.reduceMul,Nat.reduceBNe,Nat.reduceBEq,mz,sD,cv,aD,cH,yms,bw]):p:=h.mpr hq
theorem F7{P:Program}{sm:List Nat}{N:Nat}{τ0 τ:Fr}{H:ak}{f:FuncId}{args:List AV}{K0 KK:AV→ak→Prop}{ks:List Nat}(S T:ak)(h:cM P ks f args S K0)(hK:∀x S',K0 x S'→S'.length=S.length∧KK x (S'++T))(hH:H=S++T:=by
 rfl) (hN:S.length≤N:=by
 exact bN rfl) (hm:sm.all (aJ ks S.length)=true:=by
 first|rfl|(simp[AV.ah,AV.allI,bc,bg,bf,aJ,aN,aY,aZ,fj];done)|(intro o ho;simp at ho;done)) (hτ:∀t,(τ t).allI (aJ ks S.length)=true:=by
 exact fun t=>fU (by first|rfl|(simp[AV.ah,AV.allI,bc,bg,bf,aJ,aN,aY,aZ,fj];done)|(intro o ho;simp at ho;done)) t) (h0:∀t,(τ0 t).allI (aJ ks S.length)=true:=by
 exact fun t=>fU (by first|rfl|(simp[AV.ah,AV.allI,bc,bg,bf,aJ,aN,aY,aZ,fj];done)|(intro o ho;simp at ho;done)) t) (ha:AV.ah (aN S.length) args=true:=by
 first|rfl|(simp[AV.ah,AV.allI,bc,bg,bf,aJ,aN,aY,aZ,fj];done)|(intro o ho;simp at ho;done)) (hS:∀o∈S,o.allI (aN S.length)=true:=by
 first|rfl|(simp[AV.ah,AV.allI,bc,bg,bf,aJ,aN,aY,aZ,fj];done)|(intro o ho;simp at ho;done)) (hT:∀o∈T,o.allI (aJ ks S.length)=true:=by
 first|rfl|(simp[AV.ah,AV.allI,bc,bg,bf,aJ,aN,aY,aZ,fj];done)|(intro o ho;simp at ho;done)):kE P sm N τ0 τ H (.d (.val (.func (.func f) #[] #[]))) args (tg KK):=uL h hH hN hm hτ h0 ha hS hT hK
theorem LB{p q:Prop}(hq:q)(h:p=q:=by
 conv=>lhs;simp -dsimp -implicitDefEqProofs (disch:=first|assumption|omega|(simp only[aK,dK,dT,dS,fM,aT,cX]<;>omega)|decide) only[aP,↓reduceIte,Nat.reduceEqDiff,Nat.reduceAdd,D.fix,Int.reduceToNat,Nat.reduceMul,Nat.reduceBNe,Nat.reduceBEq,mz,sD,cv,aD,cH,ymt,bw]):p:=h.mpr hq
theorem jg8(p:Pr)(h:bJ p):cC prog 22 [cv p] (.d (cH (eV p).out)):=by
 have jR:=h.rl;have vt:=h.tl;have wI:=h.ql;have mC:=ymv h
 refine ez (fn:=f22) (by kernel_rfl) func22 rfl (bN rfl) fun c hc hp=>?_
 refine dG (τ':=aG [(0,.d (cv p))]) (by repeat (first|exact bT _|refine bM ?_ (by first|rfl|(simp[aR,dK,dT,dS,fM,aT,cX];done)|simp[aR,dK,dT,dS,fM,aT,cX, *]))) ?_
 refine aj (vK ·) ?_
 refine aj (vK ·) ?_
 refine aH fun K3 bS=>?_
 refine bI hp (τ':=aG [(1,.op 2 0),(3,.os 3 0 0 0)]) (H':=[.cells [],.free,.cells (au (aD p))]) ?_ ?_
 ·refine Rt.trans (Rt.lL) ?_
  refine ns [1,2,0] ?_
  refine zq ?_
  exact JS
 refine aj (GZ ·) ?_
 refine aW ?_
 refine c9 hp (fun τ' H' mm=>∃(i:Nat),(i≤p.ag.length)∧mm=p.ag.length - i∧H'=[.cells (au ((eL p i).out.flatMap cn)),.free,.cells (au (aD p))]∧τ'=aG [(1,.op 2 0),(3,.os 3 0 0 (eL p i).out.length),(4,.d (iD i))]) (p.ag.length) ?_ ⟨0,cy _,rfl,rfl,rfl⟩ ?_
 ·refine zq ?_
  exact JS
 rintro τ' H' mm ⟨i,hi,rfl,rfl,rfl⟩
 refine aH fun K5 fA=>?_
 refine aj (vK ·) ?_
 refine aX rfl (fun ht=>?_) (fun ht=>?_)
 ·have aA:i<p.ag.length:=by simp at ht;omega
  have hw:=Ox h aA
  have hle:=MH h i hi
  obtain⟨B,hB⟩:∃B,B=(eL p i).out:=⟨_,rfl⟩
  rw[←hB]at hle
  have eU:=B9 B 1 i (nth p.ag i).w hw.1 (by omega) (by omega)
  have cu:=yhu h aA
  rw[←hB]at cu
  rw[←hB]
  have uw:(B++bK 1 i (nth p.ag i).w).length=B.length+(nth p.ag i).w:=by rw[List.length_append,cX]
  clear hB
  refine bB (fA _ _ ?_)
  refine aH fun K7 de=>?_
  refine aW ?_
  refine bA hp ax hc rfl fun K8 dC=>?_
  refine XE ?_
  refine D1 ([.cells (au (B.flatMap cn)),.free]) ([.cells (au (aD p))]) (eU) ?_
  rintro _ _ ⟨z,rfl,rfl⟩
  refine⟨rfl,?_⟩
  refine XE ?_
  refine dC _ _ (de _ _ ?_)
  refine bA hp ax hc rfl fun K9 cJ=>?_
  refine vK ?_
  refine cJ _ _ ⟨_,_,_,?_,⟨i+1,by omega,rfl,rfl,rfl⟩,?_⟩
  ·first|omega|(simp only[List.length_cons];omega)|(dsimp only;omega)
  ·refine Rt.trans (Rt.lL) ?_
   refine ns [1,3,2] ?_
   refine zq ?_
   refine xv ?_;rw[cu]
 ·have jI:i=p.ag.length:=by simp at ht;omega
  subst jI
  refine cL (bS _ _ ?_)
  refine aH fun kL bU=>?_
  refine aj (GZ ·) ?_
  refine aW ?_
  refine c9 hp (fun τ' H' mm=>∃(i:Nat),(i≤p.ae.length)∧mm=p.ae.length - i∧H'=[.cells (au ((jU p i).out.flatMap cn)),.free,.cells (au (aD p))]∧τ'=aG [(1,.op 2 0),(3,.os 3 0 0 (jU p i).out.length),(5,.d (iD i))]) (p.ae.length) ?_ ⟨0,cy _,rfl,rfl,rfl⟩ ?_
  ·refine zq ?_
   rfl
  rintro τ' H' mm ⟨i,hi,rfl,rfl,rfl⟩
  refine aH fun nk cU=>?_
  refine aj (vK ·) ?_
  refine aX rfl (fun ht=>?_) (fun ht=>?_)
  ·have aA:i<p.ae.length:=by simp at ht;omega
   have hle:=MF h i hi
   obtain⟨B,hB⟩:∃B,B=(jU p i).out:=⟨_,rfl⟩
   rw[←hB]at hle
   have eU:=B9 B 5 i 1 (bm _) (by decide) (by omega)
   have cu:=yhv (p:=p) (i:=i)
   rw[←hB]at cu
   rw[←hB]
   have uw:(B++bK 5 i 1).length=B.length+1:=by rw[List.length_append,cX]
   clear hB
   refine bB (cU _ _ ?_)
   refine aH fun rM dI=>?_
   refine aW ?_
   refine bA hp ax hc rfl fun tG ea=>?_
   refine vK ?_
   refine D1 ([.cells (au (B.flatMap cn)),.free]) ([.cells (au (aD p))]) (eU) ?_
   rintro _ _ ⟨z,rfl,rfl⟩
   refine⟨rfl,?_⟩
   refine vK ?_
   refine ea _ _ (dI _ _ ?_)
   refine bA hp ax hc rfl fun pM df=>?_
   refine vK ?_
   refine df _ _ ⟨_,_,_,?_,⟨i+1,by omega,rfl,rfl,rfl⟩,?_⟩
   ·first|omega|(simp only[List.length_cons];omega)|(dsimp only;omega)
   ·refine Rt.trans (Rt.lL) ?_
    refine ns [1,3,2] ?_
    refine zq ?_
    refine xv ?_;rw[cu]
  ·have jI:i=p.ae.length:=by simp at ht;omega
   subst jI
   refine cL (bU _ _ ?_)
   refine aH fun tF eh=>?_
   refine aj (GZ ·) ?_
   refine aW ?_
   refine c9 hp (fun τ' H' mm=>∃(i:Nat),(i≤p.ao.length)∧mm=p.ao.length - i∧H'=[.cells (au ((jq p i).out.flatMap cn)),.free,.free,.cells (au (aD p))]∧τ'=aG [(1,.op 3 0),(3,.os 3 0 0 (jq p i).out.length),(6,.d (iD i))]) (p.ao.length) ?_ ⟨0,cy _,rfl,rfl,rfl⟩ ?_
   ·refine Rt.trans (Rt.lL) ?_
    refine ns [0,1,3,2] ?_
    refine zq ?_
    refine xv ?_;simp[jq]
   rintro τ' H' mm ⟨i,hi,rfl,rfl,rfl⟩
   refine aH fun wT fC=>?_
   refine aj (vK ·) ?_
   refine aX rfl (fun ht=>?_) (fun ht=>?_)
   ·have aA:i<p.ao.length:=by simp at ht;omega
    have hw:=h.qb i aA
    have hle:=ME h i hi
    have cu:=yhw h aA
    obtain⟨B,hB⟩:∃B,B=(jq p i).out:=⟨_,rfl⟩
    rw[←hB]at hle cu
    rw[←hB]
    clear hB
    have eU:=B9 B 6 i 1 (bm _) (by decide) (by omega)
    obtain⟨A,hA⟩:∃A,A=B++bK 6 i 1:=⟨_,rfl⟩
    have Dd:A.length=B.length+1:=by rw[hA,List.length_append,cX]
    unfold JT at eU
    rw[←hA,←Dd]at eU
    rw[←hA]at cu
    have nL:=MP A 7 i (nth p.ao i).w hw.1 (by omega) (by omega)
    have uw:(A++bK 7 i (nth p.ao i).w).length=A.length+(nth p.ao i).w:=by rw[List.length_append,cX]
    clear hA
    refine bB (fC _ _ ?_)
    refine aH fun yU ib=>?_
    refine aW ?_
    refine y6 ax hp hc mixed rfl [(0,[]),(1,[]),(2,[]),(4,[]),(5,[]),(6,[]),(7,[]),(8,[]),(9,[]),(10,[]),(11,[]),(3,[6,10]),(12,[]),(13,[])] [[],[],[1],[0,1,2],[],[],[5],[],[5,6,7],[5,6,7,8],[5,6,7,8,9],[4,5,6,7,8,9,10],[0,1,2,3,4,5,6,7,8,9,10,11],[0,1,2,3,4,5,6,7,8,9,10,11,12]] 0 (by kernel_rfl) fun wS fB=>?_
    refine Ps ?_
    refine F7 ([.cells (au (B.flatMap cn)),.free]) ([.free,.cells (au (aD p))]) (eU) ?_
    rintro _ _ ⟨z,rfl,rfl⟩
    refine⟨rfl,?_⟩
    refine Ps ?_
    refine F7 ([.dead,.cells (au (A.flatMap cn)),.free]) ([.cells (au (aD p))]) (nL) ?_
    rintro _ _ ⟨z,rfl,rfl⟩
    refine⟨rfl,?_⟩
    refine Ps ?_
    refine fB _ _ (ib _ _ ?_)
    refine bA hp ax hc rfl fun yd gw=>?_
    refine vK ?_
    refine gw _ _ ⟨_,_,_,?_,⟨i+1,by omega,rfl,rfl,rfl⟩,?_⟩
    ·first|omega|(simp only[List.length_cons];omega)|(dsimp only;omega)
    ·refine Rt.trans (Rt.lL) ?_
     refine Rt.trans (Rt.lL) ?_
     refine ns [2,4,5,3] ?_
     refine zq ?_
     refine xv ?_;rw[cu]
   ·have jI:i=p.ao.length:=by simp at ht;omega
    subst jI
    refine cL (eh _ _ ?_)
    refine aH fun BL iF=>?_
    refine aj (GZ ·) ?_
    refine aW ?_
    refine c9 hp (fun τ' H' mm=>∃(i:Nat),(i≤p.mems.length)∧mm=p.mems.length - i∧H'=[.cells (au ((gU p i).out.flatMap cn)),.free,.free,.free,.cells (au (aD p))]∧τ'=aG [(1,.op 4 0),(3,.os 3 0 0 (gU p i).out.length),(7,.d (iD i))]) (p.mems.length) ?_ ⟨0,cy _,rfl,rfl,rfl⟩ ?_
    ·refine Rt.trans (Rt.lL) ?_
     refine ns [0,1,2,4,3] ?_
     refine zq ?_
     refine xv ?_;simp[gU]
    rintro τ' H' mm ⟨i,hi,rfl,rfl,rfl⟩
    refine aH fun I0 iV=>?_
    refine aj (vK ·) ?_
    refine aX rfl (fun ht=>?_) (fun ht=>?_)
    ·have aA:i<p.mems.length:=by simp at ht;omega
     have hw:=ymu h aA
     have hle:=je1 h i hi
     have cu:=yhx h aA
     obtain⟨B,hB⟩:∃B,B=(gU p i).out:=⟨_,rfl⟩
     rw[←hB]at hle cu
     rw[←hB]
     clear hB
     have eU:=B9 B 8 i 1 (bm _) (by decide) (by omega)
     obtain⟨A,hA⟩:∃A,A=B++bK 8 i 1:=⟨_,rfl⟩
     have Dd:A.length=B.length+1:=by rw[hA,List.length_append,cX]
     unfold JT at eU
     rw[←hA,←Dd]at eU
     rw[←hA]at cu
     have nL:=MP A 9 i 3 (by decide) (by decide) (by omega)
     obtain⟨C,hC⟩:∃C,C=A++bK 9 i 3:=⟨_,rfl⟩
     have hCl:C.length=A.length+3:=by rw[hC,List.length_append,cX]
     unfold WE at nL
     rw[←hC,←hCl]at nL
     rw[←hC]at cu
     have hcd:=jqv C 10 i (nth p.mems i).w hw.1 (by omega) (by omega)
     have uw:(C++bK 10 i (nth p.mems i).w).length=C.length+(nth p.mems i).w:=by rw[List.length_append,cX]
     clear hA hC
     refine bB (iV _ _ ?_)
     refine aH fun Aa iU=>?_
     refine aW ?_
     refine y6 ax hp hc mixed rfl [(0,[]),(1,[]),(2,[]),(4,[]),(5,[]),(7,[]),(8,[]),(9,[]),(10,[]),(11,[]),(12,[]),(13,[]),(14,[]),(3,[9,13]),(6,[9,13]),(15,[]),(16,[])] [[],[],[1],[0,1,2],[],[4],[0,1,2,3,4,5],[],[],[8],[],[8,9,10],[8,9,10,11],[8,9,10,11,12],[7,8,9,10,11,12,13],[0,1,2,3,4,5,6,7,8,9,10,11,12,13,14],[0,1,2,3,4,5,6,7,8,9,10,11,12,13,14,15]] 0 (by kernel_rfl) fun BJ iT=>?_
     refine LB ?_
     refine F7 ([.cells (au (B.flatMap cn)),.free]) ([.free,.free,.cells (au (aD p))]) (eU) ?_
     rintro _ _ ⟨z,rfl,rfl⟩
     refine⟨rfl,?_⟩
     refine LB ?_
     refine F7 ([.dead,.cells (au (A.flatMap cn)),.free]) ([.free,.cells (au (aD p))]) (nL) ?_
     rintro _ _ ⟨z,rfl,rfl⟩
     refine⟨rfl,?_⟩
     refine LB ?_
     refine F7 ([.dead,.dead,.cells (au (C.flatMap cn)),.free]) ([.cells (au (aD p))]) (hcd) ?_
     rintro _ _ ⟨z,rfl,rfl⟩
     refine⟨rfl,?_⟩
     refine LB ?_
     refine iT _ _ (iU _ _ ?_)
     refine bA hp ax hc rfl fun IY nf=>?_
     refine vK ?_
     refine nf _ _ ⟨_,_,_,?_,⟨i+1,by omega,rfl,rfl,rfl⟩,?_⟩
     ·first|omega|(simp only[List.length_cons];omega)|(dsimp only;omega)
     ·refine Rt.trans (Rt.lL) ?_
      refine Rt.trans (Rt.lL) ?_
      refine Rt.trans (Rt.lL) ?_
      refine ns [3,5,6,7,4] ?_
      refine zq ?_
      refine xv ?_;rw[cu]
    ·have jI:i=p.mems.length:=by simp at ht;omega
     subst jI
     refine cL (iF _ _ ?_)
     refine aj (GZ ·) ?_
     refine bh ?_
     show aC _ _=_
     simp (disch:=first|assumption|omega|(simp only[aK,dK,dT,dS,fM,aT,cX]<;>omega)|decide) only[gF,Nat.reduceAdd,D.fix,↓reduceIte,Nat.reduceEqDiff,sD,cv,aD,cH]
     simp[eV,Jw]
end
theorem jqy{p:Pr}{s:im}{heads:List Head}{rooms:List Bool}(hp:fD p)(h:qt p s heads rooms):cC prog 28 [.agg (jm (qF p s heads rooms)),.agg (jm (qF p s heads rooms))] (.d (oD true)):=by
 have hs:=jwf hp h
 have h1:=hs.rl;have h2:=hs.ml
 have:=hp.r3;have:=hp.m1
 refine jw8 _ (by omega) (by omega) (fun l hl=>?_) ?_ ?_
 ·obtain⟨i,hi,rfl⟩:=List.getElem_of_mem hl
  rw[←mS hi,hs.mw i (by omega)]
  have:=(hp.mw i (by omega)).2.2
  omega
 ·rw[ud.1];have:=hp.t2;omega
 ·rw[ud.2];have:=hp.q2;omega
theorem nv{p q:Prop}(hq:q)(h:p=q:=by
 conv=>lhs;simp -dsimp -implicitDefEqProofs (disch:=first|assumption|omega|(simp only[aK,aT,bx,ft]<;>omega)|decide) only[aP,↓reduceIte,Nat.reduceEqDiff,Nat.reduceAdd,D.fix,Int.reduceToNat,Nat.reduceMul,Nat.reduceBNe,Nat.reduceBEq,cv,aD,eF,eZ,cH,jf,fG,jm,DV,eT,rW,bne_self_eq_false,sD,nS,bw]):p:=h.mpr hq
theorem XQ{p q:Prop}(hq:q)(h:p=q:=by
 conv=>lhs;simp -dsimp -implicitDefEqProofs (disch:=first|assumption|omega|(simp only[aK,aT,bx,ft]<;>omega)|decide) only[aP,↓reduceIte,Nat.reduceEqDiff,Nat.reduceAdd,D.fix,Int.reduceToNat,Nat.reduceMul,Nat.reduceBNe,Nat.reduceBEq,cv,aD,eF,eZ,cH,jf,fG,jm,DV,eT,rW,bne_self_eq_false,sD,nS]):p:=h.mpr hq
theorem Ov{p q:Prop}(hq:q)(h:p=q:=by
 conv=>lhs;simp -dsimp -implicitDefEqProofs (disch:=first|assumption|omega|(simp only[aK,aT,bx,ft]<;>omega)|decide) only[aP,↓reduceIte,Nat.reduceEqDiff,Nat.reduceAdd,D.fix,Int.reduceToNat,Nat.reduceMul,Nat.reduceBNe,Nat.reduceBEq,mz,cv,aD,eF,eZ,cH,jf,fG,jm,DV,eT,rW,bne_self_eq_false,sD,nS,bw]):p:=h.mpr hq
theorem ja2(x:List Int)(hx:mR x)(vq:x.length≤maxLen)(b:List Int)(hb:mR b)(pC:b.length≤maxLen)(b2:List Int)(It:mR b2)(Rp:b2.length≤maxLen):cC prog 4 [.agg [aE x],.agg [aE b,aE b2]] (.d (oD true)):=by
 refine ez (fn:=f4) (by kernel_rfl) func4 rfl (bN rfl) fun c hc hp=>?_
 refine dG (τ':=aG [(0,.d (.agg [aE x])),(1,.d (.agg [aE b,aE b2]))]) (by repeat (first|exact bT _|refine bM ?_ (by first|rfl|(simp[aR,aT,bx,ft];done)|simp[aR,aT,bx,ft, *]))) ?_
 refine aj (nv ·) ?_
 refine bC hp ax hc rfl fun K2 bG=>?_
 refine XQ ?_
 refine cQ (zyr) rfl ?_
 refine XQ ?_
 refine bG _ _ ?_
 refine aH fun K3 bS=>?_
 refine aj (nv ·) ?_
 refine eC ?_
 refine bB (bS _ _ ?_)
 refine bC hp ax hc rfl fun K5 fA=>?_
 refine nv ?_
 refine yab (jv8 x hx vq) rfl fun r hr=>?_
 obtain⟨p,hP,rfl⟩:=hr
 refine nv ?_
 refine fA _ _ ?_
 refine jN ax hp hc mixed rfl [(0,[]),(1,[]),(2,[]),(4,[]),(5,[]),(6,[]),(8,[]),(9,[]),(3,[4,6]),(7,[]),(10,[]),(11,[])] [[],[],[1],[0,1,2],[],[],[5],[0,1,2,3,4,5,6],[],[],[0,1,2,3,4,5,6,7,8,9],[0,1,2,3,4,5,6,7,8,9,10]] 2 (by kernel_rfl) fun K6 cF=>?_
 refine Ov ?_
 refine LO (jwp p hP b hb pC) rfl fun r hr=>?_
 obtain⟨s,hs,rfl⟩:=hr
 refine Ov ?_
 refine LO (yk3 p hP b2 It Rp) rfl fun r hr=>?_
 obtain⟨heads,rooms,iJ,rfl⟩:=hr
 refine Ov ?_
 refine cF _ _ ?_
 have cu:=ykt hs iJ
 have hpb:=jg6 hP
 have E4:=XM hP
 have Bo:=OV hP
 have pd:=E4.d0;have pl:=E4.dl;have pn:=E4.len;have po:=Bo.ol
 have ci:=jnb p hP.ok
 have co:=jg8 p hP.ok
 rw[show dN p=(eV p).ins from rfl]at ci
 have w1:=I9 (eV p).ins (by omega)
 have w2:=I9 (eV p).out (by omega)
 have ki:=yfn p hP s heads rooms cu
 have gb:(oF s heads rooms (dN p)).length=(eV p).ins.length:=uW _ _ _ _
 have Rf:FL (2+(oF s heads rooms (dN p)).length) (eV p).aO:=by rw[gb];exact Bo.g
 have kv:=jl7 (eV p) (oF s heads rooms (dN p)) s.mems Rf (by rw[gb];omega) (by omega)
 have QC:=jlr (eV p).aO (oF s heads rooms (dN p)) s.mems
 have kd:=yfo (eV p) (BT (eV p).aO (oF s heads rooms (dN p)) s.mems) (by rw[QC,gb];exact Bo.d) (by rw[QC,gb];omega) pl
 rw[jwb hP.ok cu (Qm hP)]at kd
 have kf:=yfs p hP s hs (eV p).out (j8 p s heads rooms) (fun w hw=>⟨ye4 hP.ok hw,(Bo.wo w hw).b0,(Bo.wo w hw).b7⟩) po
 rw[jpk hP cu]at kf
 have ks:=yhg hP cu
 have ke:=jqy hP cu
 generalize qF p s heads rooms=f at *
 generalize BT (eV p).aO (oF s heads rooms (dN p)) s.mems=ev at *
 generalize(eV p).out.map (j8 p s heads rooms)=dv at *
 refine bC hp ax hc rfl fun K7 de=>?_
 refine nv ?_
 refine cQ (hpb) rfl ?_
 refine nv ?_
 refine de _ _ ?_
 refine aH fun K8 dC=>?_
 refine eN ax hc mixed rfl (q:=0) (by kernel_rfl) (by kernel_rfl) fun K9 cJ=>?_
 refine nv ?_
 refine cQ (jx9 _ E4) rfl ?_
 refine nv ?_
 refine cQ (ci) rfl ?_
 refine nv ?_
 refine cQ (w1) rfl ?_
 refine nv ?_
 refine cQ (co) rfl ?_
 refine nv ?_
 refine cQ (w2) rfl ?_
 refine nv ?_
 refine cJ _ _ ?_
 refine eC ?_
 refine bB (dC _ _ ?_)
 refine eN ax hc mixed rfl (q:=0) (by kernel_rfl) (by kernel_rfl) fun kL bU=>?_
 refine nv ?_
 refine cQ (ki) rfl ?_
 refine nv ?_
 refine cQ (kv) rfl ?_
 refine nv ?_
 refine bU _ _ ?_
 refine eN ax hc mixed rfl (q:=2) (by kernel_rfl) (by kernel_rfl) fun lz cm=>?_
 refine nv ?_
 refine cQ (kd) rfl ?_
 refine nv ?_
 refine cQ (kf) rfl ?_
 refine nv ?_
 refine cQ (ks) rfl ?_
 refine nv ?_
 refine cm _ _ ?_
 refine aj (nv ·) ?_
 refine bC hp ax hc rfl fun rN dQ=>?_
 refine nv ?_
 refine cQ (ke) rfl ?_
 refine nv ?_
 refine dQ _ _ ?_
 refine bh ?_
 show aC _ _=_
 simp (disch:=first|assumption|omega|(simp only[aK,aT,bx,ft]<;>omega)|decide) only[gF,Nat.reduceAdd,D.fix,↓reduceIte,Nat.reduceEqDiff,cv,aD,eF,eZ,cH,jf,fG,jm,DV,eT,rW,bne_self_eq_false,sD,nS]
end Go.Proofs.YtapjobndmmkanaaGreat
