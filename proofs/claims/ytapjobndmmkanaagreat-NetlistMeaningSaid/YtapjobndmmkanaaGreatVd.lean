/- Of no program: an entry of a map that is there already is set anew. -/
import Derived.Test.YtapjobndmmkanaaGreatAZ
import Derived.Test.YtapjobndmmkanaaGreatQr
import Derived.Test.YtapjobndmmkanaaGreatOe
import Derived.Test.YtapjobndmmkanaaGreatDb
import Derived.Test.YtapjobndmmkanaaGreatTy
import Derived.Test.YtapjobndmmkanaaGreatVc
set_option linter.unusedVariables false
set_option linter.unusedSimpArgs false
namespace Go.Proofs.YtapjobndmmkanaaGreat
open Go.Proofs.Tryz
open Go Go.RowKit
section
section
variable {P:Program} {KT:TypeId→Bool} {H:ak}
end
set_option maxRecDepth 100000
set_option maxHeartbeats 4000000
end
theorem ypk:(type_of% @JM):=@JM
theorem ypl:(type_of% @DT):=@DT
def yK(w:aB)(kind i:Int):Bool:=decide (w.kind=kind)&&decide (w.i=i)
structure Fl where
 x8:Bool
 st:im
 ot:List Bool
 ao:List Head
 deriving Inhabited
def jm(f:Fl):List D:=[oD f.x8,av f.st.ag,ai f.st.mems,bn f.ot,eT f.ao]
theorem ypm:(type_of% @xe):=@xe
theorem Rt.lL{m:List Nat}{τ:Fr}{H:ak}:Rt m τ H τ (H++[.free]):=fun c a w _ h=>R.eu 1 H h
theorem jvx{i:Nat}(h:i<10):([.d (.val (.int .i64 2)),.d (.val (.int .i64 3)),.d (.val (.int .i64 4)),.d (.val (.int .i64 5)),.d (.val (.int .i64 6)),.d (.val (.int .i64 7)),.d (.val (.int .i64 10)),.d (.val (.int .i64 8)),.d (.val (.int .i64 9)),.d (.val (.int .i64 11))]:List AV)[i]? =some (.d (.val (.int .i64 (nth ([2,3,4,5,6,7,10,8,9,11]:List Int) i)))):=by
 rcases(show i=0∨i=1∨i=2∨i=3∨i=4∨i=5∨i=6∨i=7∨i=8∨i=9 by omega)with rfl|rfl|rfl|rfl|rfl|rfl|rfl|rfl|rfl|rfl<;>rfl
def Dk(m k:Nat):Nat:=k*m
theorem yj7(m:Nat):Dk m 0=0:=Nat.zero_mul m
theorem yj8(m k:Nat):Dk m (k+1)=Dk m k+m:=Nat.succ_mul k m
theorem YG{m k:Nat}(h:k≤3):Dk m k≤3*m:=Nat.mul_le_mul_right m h
def RZ(w:Nat)(o:Int)(ws:List Nat):Prop:=(o=2∧ws=[w])∨((o=3∨o=4∨o=5∨o=6∨o=7)∧ws=[w,w])∨(o=10∧ws=[1,w,w])∨((o=8∨o=9)∧w=1∧∃u,1≤u∧u≤3∧ws=[u,u])∨(o=11∧1<w∧ws=[w - 1,1])
theorem ycw{w:Nat}{o:Int}{ws:List Nat}(h:RZ w o ws)(hw:1≤w):ws.length≤3∧∀k,k<ws.length→1≤nth ws k∧(nth ws k≤w∨nth ws k≤3):=by
 rcases h with⟨_,rfl⟩|⟨_,rfl⟩|⟨_,rfl⟩|⟨_,_,u,h1,h2,rfl⟩|⟨_,h1,rfl⟩<;>refine⟨by simp,fun k hk=>?_⟩<;>simp only[List.length_cons,List.length_nil]at hk<;>rcases(show k=0∨k=1∨k=2 by omega)with rfl|rfl|rfl<;>simp[nth]<;>omega
theorem yj9{l:List Ex}(h:l.length=1):l=[nth l 0]:=by
 match l,h with
 |[a],_=>rfl
theorem PS{l:List Ex}(h:l.length=2):l=[nth l 0,nth l 1]:=by
 match l,h with
 |[a,b],_=>rfl
theorem ycx{l:List Ex}(h:l.length=3):l=[nth l 0,nth l 1,nth l 2]:=by
 match l,h with
 |[a,b,c],_=>rfl
theorem ycy{C:Ct}{q:Bool}(hC:kN C){w n:Nat}{o:Int}{ws:List Nat}{l:List Ex}(h:RZ w o ws)(hl:l.length=ws.length)(hf:∀k,k<ws.length→Fit C q (nth ws k) n (nth l k))(rp:w≤8):∃e,Fit C q w (3*n+32) e∧bW e=cg o 0 0 (l.flatMap bW) l.length:=by
 rcases h with⟨rfl,rfl⟩|⟨ho,rfl⟩|⟨rfl,rfl⟩|⟨ho,rfl,u,h1,h2,rfl⟩|⟨rfl,h1,rfl⟩
 ·have f0:=hf 0 (by simp)
  have el:=yj9 hl
  obtain⟨t0,w0,n0⟩:=f0
  refine⟨.not (nth l 0),⟨t0,w0,?_⟩,by rw[el];simp[bW,nth]⟩
  simp only[bQ]
  simp[nth]at w0 n0 ⊢
  omega
 ·obtain⟨t0,w0,n0⟩:=hf 0 (by simp)
  obtain⟨t1,w1,n1⟩:=hf 1 (by simp)
  have el:=PS hl
  have qj:aM C (nth l 0)=w:=w0
  have uc:aM C (nth l 1)=w:=w1
  rcases ho with rfl|rfl|rfl|rfl|rfl
  ·exact⟨.two 3 (nth l 0) (nth l 1),⟨⟨by simp,t0,t1,by rw[qj,uc]⟩,qj,by simp only[bQ];omega⟩,by rw[el];simp[bW,nth]⟩
  ·exact⟨.two 4 (nth l 0) (nth l 1),⟨⟨by simp,t0,t1,by rw[qj,uc]⟩,qj,by simp only[bQ];omega⟩,by rw[el];simp[bW,nth]⟩
  ·exact⟨.two 5 (nth l 0) (nth l 1),⟨⟨by simp,t0,t1,by rw[qj,uc]⟩,qj,by simp only[bQ];omega⟩,by rw[el];simp[bW,nth]⟩
  ·exact⟨.add (nth l 0) (nth l 1),⟨⟨t0,t1,by rw[qj,uc]⟩,qj,by simp only[bQ];omega⟩,by rw[el];simp[bW,nth]⟩
  ·exact⟨.sub (nth l 0) (nth l 1),⟨⟨t0,t1,by rw[qj,uc]⟩,qj,by simp only[bQ];omega⟩,by rw[el];simp[bW,nth]⟩
 ·obtain⟨t0,w0,n0⟩:=hf 0 (by simp)
  obtain⟨t1,w1,n1⟩:=hf 1 (by simp)
  obtain⟨t2,w2,n2⟩:=hf 2 (by simp)
  have el:=ycx hl
  have qj:aM C (nth l 0)=1:=w0
  have uc:aM C (nth l 1)=w:=w1
  have w2':aM C (nth l 2)=w:=w2
  exact⟨.lU (nth l 0) (nth l 1) (nth l 2),⟨⟨t0,t1,t2,qj,by rw[uc,w2']⟩,uc,by simp only[bQ];omega⟩,by rw[el];simp[bW,nth]⟩
 ·obtain⟨t0,w0,n0⟩:=hf 0 (by simp)
  obtain⟨t1,w1,n1⟩:=hf 1 (by simp)
  have el:=PS hl
  have qj:aM C (nth l 0)=u:=w0
  have uc:aM C (nth l 1)=u:=w1
  rcases ho with rfl|rfl
  ·exact⟨.eq (nth l 0) (nth l 1),⟨⟨t0,t1,by rw[qj,uc]⟩,rfl,by simp only[bQ];omega⟩,by rw[el];simp[bW,nth]⟩
  ·exact⟨.lt (nth l 0) (nth l 1),⟨⟨t0,t1,by rw[qj,uc]⟩,rfl,by simp only[bQ];omega⟩,by rw[el];simp[bW,nth]⟩
 ·obtain⟨t0,w0,n0⟩:=hf 0 (by simp)
  obtain⟨t1,w1,n1⟩:=hf 1 (by simp)
  have el:=PS hl
  have qj:aM C (nth l 0)=w - 1:=w0
  have uc:aM C (nth l 1)=1:=w1
  exact⟨.cat (nth l 0) (nth l 1),⟨⟨t0,t1,by rw[qj,uc];omega⟩,by show aM C (nth l 0)+aM C (nth l 1)=w;rw[qj,uc];omega,by simp only[bQ];omega⟩,by rw[el];simp[bW,nth]⟩
def er:bq:=.cells [.d (iD 0),.d nS,.d (iD 0),.d nS,.d (iD 0),.d nS,.d (.val (.slice none 0 0)),.d (.val (.slice none 0 0)),.d (iD 0)]
theorem lC{p q:Prop}(hq:q)(h:p=q:=by
 conv=>lhs;simp -dsimp -implicitDefEqProofs (disch:=first|assumption|omega|(simp only[aK,jV,gP]<;>omega)|decide) only[aP,↓reduceIte,Nat.reduceEqDiff,Nat.reduceAdd,D.fix,Int.reduceToNat,Nat.reduceMul,Nat.reduceBNe,Nat.reduceBEq,fF,bo,cY,nI,cg,er,gJ,gI,Int.reduceBEq,Int.reduceToNat,Bool.not_true,Bool.not_false,bw]):p:=h.mpr hq
theorem uP{p q r:Prop}(e:r)(hq:q)(h:r→p=q:=by
 intro hY
 conv=>lhs;simp -dsimp -implicitDefEqProofs (disch:=first|assumption|omega|(simp only[aK,jV,gP]<;>omega)|decide) only[aP,↓reduceIte,Nat.reduceEqDiff,Nat.reduceAdd,D.fix,Int.reduceToNat,Nat.reduceMul,Nat.reduceBNe,Nat.reduceBEq,fF,bo,cY,nI,cg,er,gJ,gI,Int.reduceBEq,Int.reduceToNat,Bool.not_true,Bool.not_false,bw,hY]):p:=(h e).mpr hq
theorem YF{p q r:Prop}(e:r)(hq:q)(h:r→p=q:=by
 intro hY
 conv=>lhs;simp -dsimp -implicitDefEqProofs (disch:=first|assumption|omega|(simp only[aK,jV,gP]<;>omega)|decide) only[aP,↓reduceIte,Nat.reduceEqDiff,Nat.reduceAdd,D.fix,Int.reduceToNat,Nat.reduceMul,Nat.reduceBNe,Nat.reduceBEq,mz,fF,bo,cY,nI,cg,er,gJ,gI,Int.reduceBEq,Int.reduceToNat,Bool.not_true,Bool.not_false,bw,hY]):p:=(h e).mpr hq
theorem W8{P:Program}{sm:List Nat}{N:Nat}{τ0 τ:Fr}{H:ak}{f:FuncId}{args:List AV}{K0 KK:AV→ak→Prop}{ks:List Nat}(S T:ak)(h:cM P ks f args S K0)(hK:∀x S',K0 x S'→S'.length=S.length∧KK x (S'++T))(hH:H=S++T:=by
 rfl) (hN:S.length≤N:=by
 exact bN rfl) (hm:sm.all (aJ ks S.length)=true:=by
 first|rfl|(simp[AV.ah,AV.allI,bc,bg,bf,aJ,aN,aY,aZ,er,fj,cY,bo];done)|(intro o ho;simp at ho;done)) (hτ:∀t,(τ t).allI (aJ ks S.length)=true:=by
 exact fun t=>fU (by first|rfl|(simp[AV.ah,AV.allI,bc,bg,bf,aJ,aN,aY,aZ,er,fj,cY,bo];done)|(intro o ho;simp at ho;done)) t) (h0:∀t,(τ0 t).allI (aJ ks S.length)=true:=by
 exact fun t=>fU (by first|rfl|(simp[AV.ah,AV.allI,bc,bg,bf,aJ,aN,aY,aZ,er,fj,cY,bo];done)|(intro o ho;simp at ho;done)) t) (ha:AV.ah (aN S.length) args=true:=by
 first|rfl|(simp[AV.ah,AV.allI,bc,bg,bf,aJ,aN,aY,aZ,er,fj,cY,bo];done)|(intro o ho;simp at ho;done)) (hS:∀o∈S,o.allI (aN S.length)=true:=by
 first|rfl|(simp[AV.ah,AV.allI,bc,bg,bf,aJ,aN,aY,aZ,er,fj,cY,bo];done)|(intro o ho;simp at ho;done)) (hT:∀o∈T,o.allI (aJ ks S.length)=true:=by
 first|rfl|(simp[AV.ah,AV.allI,bc,bg,bf,aJ,aN,aY,aZ,er,fj,cY,bo];done)|(intro o ho;simp at ho;done)):kE P sm N τ0 τ H (.d (.val (.func (.func f) #[] #[]))) args (tg KK):=uL h hH hN hm hτ h0 ha hS hT hK
theorem uk(k:List Nat){m:List Nat}{τ τ1:Fr}{H H1:ak}(h:Rt m (fun t=>c7 k (τ t)) (dg k H) τ1 H1)(a:∀i∈m,k[i]? =some i:=by decide)(b:k.Nodup:=by decide)(c:∀i∈k,i<H.length:=by
 simp[eS,dg]):Rt m τ H τ1 H1:=Rt.trans (Rt.gc a b c) h
theorem su{m:List Nat}{τ τ':Fr}{H H':ak}(h2:H=H')(h:fm τ τ':=by
 repeat (first|exact bT _|refine bM ?_ (by first|rfl|(simp[aR,jV,gP];done)|simp[aR,jV,gP, *]))):Rt m τ H τ' H':=Rt.end h h2
theorem Lh{p q:Prop}(hq:q)(h:p=q:=by
 conv=>lhs;simp -dsimp -implicitDefEqProofs (disch:=first|assumption|omega|(simp only[aK,jV,gP]<;>omega)|decide) only[aP,↓reduceIte,Nat.reduceEqDiff,Nat.reduceAdd,D.fix,Int.reduceToNat,Nat.reduceMul,Nat.reduceBNe,Nat.reduceBEq,fF,bo,cY,nI,cg,er,gJ,gI,Int.reduceBEq,Int.reduceToNat,Bool.not_true,Bool.not_false,FW,PN]):p:=h.mpr hq
theorem W7{P:Program}{sm:List Nat}{N:Nat}{τ:Fr}{H:ak}{f:FuncId}{args:List AV}{K0 KK:AV→ak→Prop}{ks:List Nat}(S T:ak)(h:cM P ks f args S K0)(hK:∀x S',K0 x S'→S'.length=S.length∧KK x (S'++T))(hH:H=S++T:=by
 rfl) (hm:sm.all (aJ ks S.length)=true:=by
 first|rfl|(simp[AV.ah,AV.allI,bc,bg,bf,aJ,aN,aY,aZ,er,fj,cY,bo];done)|(intro o ho;simp at ho;done)) (hτ:∀t,(τ t).allI (aJ ks S.length)=true:=by
 exact fun t=>fU (by first|rfl|(simp[AV.ah,AV.allI,bc,bg,bf,aJ,aN,aY,aZ,er,fj,cY,bo];done)|(intro o ho;simp at ho;done)) t) (ha:AV.ah (aN S.length) args=true:=by
 first|rfl|(simp[AV.ah,AV.allI,bc,bg,bf,aJ,aN,aY,aZ,er,fj,cY,bo];done)|(intro o ho;simp at ho;done)) (hS:∀o∈S,o.allI (aN S.length)=true:=by
 first|rfl|(simp[AV.ah,AV.allI,bc,bg,bf,aJ,aN,aY,aZ,er,fj,cY,bo];done)|(intro o ho;simp at ho;done)) (hT:∀o∈T,o.allI (aJ ks S.length)=true:=by
 first|rfl|(simp[AV.ah,AV.allI,bc,bg,bf,aJ,aN,aY,aZ,er,fj,cY,bo];done)|(intro o ho;simp at ho;done)):kC P sm N H τ (.d (.val (.func (.func f) #[] #[]))) args true (tg KK):=r7 h hH hm hτ ha hS hT hK
theorem YT{p q r:Prop}(e:r)(hq:q)(h:r→p=q:=by
 intro hY
 conv=>lhs;simp -dsimp -implicitDefEqProofs (disch:=first|assumption|omega|(simp only[aK,jV,gP]<;>omega)|decide) only[aP,↓reduceIte,Nat.reduceEqDiff,Nat.reduceAdd,D.fix,Int.reduceToNat,Nat.reduceMul,Nat.reduceBNe,Nat.reduceBEq,mz,fF,bo,cY,nI,cg,er,gJ,gI,Int.reduceBEq,Int.reduceToNat,Bool.not_true,Bool.not_false,dm,bw,hY]):p:=(h e).mpr hq
theorem Ed{p q:Prop}(hq:q)(h:p=q:=by
 conv=>lhs;simp only[cD,Nat.reduceAdd,↓reduceIte,Nat.reduceEqDiff,fF,bo,cY,nI,cg,er,gJ,gI,Int.reduceBEq,Int.reduceToNat,Bool.not_true,Bool.not_false]):p:=h.mpr hq
theorem zy{p:Prop}(h:p:=by
 first|rfl|(simp only[cD,Nat.reduceAdd,↓reduceIte,Nat.reduceEqDiff,fF,bo,cY,nI,cg,er,gJ,gI,Int.reduceBEq,Int.reduceToNat,Bool.not_true,Bool.not_false];first|done|rfl)):p:=h
theorem jla(d:Nat)(hT:Fh (d+1))(C:Ct)(s:Sc)(b:List Int)(i w:Nat)(hC:kN C)(hs:pK C s)(hb:mR b)(hl:b.length≤maxLen)(hw:1≤w)(rp:w+(d+2)≤8)(hd:d≤3)(hi:i≤vi (d+2)):cM prog [0] 56 [fF b i,.agg (cY s),.agg [.d (iD w),.d (iD (d+2:Nat))]] ([dR s,.free]) (BI C s b i w (rQ (d+2)) (nM (d+2))):=by
 refine fV (fn:=f56) (by kernel_rfl) func56 rfl (bN rfl) fun c hc hp=>?_
 refine vY ?_
 obtain⟨hcp,Rk⟩:=yj6 hd
 have vD:nM (d+1)≤100000:=by
  rcases(show d=0∨d=1∨d=2∨d=3 by omega)with rfl|rfl|rfl|rfl<;>decide
 obtain⟨y,hy⟩:∃y:Nat,kr b i=y:=⟨(kr b i).toNat,by have:=(mg hb i).1;omega⟩
 have CM:=(mg hb i).2
 have mW:(y:Int) / 14=((y / 14:Nat):Int):=by omega
 have Hy:(y:Int) % 14=((y % 14:Nat):Int):=by omega
 have mV:=vQ b i hb hl
 rw[hy]at mV
 have o6:((d+2:Nat):Int) - 1=((d+1:Nat):Int):=by omega
 have Il:decide (((d+2:Nat):Int)≤1)=false:=decide_eq_false (by omega)
 have nb:rQ (d+2)=3*rQ (d+1)+32:=rfl
 have ef:nM (d+2)=3*nM (d+1)+1:=rfl
 have hbp:=jtf (d+1)
 refine aj (lC ·) ?_
 refine eN ax hc mixed rfl (q:=0) (by kernel_rfl) (by kernel_rfl) fun K2 bG=>?_
 refine lC ?_
 refine bG _ _ ?_
 refine bC hp ax hc rfl fun K3 bS=>?_
 refine lC ?_
 refine cQ (mV) rfl ?_
 refine lC ?_
 refine bS _ _ ?_
 refine bC hp ax hc rfl fun K4 dD=>?_
 refine lC ?_
 refine cQ (vj b i 1 (by omega) (by omega)) rfl ?_
 refine lC ?_
 refine dD _ _ ?_
 refine aj (uP Hy ·) ?_
 refine aH fun K6 cF=>?_
 refine aj (uP Il ·) ?_
 refine aX rfl (fun ht=>?_) (fun ht=>?_)
 ·have mZ:y % 14<2:=by simp at ht;omega
  refine jN ax hp hc mixed rfl [(0,[]),(1,[]),(2,[]),(3,[]),(5,[]),(4,[5]),(6,[]),(7,[])] [[],[],[],[2],[0,1,2,3],[],[0,1,2,3,4,5],[0,1,2,3,4,5,6]] 0 (by kernel_rfl) fun K8 dC=>?_
  refine YF mW ?_
  refine W8 ([dR s,.free]) ([.cells (au (bo b (i+1))),.cells (cY s),.cells [.d (iD w),.d (iD (d+2:Nat))],er]) (jte C s w (y / 14) hs hw (by omega) (by omega)) ?_
  rintro _ _ ⟨e,he,rfl,g,rfl⟩
  refine⟨rfl,?_⟩
  obtain⟨xo,xk,xw,xc,xn,hex⟩:=qi e;unfold II;rw[hex]
  refine YF mW ?_
  refine dC _ _ ?_
  refine bI hp (τ':=aG [(6,.op 1 0)]) (H':=[dR s,.cells [.d (iD xo),.d nS,.d (iD xk),.d nS,.d (iD xw),.d nS,.d (.fs xc xn),.d (aE b),.d (iD (i+1:Nat))]]) ?_ ?_
  ·refine uk [0,5] ?_
   refine su ?_
   refine Ed ?_;simp[aE,iD]
  refine bh ?_
  try dsimp only[fb,fc]
  refine iH rfl ?_
  refine Lh ?_
  show ∃_,_
  exact⟨e,i+1,⟨he.t,he.w,by have:=he.n;omega⟩,by omega,by omega,by unfold kU;rw[hex];simp[bo,iD,aE],_,rfl⟩
 ·have mZ:2≤y % 14:=by simp at ht;omega
  refine bB (cF _ _ ?_)
  refine aH fun K9 cJ=>?_
  refine bC hp ax hc rfl fun kL bU=>?_
  rcases(show y % 14=2∨y % 14=3∨4≤y % 14 by omega)with e2|e2|e2
  ·have q7:(((y % 14:Nat):Int)==2)=true:=by rw[e2];rfl
   have q8:=q7
   refine uP (aL q7 q8) ?_
   refine bU _ _ ?_
   refine jW ?_
   refine bC hp ax hc rfl fun lz cm=>?_
   refine uP mW ?_
   refine W7 ([dR s,.free]) ([.cells (au (bo b (i+1))),.cells (cY s),.cells [.d (iD w),.d (iD (d+2:Nat))],er]) (R7 d hT C s b (i+1) w (y / 14) hC hs hb hl hw rp hd (by omega) (by omega)) ?_
   rintro _ _ ⟨e,j,he,sg,xR,rfl,g,rfl⟩
   refine⟨rfl,?_⟩
   obtain⟨xo,xk,xw,xc,xn,hex⟩:=qi e;unfold kU;rw[hex];dsimp only[List.map_cons,List.map_nil,List.cons_append,List.nil_append,bo]
   refine uP mW ?_
   refine cm _ _ ?_
   refine bI hp (τ':=aG [(6,.op 1 0)]) (H':=[dR s,.cells [.d (iD xo),.d nS,.d (iD xk),.d nS,.d (iD xw),.d nS,.d (.fs xc xn),.d (aE b),.d (iD j)]]) ?_ ?_
   ·refine uk [0,5] ?_
    refine su ?_
    refine Ed ?_;simp[aE,iD]
   refine bh ?_
   try dsimp only[fb,fc]
   refine iH rfl ?_
   refine Lh ?_
   show ∃_,_
   exact⟨e,j,he,by omega,by omega,by unfold kU;rw[hex];simp[bo,iD,aE],_,rfl⟩
  ·have q7:(((y % 14:Nat):Int)==2)=false:=by rw[e2];rfl
   have q8:(((y % 14:Nat):Int)==3)=true:=by rw[e2];rfl
   refine uP (aL q7 q8) ?_
   refine bU _ _ ?_
   refine jW ?_
   refine bC hp ax hc rfl fun nk cU=>?_
   refine uP mW ?_
   refine W7 ([dR s,.free]) ([.cells (au (bo b (i+1))),.cells (cY s),.cells [.d (iD w),.d (iD (d+2:Nat))],er]) (R7 d hT C s b (i+1) w (y / 14) hC hs hb hl hw rp hd (by omega) (by omega)) ?_
   rintro _ _ ⟨e,j,he,sg,xR,rfl,g,rfl⟩
   refine⟨rfl,?_⟩
   obtain⟨xo,xk,xw,xc,xn,hex⟩:=qi e;unfold kU;rw[hex];dsimp only[List.map_cons,List.map_nil,List.cons_append,List.nil_append,bo]
   refine uP mW ?_
   refine cU _ _ ?_
   refine bI hp (τ':=aG [(6,.op 1 0)]) (H':=[dR s,.cells [.d (iD xo),.d nS,.d (iD xk),.d nS,.d (iD xw),.d nS,.d (.fs xc xn),.d (aE b),.d (iD j)]]) ?_ ?_
   ·refine uk [0,5] ?_
    refine su ?_
    refine Ed ?_;simp[aE,iD]
   refine bh ?_
   try dsimp only[fb,fc]
   refine iH rfl ?_
   refine Lh ?_
   show ∃_,_
   exact⟨e,j,he,by omega,by omega,by unfold kU;rw[hex];simp[bo,iD,aE],_,rfl⟩
  ·have q7:(((y % 14:Nat):Int)==2)=false:=by rw[beq_eq_false_iff_ne];omega
   have q8:(((y % 14:Nat):Int)==3)=false:=by rw[beq_eq_false_iff_ne];omega
   refine uP (aL q7 q8) ?_
   refine bU _ _ ?_
   refine eC ?_
   refine bB (cJ _ _ ?_)
   obtain⟨o0,ho0,hoo⟩:∃o:Int,o=nth ([2,3,4,5,6,7,10,8,9,11]:List Int) (y % 14 - 4)∧(o=2∨o=3∨o=4∨o=5∨o=6∨o=7∨o=10∨o=8∨o=9∨o=11):=by
    refine⟨_,rfl,?_⟩
    rcases(show y % 14=4∨y % 14=5∨y % 14=6∨y % 14=7∨y % 14=8∨y % 14=9∨y % 14=10∨y % 14=11∨y % 14=12∨y % 14=13 by omega)with e|e|e|e|e|e|e|e|e|e<;>rw[e]<;>decide
   have hog:=jvx (i:=y % 14 - 4) (by omega)
   rw[←ho0]at hog
   have Bb:((y % 14:Nat):Int) - 4=((y % 14 - 4:Nat):Int):=by omega
   have Be:((y / 14:Nat):Int) % 3=((y / 14 % 3:Nat):Int):=by omega
   have h1y:(1:Int)+((y / 14 % 3:Nat):Int)=((1+y / 14 % 3:Nat):Int):=by omega
   clear ho0
   refine aj (uP (aL Bb hog) ·) ?_
   refine aj (lC ·) ?_
   refine aH fun tG ea=>?_
   have pE:∀τ' H',(∃τ1 H1,∃(o:Int) (ws:List Nat),(RZ w o ws)∧H1=[dR s,.free,.cells (au (bo b (i+1))),.cells (cY s),.cells [.d (iD w),.d (iD (d+2:Nat))],er,.cells [.d (iD o),.d nS,.d (iD 0),.d nS,.d (iD 0),.d nS,.d (.val (.slice none 0 0))],.cells (au (ws.map fun n:Nat=>iD n))]∧τ1=aG [(3,.op 2 0),(4,.op 3 0),(6,.op 5 0),(8,.d (iD (d+2:Nat))),(11,.op 6 0),(12,.os 1 7 0 ws.length)]∧Rt [0] τ' H' τ1 H1)→tG τ' H':=by
    rintro τ' H' ⟨_,_,o,ws,how,rfl,rfl,rq⟩
    refine ea _ _ (bI hp rq ?_)
    clear rq
    refine aH fun pM df=>?_
    refine bC hp ax hc rfl fun tF eh=>?_
    simp -dsimp -implicitDefEqProofs (disch:=first|assumption|omega|(simp only[aK,jV,gP]<;>omega)|decide) only[aP,↓reduceIte,Nat.reduceEqDiff,Nat.reduceAdd,D.fix,Int.reduceToNat,Nat.reduceMul,Nat.reduceBNe,Nat.reduceBEq,fF,bo,cY,nI,cg,er,gJ,gI,Int.reduceBEq,Int.reduceToNat,Bool.not_true,Bool.not_false]
    refine eh _ _ ?_
    refine aW ?_
    refine c9 hp (fun τ' H' mm=>∃(k j:Nat) (l:List Ex),(k≤ws.length∧l.length=k∧(∀q,q<k→Fit C s.q (nth ws q) (rQ (d+1)) (nth l q))∧i+1≤j∧j≤i+1+Dk (nM (d+1)) k)∧mm=ws.length - k∧H'=[dR s,.free,.cells (au (bo b j)),.cells (cY s),.cells [.d (iD w),.d (iD (d+2:Nat))],er,.cells [.d (iD o),.d nS,.d (iD 0),.d nS,.d (iD 0),.d nS,.os 7 8 0 l.length],.cells (au (ws.map fun n:Nat=>iD n)),.cells (au (l.flatMap bW))]∧τ'=aG [(3,.op 2 0),(4,.op 3 0),(6,.op 5 0),(8,.d (iD (d+2:Nat))),(11,.op 6 0),(12,.os 1 7 0 ws.length),(13,.d (iD k))]) (ws.length) ?_ ⟨0,i+1,[],⟨cy _,rfl,fun q hq=>by omega,bm _,by rw[yj7];omega⟩,rfl,rfl,rfl⟩ ?_
    ·refine Rt.trans (Rt.gq 6 6 7 rfl rfl) ?_
     refine su ?_
     exact zy
    rintro τ' H' mm ⟨k,j,l,⟨hk,ll,hlf,sg,xR⟩,rfl,rfl,rfl⟩
    obtain⟨ow1,ow2⟩:=ycw how hw
    refine aH fun ye fP=>?_
    refine aj (lC ·) ?_
    refine aX rfl (fun ht=>?_) (fun ht=>?_)
    ·have aA:k<ws.length:=by simp at ht;omega
     obtain⟨ow3,ow4⟩:=ow2 k aA
     have hkb:Dk (nM (d+1)) k≤3*nM (d+1):=YG (by omega)
     refine bB (fP _ _ ?_)
     refine aH fun uK eG=>?_
     refine aW ?_
     refine jN ax hp hc mixed rfl [(0,[]),(1,[]),(2,[]),(3,[]),(4,[]),(5,[]),(6,[]),(7,[]),(8,[]),(10,[]),(9,[]),(11,[])] [[],[],[],[],[2,3],[2,3,4],[],[6],[2,3,4,5,6,7],[0,1,2,3,4,5,6,7,8],[],[0,1,2,3,4,5,6,7,8,9,10]] 1 (by kernel_rfl) fun yU ib=>?_
     refine YT o6 ?_
     refine W8 ([dR s,.free]) ([.cells (au (bo b j)),.cells (cY s),.cells [.d (iD w),.d (iD (d+2:Nat))],er,.cells [.d (iD o),.d nS,.d (iD 0),.d nS,.d (iD 0),.d nS,.os 7 8 0 l.length],.cells (au (ws.map fun n:Nat=>iD n)),.cells (au (l.flatMap bW)),er]) (hT C s b j (nth ws k) hC hs hb hl ow3 (by omega) (by omega)) ?_
     rintro _ _ ⟨e,j',he,Ic,hj4,rfl,g,rfl⟩
     refine⟨rfl,?_⟩
     obtain⟨xo,xk,xw,xc,xn,hex⟩:=qi e;unfold kU;rw[hex];dsimp only[List.map_cons,List.map_nil,List.cons_append,List.nil_append,bo]
     refine YT o6 ?_
     refine ib _ _ ?_
     refine aj (lC ·) ?_
     refine jX (lC ·) (eG _ _ ?_)
     refine bA hp ax hc rfl fun BL iF=>?_
     refine lC ?_
     have Q1:∀q,q<k+1→Fit C s.q (nth ws q) (rQ (d+1)) (nth (l++[e]) q):=fun q hq=>by
      rcases v8 (x:=e) ll hq with⟨h1,h2⟩|⟨h1,h2⟩
      ·rw[h2];exact hlf q h1
      ·rw[h2,h1];exact he
     refine iF _ _ ⟨_,_,_,?_,⟨k+1,j',l++[e],⟨by omega,by simp[ll],Q1,by omega,by rw[yj8];omega⟩,rfl,rfl,rfl⟩,?_⟩
     ·first|omega|(simp only[List.length_cons];omega)|(dsimp only;omega)
     ·refine Rt.trans (Rt.lL) ?_
      refine uk [0,12,2,3,4,5,6,7,11] ?_
      refine su ?_
      refine Ed ?_;simp[hex,cg,nS,iD,oD,aE]
    ·have cf:k=ws.length:=by simp at ht;omega
     subst cf
     have hkb:Dk (nM (d+1)) ws.length≤3*nM (d+1):=YG ow1
     obtain⟨e,he,hex⟩:=ycy hC how ll hlf (by omega)
     have kX:dJ (l.flatMap bW) 0 (l.length*7)=some (l.flatMap bW):=iN (by rw[gP])
     refine cL (df _ _ ?_)
     refine aj (lC ·) ?_
     refine bI hp (τ':=aG [(6,.op 1 0)]) (H':=[dR s,.cells [.d (iD o),.d nS,.d (iD 0),.d nS,.d (iD 0),.d nS,.d (.fs (l.flatMap bW) l.length),.d (aE b),.d (iD j)]]) ?_ ?_
     ·refine Rt.trans (Rt.fz (id:=8) (l:=(l.flatMap bW)) rfl) ?_
      refine uk [0,5] ?_
      refine su ?_
      refine Ed ?_;simp[aE,iD,nS,kX,c7]
     refine bh ?_
     try dsimp only[fb,fc]
     refine iH rfl ?_
     refine Lh ?_
     show ∃_,_
     exact⟨e,j,by rw[nb];exact he,by omega,by omega,by unfold kU;rw[hex];simp[cg,bo,nS,iD,aE],_,rfl⟩
   refine aj (lC ·) ?_
   refine aW ?_
   refine aj (lC ·) ?_
   refine aX rfl (fun ht=>?_) (fun ht=>?_)
   ·have h2:o0=2:=by simpa using ht
    subst h2
    refine bA hp ax hc rfl fun Aa iU=>?_
    refine lC ?_
    refine iU _ _ (pE _ _ ⟨_,_,2,[w],.inl ⟨rfl,rfl⟩,rfl,rfl,?_⟩)
    refine uk [0,1,2,3,4,5,7,9] ?_
    refine su ?_
    exact zy
   ·have h2:o0≠2:=by simpa using ht
    refine aj (lC ·) ?_
    refine aX rfl (fun ht=>?_) (fun ht=>?_)
    ·have h3:o0=10:=by simpa using ht
     subst h3
     refine bA hp ax hc rfl fun IY nf=>?_
     refine lC ?_
     refine nf _ _ (pE _ _ ⟨_,_,10,[1,w,w],.inr (.inr (.inl ⟨rfl,rfl⟩)),rfl,rfl,?_⟩)
     refine uk [0,1,2,3,4,5,7,9] ?_
     refine su ?_
     exact zy
    ·have h3:o0≠10:=by simpa using ht
     refine aH fun IX l6=>?_
     refine aj (lC ·) ?_
     refine aX rfl (fun ht=>?_) (fun ht=>?_)
     ·have h4:o0=8:=by simpa using ht
      refine bB (l6 _ _ ?_)
      refine aX rfl (fun ht=>?_) (fun ht=>?_)
      ·refine aj (lC ·) ?_
       refine aX rfl (fun ht=>?_) (fun ht=>?_)
       ·have th:1<w:=by simp at ht;omega
        refine bA hp ax hc rfl fun Mh pD=>?_
        refine lC ?_
        refine pD _ _ (pE _ _ ⟨_,_,5,[w,w],.inr (.inl ⟨by simp,rfl⟩),rfl,rfl,?_⟩)
        refine uk [0,1,2,3,4,5,7,8] ?_
        refine su ?_
        exact zy
       ·have th:w=1:=by simp at ht;omega
        refine bA hp ax hc rfl fun Dm jT=>?_
        refine uP (aL mW (aL Be h1y)) ?_
        refine jT _ _ (pE _ _ ⟨_,_,o0,[1+y / 14 % 3,1+y / 14 % 3],.inr (.inr (.inr (.inl ⟨.inl h4,th,_,by omega,by omega,rfl⟩))),rfl,rfl,?_⟩)
        refine uk [0,1,2,3,4,5,7,9] ?_
        refine su ?_
        exact zy
      ·rw[h4]at ht
       cases ht
     ·have h4:o0≠8:=by simpa using ht
      refine jX (lC ·) (l6 _ _ ?_)
      refine aX rfl (fun ht=>?_) (fun ht=>?_)
      ·have h5:o0=9:=by simpa using ht
       refine aj (lC ·) ?_
       refine aX rfl (fun ht=>?_) (fun ht=>?_)
       ·have th:1<w:=by simp at ht;omega
        refine bA hp ax hc rfl fun K38 x3=>?_
        refine lC ?_
        refine x3 _ _ (pE _ _ ⟨_,_,5,[w,w],.inr (.inl ⟨by simp,rfl⟩),rfl,rfl,?_⟩)
        refine uk [0,1,2,3,4,5,7,8] ?_
        refine su ?_
        exact zy
       ·have th:w=1:=by simp at ht;omega
        refine bA hp ax hc rfl fun K39 x2=>?_
        refine uP (aL mW (aL Be h1y)) ?_
        refine x2 _ _ (pE _ _ ⟨_,_,o0,[1+y / 14 % 3,1+y / 14 % 3],.inr (.inr (.inr (.inl ⟨.inr h5,th,_,by omega,by omega,rfl⟩))),rfl,rfl,?_⟩)
        refine uk [0,1,2,3,4,5,7,9] ?_
        refine su ?_
        exact zy
      ·have h5:o0≠9:=by simpa using ht
       refine aj (lC ·) ?_
       refine aX rfl (fun ht=>?_) (fun ht=>?_)
       ·have h7:o0=11:=by simpa using ht
        refine aj (lC ·) ?_
        refine aX rfl (fun ht=>?_) (fun ht=>?_)
        ·have th:w=1:=by simp at ht;omega
         refine bA hp ax hc rfl fun R1 tB=>?_
         refine lC ?_
         refine tB _ _ (pE _ _ ⟨_,_,3,[w,w],.inr (.inl ⟨by simp,rfl⟩),rfl,rfl,?_⟩)
         refine uk [0,1,2,3,4,5,7,8] ?_
         refine su ?_
         exact zy
        ·have th:1<w:=by simp at ht;omega
         have CN:(w:Int) - 1=((w - 1:Nat):Int):=by omega
         refine bA hp ax hc rfl fun K43 xY=>?_
         refine uP CN ?_
         refine xY _ _ (pE _ _ ⟨_,_,11,[w - 1,1],.inr (.inr (.inr (.inr ⟨rfl,th,rfl⟩))),rfl,rfl,?_⟩)
         refine uk [0,1,2,3,4,5,7,9] ?_
         refine su ?_
         refine Ed ?_;subst h7;rfl
       ·have h7:o0≠11:=by simpa using ht
        refine bB (pE _ _ ⟨_,_,o0,[w,w],.inr (.inl ⟨by omega,rfl⟩),rfl,rfl,?_⟩)
        refine uk [0,1,2,3,4,5,7,8] ?_
        refine su ?_
        exact zy
theorem Gy:Fh 2:=fun C s b i w hC hs hb hl h1 h2 hi=>jla 0 Xa C s b i w hC hs hb hl h1 h2 (by decide) hi
theorem ypn:Fh 3:=fun C s b i w hC hs hb hl h1 h2 hi=>jla 1 Gy C s b i w hC hs hb hl h1 h2 (by decide) hi
end Go.Proofs.YtapjobndmmkanaaGreat
