/- Of no program: an entry of a map that is there already is set anew. -/
import Derived.Test.YtapjobndmmkanaaGreatAZ
import Derived.Test.YtapjobndmmkanaaGreatQr
import Derived.Test.YtapjobndmmkanaaGreatOe
import Derived.Test.YtapjobndmmkanaaGreatDb
import Derived.Test.YtapjobndmmkanaaGreatTy
import Derived.Test.YtapjobndmmkanaaGreatVc
set_option linter.unusedVariables false
set_option linter.unusedSimpArgs false
namespace Go.Proofs.YtapjobndmmkanaaGreat
open Go.Proofs.Tryz
open Go Go.RowKit
section
section
variable {P:Program} {KT:TypeId→Bool} {H:av}
end
set_option maxRecDepth 100000
set_option maxHeartbeats 4000000
end
theorem yjz:(type_of% @I6):=@I6
theorem yj0:(type_of% @I7):=@I7
theorem yj1:(type_of% @vN):=@vN
theorem Rt.ye{m:List Nat}{τ:Fr}{H:av}:Rt m τ H τ (H++[.free]):=fun c a w _ h=>R.eV 1 H h
theorem jr7{i:Nat}(h:i<10):([.d (.val (.int .i64 2)),.d (.val (.int .i64 3)),.d (.val (.int .i64 4)),.d (.val (.int .i64 5)),.d (.val (.int .i64 6)),.d (.val (.int .i64 7)),.d (.val (.int .i64 10)),.d (.val (.int .i64 8)),.d (.val (.int .i64 9)),.d (.val (.int .i64 11))]:List AV)[i]? =some (.d (.val (.int .i64 (nth ([2,3,4,5,6,7,10,8,9,11]:List Int) i)))):=by
 rcases(show i=0∨i=1∨i=2∨i=3∨i=4∨i=5∨i=6∨i=7∨i=8∨i=9 by omega)with rfl|rfl|rfl|rfl|rfl|rfl|rfl|rfl|rfl|rfl<;>rfl
def CV(m k:Nat):Nat:=k*m
theorem yez(m:Nat):CV m 0=0:=Nat.zero_mul m
theorem ye0(m k:Nat):CV m (k+1)=CV m k+m:=Nat.succ_mul k m
theorem X8{m k:Nat}(h:k≤3):CV m k≤3*m:=Nat.mul_le_mul_right m h
def QR(w:Nat)(o:Int)(ws:List Nat):Prop:=(o=2∧ws=[w])∨((o=3∨o=4∨o=5∨o=6∨o=7)∧ws=[w,w])∨(o=10∧ws=[1,w,w])∨((o=8∨o=9)∧w=1∧∃u,1≤u∧u≤3∧ws=[u,u])∨(o=11∧1<w∧ws=[w - 1,1])
theorem jyp{w:Nat}{o:Int}{ws:List Nat}(h:QR w o ws)(hw:1≤w):ws.length≤3∧∀k,k<ws.length→1≤nth ws k∧(nth ws k≤w∨nth ws k≤3):=by
 rcases h with⟨_,rfl⟩|⟨_,rfl⟩|⟨_,rfl⟩|⟨_,_,u,h1,h2,rfl⟩|⟨_,h1,rfl⟩<;>refine⟨by simp,fun k hk=>?_⟩<;>simp only[List.length_cons,List.length_nil]at hk<;>rcases(show k=0∨k=1∨k=2 by omega)with rfl|rfl|rfl<;>simp[nth]<;>omega
theorem ye1{l:List Ex}(h:l.length=1):l=[nth l 0]:=by
 match l,h with
 |[a],_=>rfl
theorem OV{l:List Ex}(h:l.length=2):l=[nth l 0,nth l 1]:=by
 match l,h with
 |[a,b],_=>rfl
theorem jyq{l:List Ex}(h:l.length=3):l=[nth l 0,nth l 1,nth l 2]:=by
 match l,h with
 |[a,b,c],_=>rfl
theorem jyr{C:Ct}{q:Bool}(hC:nE C){w n:Nat}{o:Int}{ws:List Nat}{l:List Ex}(h:QR w o ws)(hl:l.length=ws.length)(hf:∀k,k<ws.length→Fit C q (nth ws k) n (nth l k))(nM:w≤8):∃e,Fit C q w (3*n+32) e∧bR e=cv o 0 0 (l.flatMap bR) l.length:=by
 rcases h with⟨rfl,rfl⟩|⟨ho,rfl⟩|⟨rfl,rfl⟩|⟨ho,rfl,u,h1,h2,rfl⟩|⟨rfl,h1,rfl⟩
 ·have f0:=hf 0 (by simp)
  have el:=ye1 hl
  obtain⟨t0,w0,n0⟩:=f0
  refine⟨.not (nth l 0),⟨t0,w0,?_⟩,by rw[el];simp[bR,nth]⟩
  simp only[cf]
  simp[nth]at w0 n0 ⊢
  omega
 ·obtain⟨t0,w0,n0⟩:=hf 0 (by simp)
  obtain⟨t1,w1,n1⟩:=hf 1 (by simp)
  have el:=OV hl
  have p5:bV C (nth l 0)=w:=w0
  have tu:bV C (nth l 1)=w:=w1
  rcases ho with rfl|rfl|rfl|rfl|rfl
  ·exact⟨.two 3 (nth l 0) (nth l 1),⟨⟨by simp,t0,t1,by rw[p5,tu]⟩,p5,by simp only[cf];omega⟩,by rw[el];simp[bR,nth]⟩
  ·exact⟨.two 4 (nth l 0) (nth l 1),⟨⟨by simp,t0,t1,by rw[p5,tu]⟩,p5,by simp only[cf];omega⟩,by rw[el];simp[bR,nth]⟩
  ·exact⟨.two 5 (nth l 0) (nth l 1),⟨⟨by simp,t0,t1,by rw[p5,tu]⟩,p5,by simp only[cf];omega⟩,by rw[el];simp[bR,nth]⟩
  ·exact⟨.add (nth l 0) (nth l 1),⟨⟨t0,t1,by rw[p5,tu]⟩,p5,by simp only[cf];omega⟩,by rw[el];simp[bR,nth]⟩
  ·exact⟨.sub (nth l 0) (nth l 1),⟨⟨t0,t1,by rw[p5,tu]⟩,p5,by simp only[cf];omega⟩,by rw[el];simp[bR,nth]⟩
 ·obtain⟨t0,w0,n0⟩:=hf 0 (by simp)
  obtain⟨t1,w1,n1⟩:=hf 1 (by simp)
  obtain⟨t2,w2,n2⟩:=hf 2 (by simp)
  have el:=jyq hl
  have p5:bV C (nth l 0)=1:=w0
  have tu:bV C (nth l 1)=w:=w1
  have w2':bV C (nth l 2)=w:=w2
  exact⟨.oq (nth l 0) (nth l 1) (nth l 2),⟨⟨t0,t1,t2,p5,by rw[tu,w2']⟩,tu,by simp only[cf];omega⟩,by rw[el];simp[bR,nth]⟩
 ·obtain⟨t0,w0,n0⟩:=hf 0 (by simp)
  obtain⟨t1,w1,n1⟩:=hf 1 (by simp)
  have el:=OV hl
  have p5:bV C (nth l 0)=u:=w0
  have tu:bV C (nth l 1)=u:=w1
  rcases ho with rfl|rfl
  ·exact⟨.eq (nth l 0) (nth l 1),⟨⟨t0,t1,by rw[p5,tu]⟩,rfl,by simp only[cf];omega⟩,by rw[el];simp[bR,nth]⟩
  ·exact⟨.lt (nth l 0) (nth l 1),⟨⟨t0,t1,by rw[p5,tu]⟩,rfl,by simp only[cf];omega⟩,by rw[el];simp[bR,nth]⟩
 ·obtain⟨t0,w0,n0⟩:=hf 0 (by simp)
  obtain⟨t1,w1,n1⟩:=hf 1 (by simp)
  have el:=OV hl
  have p5:bV C (nth l 0)=w - 1:=w0
  have tu:bV C (nth l 1)=1:=w1
  exact⟨.cat (nth l 0) (nth l 1),⟨⟨t0,t1,by rw[p5,tu];omega⟩,by show bV C (nth l 0)+bV C (nth l 1)=w;rw[p5,tu];omega,by simp only[cf];omega⟩,by rw[el];simp[bR,nth]⟩
def eT:bB:=.cells [.d (iD 0),.d nS,.d (iD 0),.d nS,.d (iD 0),.d nS,.d (.val (.slice none 0 0)),.d (.val (.slice none 0 0)),.d (iD 0)]
theorem lM{p q:Prop}(hq:q)(h:p=q:=by
 conv=>lhs;simp -dsimp -implicitDefEqProofs (disch:=first|assumption|omega|(simp only[aH,j7,gJ]<;>omega)|decide) only[aN,↓reduceIte,Nat.reduceEqDiff,Nat.reduceAdd,D.fix,Int.reduceToNat,Nat.reduceMul,Nat.reduceBNe,Nat.reduceBEq,fJ,bG,dk,nI,cv,eT,gP,gO,Int.reduceBEq,Int.reduceToNat,Bool.not_true,Bool.not_false,bw]):p:=h.mpr hq
theorem tV{p q r:Prop}(e:r)(hq:q)(h:r→p=q:=by
 intro hY
 conv=>lhs;simp -dsimp -implicitDefEqProofs (disch:=first|assumption|omega|(simp only[aH,j7,gJ]<;>omega)|decide) only[aN,↓reduceIte,Nat.reduceEqDiff,Nat.reduceAdd,D.fix,Int.reduceToNat,Nat.reduceMul,Nat.reduceBNe,Nat.reduceBEq,fJ,bG,dk,nI,cv,eT,gP,gO,Int.reduceBEq,Int.reduceToNat,Bool.not_true,Bool.not_false,bw,hY]):p:=(h e).mpr hq
theorem X7{p q r:Prop}(e:r)(hq:q)(h:r→p=q:=by
 intro hY
 conv=>lhs;simp -dsimp -implicitDefEqProofs (disch:=first|assumption|omega|(simp only[aH,j7,gJ]<;>omega)|decide) only[aN,↓reduceIte,Nat.reduceEqDiff,Nat.reduceAdd,D.fix,Int.reduceToNat,Nat.reduceMul,Nat.reduceBNe,Nat.reduceBEq,mC,fJ,bG,dk,nI,cv,eT,gP,gO,Int.reduceBEq,Int.reduceToNat,Bool.not_true,Bool.not_false,bw,hY]):p:=(h e).mpr hq
theorem Wn{P:Program}{sm:List Nat}{N:Nat}{τ0 τ:Fr}{H:av}{f:FuncId}{args:List AV}{K0 KK:AV→av→Prop}{ks:List Nat}(S T:av)(h:cY P ks f args S K0)(hK:∀x S',K0 x S'→S'.length=S.length∧KK x (S'++T))(hH:H=S++T:=by
 rfl) (hN:S.length≤N:=by
 exact cn rfl) (hm:sm.all (aL ks S.length)=true:=by
 first|rfl|(simp[AV.aj,AV.allI,bo,bq,bp,aL,aO,bn,br,eT,ff,dk,bG];done)|(intro o ho;simp at ho;done)) (hτ:∀t,(τ t).allI (aL ks S.length)=true:=by
 exact fun t=>fL (by first|rfl|(simp[AV.aj,AV.allI,bo,bq,bp,aL,aO,bn,br,eT,ff,dk,bG];done)|(intro o ho;simp at ho;done)) t) (h0:∀t,(τ0 t).allI (aL ks S.length)=true:=by
 exact fun t=>fL (by first|rfl|(simp[AV.aj,AV.allI,bo,bq,bp,aL,aO,bn,br,eT,ff,dk,bG];done)|(intro o ho;simp at ho;done)) t) (ha:AV.aj (aO S.length) args=true:=by
 first|rfl|(simp[AV.aj,AV.allI,bo,bq,bp,aL,aO,bn,br,eT,ff,dk,bG];done)|(intro o ho;simp at ho;done)) (hS:∀o∈S,o.allI (aO S.length)=true:=by
 first|rfl|(simp[AV.aj,AV.allI,bo,bq,bp,aL,aO,bn,br,eT,ff,dk,bG];done)|(intro o ho;simp at ho;done)) (hT:∀o∈T,o.allI (aL ks S.length)=true:=by
 first|rfl|(simp[AV.aj,AV.allI,bo,bq,bp,aL,aO,bn,br,eT,ff,dk,bG];done)|(intro o ho;simp at ho;done)):kE P sm N τ0 τ H (.d (.val (.func (.func f) #[] #[]))) args (tg KK):=tm h hH hN hm hτ h0 ha hS hT hK
theorem tD(k:List Nat){m:List Nat}{τ τ1:Fr}{H H1:av}(h:Rt m (fun t=>du k (τ t)) (dg k H) τ1 H1)(a:∀i∈m,k[i]? =some i:=by decide)(b:k.Nodup:=by decide)(c:∀i∈k,i<H.length:=by
 simp[eJ,dg]):Rt m τ H τ1 H1:=Rt.trans (Rt.gc a b c) h
theorem sa{m:List Nat}{τ τ':Fr}{H H':av}(h2:H=H')(h:fw τ τ':=by
 repeat (first|exact cw _|refine cg ?_ (by first|rfl|(simp[aX,j7,gJ];done)|simp[aX,j7,gJ, *]))):Rt m τ H τ' H':=Rt.end h h2
theorem Ki{p q:Prop}(hq:q)(h:p=q:=by
 conv=>lhs;simp -dsimp -implicitDefEqProofs (disch:=first|assumption|omega|(simp only[aH,j7,gJ]<;>omega)|decide) only[aN,↓reduceIte,Nat.reduceEqDiff,Nat.reduceAdd,D.fix,Int.reduceToNat,Nat.reduceMul,Nat.reduceBNe,Nat.reduceBEq,fJ,bG,dk,nI,cv,eT,gP,gO,Int.reduceBEq,Int.reduceToNat,Bool.not_true,Bool.not_false,Fl,OR]):p:=h.mpr hq
theorem Wm{P:Program}{sm:List Nat}{N:Nat}{τ:Fr}{H:av}{f:FuncId}{args:List AV}{K0 KK:AV→av→Prop}{ks:List Nat}(S T:av)(h:cY P ks f args S K0)(hK:∀x S',K0 x S'→S'.length=S.length∧KK x (S'++T))(hH:H=S++T:=by
 rfl) (hm:sm.all (aL ks S.length)=true:=by
 first|rfl|(simp[AV.aj,AV.allI,bo,bq,bp,aL,aO,bn,br,eT,ff,dk,bG];done)|(intro o ho;simp at ho;done)) (hτ:∀t,(τ t).allI (aL ks S.length)=true:=by
 exact fun t=>fL (by first|rfl|(simp[AV.aj,AV.allI,bo,bq,bp,aL,aO,bn,br,eT,ff,dk,bG];done)|(intro o ho;simp at ho;done)) t) (ha:AV.aj (aO S.length) args=true:=by
 first|rfl|(simp[AV.aj,AV.allI,bo,bq,bp,aL,aO,bn,br,eT,ff,dk,bG];done)|(intro o ho;simp at ho;done)) (hS:∀o∈S,o.allI (aO S.length)=true:=by
 first|rfl|(simp[AV.aj,AV.allI,bo,bq,bp,aL,aO,bn,br,eT,ff,dk,bG];done)|(intro o ho;simp at ho;done)) (hT:∀o∈T,o.allI (aL ks S.length)=true:=by
 first|rfl|(simp[AV.aj,AV.allI,bo,bq,bp,aL,aO,bn,br,eT,ff,dk,bG];done)|(intro o ho;simp at ho;done)):kC P sm N H τ (.d (.val (.func (.func f) #[] #[]))) args true (tg KK):=rH h hH hm hτ ha hS hT hK
theorem X6{p q r:Prop}(e:r)(hq:q)(h:r→p=q:=by
 intro hY
 conv=>lhs;simp -dsimp -implicitDefEqProofs (disch:=first|assumption|omega|(simp only[aH,j7,gJ]<;>omega)|decide) only[aN,↓reduceIte,Nat.reduceEqDiff,Nat.reduceAdd,D.fix,Int.reduceToNat,Nat.reduceMul,Nat.reduceBNe,Nat.reduceBEq,mC,fJ,bG,dk,nI,cv,eT,gP,gO,Int.reduceBEq,Int.reduceToNat,Bool.not_true,Bool.not_false,db,bw,hY]):p:=(h e).mpr hq
theorem DV{p q:Prop}(hq:q)(h:p=q:=by
 conv=>lhs;simp only[cP,Nat.reduceAdd,↓reduceIte,Nat.reduceEqDiff,fJ,bG,dk,nI,cv,eT,gP,gO,Int.reduceBEq,Int.reduceToNat,Bool.not_true,Bool.not_false]):p:=h.mpr hq
theorem yS{p:Prop}(h:p:=by
 first|rfl|(simp only[cP,Nat.reduceAdd,↓reduceIte,Nat.reduceEqDiff,fJ,bG,dk,nI,cv,eT,gP,gO,Int.reduceBEq,Int.reduceToNat,Bool.not_true,Bool.not_false];first|done|rfl)):p:=h
theorem jh1(d:Nat)(hT:EE (d+1))(C:Ct)(s:Sc)(b:List Int)(i w:Nat)(hC:nE C)(hs:pC C s)(hb:rJ b)(hl:b.length≤maxLen)(hw:1≤w)(nM:w+(d+2)≤8)(hd:d≤3)(hi:i≤uq (d+2)):cY prog [0] 56 [fJ b i,.agg (dk s),.agg [.d (iD w),.d (iD (d+2:Nat))]] ([dZ s,.free]) (Bf C s b i w (rz (d+2)) (nU (d+2))):=by
 refine fX (fn:=f56) (by kernel_rfl) func56 rfl (cn rfl) fun c hc hp=>?_
 refine tr ?_
 obtain⟨hcp,P5⟩:=yey hd
 have uM:nU (d+1)≤100000:=by
  rcases(show d=0∨d=1∨d=2∨d=3 by omega)with rfl|rfl|rfl|rfl<;>decide
 obtain⟨y,hy⟩:∃y:Nat,nT b i=y:=⟨(nT b i).toNat,by have:=(rG hb i).1;omega⟩
 have Pf:=(rG hb i).2
 have nh:(y:Int) / 14=((y / 14:Nat):Int):=by omega
 have GP:(y:Int) % 14=((y % 14:Nat):Int):=by omega
 have wq:=zX b i hb hl
 rw[hy]at wq
 have qT:((d+2:Nat):Int) - 1=((d+1:Nat):Int):=by omega
 have Hq:decide (((d+2:Nat):Int)≤1)=false:=decide_eq_false (by omega)
 have mM:rz (d+2)=3*rz (d+1)+32:=rfl
 have eI:nU (d+2)=3*nU (d+1)+1:=rfl
 have hbp:=Z7 (d+1)
 refine ah (lM ·) ?_
 refine dO ax hc mixed rfl (q:=0) (by kernel_rfl) (by kernel_rfl) fun K2 bS=>?_
 refine lM ?_
 refine bS _ _ ?_
 refine aZ hp ax hc rfl fun K3 cm=>?_
 refine lM ?_
 refine bx (wq) rfl ?_
 refine lM ?_
 refine cm _ _ ?_
 refine aZ hp ax hc rfl fun K4 dE=>?_
 refine lM ?_
 refine bx (yU b i 1 (by omega) (by omega)) rfl ?_
 refine lM ?_
 refine dE _ _ ?_
 refine ah (tV GP ·) ?_
 refine aD fun K6 cK=>?_
 refine ah (tV Hq ·) ?_
 refine bf rfl (fun ht=>?_) (fun ht=>?_)
 ·have qP:y % 14<2:=by simp at ht;omega
  refine jP ax hp hc mixed rfl [(0,[]),(1,[]),(2,[]),(3,[]),(5,[]),(4,[5]),(6,[]),(7,[])] [[],[],[],[2],[0,1,2,3],[],[0,1,2,3,4,5],[0,1,2,3,4,5,6]] 0 (by kernel_rfl) fun K8 dP=>?_
  refine X7 nh ?_
  refine Wn ([dZ s,.free]) ([.cells (ak (bG b (i+1))),.cells (dk s),.cells [.d (iD w),.d (iD (d+2:Nat))],eT]) (Z8 C s w (y / 14) hs hw (by omega) (by omega)) ?_
  rintro _ _ ⟨e,he,rfl,g,rfl⟩
  refine⟨rfl,?_⟩
  obtain⟨xo,xk,xw,xc,xn,hex⟩:=pZ e;unfold Ig;rw[hex]
  refine X7 nh ?_
  refine dP _ _ ?_
  refine bC hp (τ':=aF [(6,.op 1 0)]) (H':=[dZ s,.cells [.d (iD xo),.d nS,.d (iD xk),.d nS,.d (iD xw),.d nS,.d (.fs xc xn),.d (aI b),.d (iD (i+1:Nat))]]) ?_ ?_
  ·refine tD [0,5] ?_
   refine sa ?_
   refine DV ?_;simp[aI,iD]
  refine aM ?_
  try dsimp only[cC,cI]
  refine cS rfl ?_
  refine Ki ?_
  show ∃_,_
  exact⟨e,i+1,⟨he.t,he.w,by have:=he.n;omega⟩,by omega,by omega,by unfold kZ;rw[hex];simp[bG,iD,aI],_,rfl⟩
 ·have qP:2≤y % 14:=by simp at ht;omega
  refine bg (cK _ _ ?_)
  refine aD fun K9 cX=>?_
  refine aZ hp ax hc rfl fun j4 bW=>?_
  rcases(show y % 14=2∨y % 14=3∨4≤y % 14 by omega)with e2|e2|e2
  ·have q7:(((y % 14:Nat):Int)==2)=true:=by rw[e2];rfl
   have q8:=q7
   refine tV (aw q7 q8) ?_
   refine bW _ _ ?_
   refine dh ?_
   refine aZ hp ax hc rfl fun mh cQ=>?_
   refine tV nh ?_
   refine Wm ([dZ s,.free]) ([.cells (ak (bG b (i+1))),.cells (dk s),.cells [.d (iD w),.d (iD (d+2:Nat))],eT]) (Rp d hT C s b (i+1) w (y / 14) hC hs hb hl hw nM hd (by omega) (by omega)) ?_
   rintro _ _ ⟨e,j,he,rU,wL,rfl,g,rfl⟩
   refine⟨rfl,?_⟩
   obtain⟨xo,xk,xw,xc,xn,hex⟩:=pZ e;unfold kZ;rw[hex];dsimp only[List.map_cons,List.map_nil,List.cons_append,List.nil_append,bG]
   refine tV nh ?_
   refine cQ _ _ ?_
   refine bC hp (τ':=aF [(6,.op 1 0)]) (H':=[dZ s,.cells [.d (iD xo),.d nS,.d (iD xk),.d nS,.d (iD xw),.d nS,.d (.fs xc xn),.d (aI b),.d (iD j)]]) ?_ ?_
   ·refine tD [0,5] ?_
    refine sa ?_
    refine DV ?_;simp[aI,iD]
   refine aM ?_
   try dsimp only[cC,cI]
   refine cS rfl ?_
   refine Ki ?_
   show ∃_,_
   exact⟨e,j,he,by omega,by omega,by unfold kZ;rw[hex];simp[bG,iD,aI],_,rfl⟩
  ·have q7:(((y % 14:Nat):Int)==2)=false:=by rw[e2];rfl
   have q8:(((y % 14:Nat):Int)==3)=true:=by rw[e2];rfl
   refine tV (aw q7 q8) ?_
   refine bW _ _ ?_
   refine dh ?_
   refine aZ hp ax hc rfl fun lK bN=>?_
   refine tV nh ?_
   refine Wm ([dZ s,.free]) ([.cells (ak (bG b (i+1))),.cells (dk s),.cells [.d (iD w),.d (iD (d+2:Nat))],eT]) (Rp d hT C s b (i+1) w (y / 14) hC hs hb hl hw nM hd (by omega) (by omega)) ?_
   rintro _ _ ⟨e,j,he,rU,wL,rfl,g,rfl⟩
   refine⟨rfl,?_⟩
   obtain⟨xo,xk,xw,xc,xn,hex⟩:=pZ e;unfold kZ;rw[hex];dsimp only[List.map_cons,List.map_nil,List.cons_append,List.nil_append,bG]
   refine tV nh ?_
   refine bN _ _ ?_
   refine bC hp (τ':=aF [(6,.op 1 0)]) (H':=[dZ s,.cells [.d (iD xo),.d nS,.d (iD xk),.d nS,.d (iD xw),.d nS,.d (.fs xc xn),.d (aI b),.d (iD j)]]) ?_ ?_
   ·refine tD [0,5] ?_
    refine sa ?_
    refine DV ?_;simp[aI,iD]
   refine aM ?_
   try dsimp only[cC,cI]
   refine cS rfl ?_
   refine Ki ?_
   show ∃_,_
   exact⟨e,j,he,by omega,by omega,by unfold kZ;rw[hex];simp[bG,iD,aI],_,rfl⟩
  ·have q7:(((y % 14:Nat):Int)==2)=false:=by rw[beq_eq_false_iff_ne];omega
   have q8:(((y % 14:Nat):Int)==3)=false:=by rw[beq_eq_false_iff_ne];omega
   refine tV (aw q7 q8) ?_
   refine bW _ _ ?_
   refine bA ?_
   refine bg (cX _ _ ?_)
   obtain⟨o0,ho0,hoo⟩:∃o:Int,o=nth ([2,3,4,5,6,7,10,8,9,11]:List Int) (y % 14 - 4)∧(o=2∨o=3∨o=4∨o=5∨o=6∨o=7∨o=10∨o=8∨o=9∨o=11):=by
    refine⟨_,rfl,?_⟩
    rcases(show y % 14=4∨y % 14=5∨y % 14=6∨y % 14=7∨y % 14=8∨y % 14=9∨y % 14=10∨y % 14=11∨y % 14=12∨y % 14=13 by omega)with e|e|e|e|e|e|e|e|e|e<;>rw[e]<;>decide
   have hog:=jr7 (i:=y % 14 - 4) (by omega)
   rw[←ho0]at hog
   have Pe:((y % 14:Nat):Int) - 4=((y % 14 - 4:Nat):Int):=by omega
   have AR:((y / 14:Nat):Int) % 3=((y / 14 % 3:Nat):Int):=by omega
   have h1y:(1:Int)+((y / 14 % 3:Nat):Int)=((1+y / 14 % 3:Nat):Int):=by omega
   clear ho0
   refine ah (tV (aw Pe hog) ·) ?_
   refine ah (lM ·) ?_
   refine aD fun sY eG=>?_
   have pv:∀τ' H',(∃τ1 H1,∃(o:Int) (ws:List Nat),(QR w o ws)∧H1=[dZ s,.free,.cells (ak (bG b (i+1))),.cells (dk s),.cells [.d (iD w),.d (iD (d+2:Nat))],eT,.cells [.d (iD o),.d nS,.d (iD 0),.d nS,.d (iD 0),.d nS,.d (.val (.slice none 0 0))],.cells (ak (ws.map fun n:Nat=>iD n))]∧τ1=aF [(3,.op 2 0),(4,.op 3 0),(6,.op 5 0),(8,.d (iD (d+2:Nat))),(11,.op 6 0),(12,.os 1 7 0 ws.length)]∧Rt [0] τ' H' τ1 H1)→sY τ' H':=by
    rintro τ' H' ⟨_,_,o,ws,how,rfl,rfl,qL⟩
    refine eG _ _ (bC hp qL ?_)
    clear qL
    refine aD fun pE dB=>?_
    refine aZ hp ax hc rfl fun rZ ey=>?_
    simp -dsimp -implicitDefEqProofs (disch:=first|assumption|omega|(simp only[aH,j7,gJ]<;>omega)|decide) only[aN,↓reduceIte,Nat.reduceEqDiff,Nat.reduceAdd,D.fix,Int.reduceToNat,Nat.reduceMul,Nat.reduceBNe,Nat.reduceBEq,fJ,bG,dk,nI,cv,eT,gP,gO,Int.reduceBEq,Int.reduceToNat,Bool.not_true,Bool.not_false]
    refine ey _ _ ?_
    refine aW ?_
    refine cU hp (fun τ' H' mm=>∃(k j:Nat) (l:List Ex),(k≤ws.length∧l.length=k∧(∀q,q<k→Fit C s.q (nth ws q) (rz (d+1)) (nth l q))∧i+1≤j∧j≤i+1+CV (nU (d+1)) k)∧mm=ws.length - k∧H'=[dZ s,.free,.cells (ak (bG b j)),.cells (dk s),.cells [.d (iD w),.d (iD (d+2:Nat))],eT,.cells [.d (iD o),.d nS,.d (iD 0),.d nS,.d (iD 0),.d nS,.os 7 8 0 l.length],.cells (ak (ws.map fun n:Nat=>iD n)),.cells (ak (l.flatMap bR))]∧τ'=aF [(3,.op 2 0),(4,.op 3 0),(6,.op 5 0),(8,.d (iD (d+2:Nat))),(11,.op 6 0),(12,.os 1 7 0 ws.length),(13,.d (iD k))]) (ws.length) ?_ ⟨0,i+1,[],⟨cF _,rfl,fun q hq=>by omega,bJ _,by rw[yez];omega⟩,rfl,rfl,rfl⟩ ?_
    ·refine Rt.trans (Rt.fm 6 6 7 rfl rfl) ?_
     refine sa ?_
     exact yS
    rintro τ' H' mm ⟨k,j,l,⟨hk,iA,hlf,rU,wL⟩,rfl,rfl,rfl⟩
    obtain⟨ow1,ow2⟩:=jyp how hw
    refine aD fun zD iW=>?_
    refine ah (lM ·) ?_
    refine bf rfl (fun ht=>?_) (fun ht=>?_)
    ·have aA:k<ws.length:=by simp at ht;omega
     obtain⟨ow3,ow4⟩:=ow2 k aA
     have hkb:CV (nU (d+1)) k≤3*nU (d+1):=X8 (by omega)
     refine bg (iW _ _ ?_)
     refine aD fun sX fa=>?_
     refine aW ?_
     refine jP ax hp hc mixed rfl [(0,[]),(1,[]),(2,[]),(3,[]),(4,[]),(5,[]),(6,[]),(7,[]),(8,[]),(10,[]),(9,[]),(11,[])] [[],[],[],[],[2,3],[2,3,4],[],[6],[2,3,4,5,6,7],[0,1,2,3,4,5,6,7,8],[],[0,1,2,3,4,5,6,7,8,9,10]] 1 (by kernel_rfl) fun yj im=>?_
     refine X6 qT ?_
     refine Wn ([dZ s,.free]) ([.cells (ak (bG b j)),.cells (dk s),.cells [.d (iD w),.d (iD (d+2:Nat))],eT,.cells [.d (iD o),.d nS,.d (iD 0),.d nS,.d (iD 0),.d nS,.os 7 8 0 l.length],.cells (ak (ws.map fun n:Nat=>iD n)),.cells (ak (l.flatMap bR)),eT]) (hT C s b j (nth ws k) hC hs hb hl ow3 (by omega) (by omega)) ?_
     rintro _ _ ⟨e,j',he,hj3,hj4,rfl,g,rfl⟩
     refine⟨rfl,?_⟩
     obtain⟨xo,xk,xw,xc,xn,hex⟩:=pZ e;unfold kZ;rw[hex];dsimp only[List.map_cons,List.map_nil,List.cons_append,List.nil_append,bG]
     refine X6 qT ?_
     refine im _ _ ?_
     refine ah (lM ·) ?_
     refine fj (lM ·) (fa _ _ ?_)
     refine bT hp ax hc rfl fun yh fG=>?_
     refine lM ?_
     have PQ:∀q,q<k+1→Fit C s.q (nth ws q) (rz (d+1)) (nth (l++[e]) q):=fun q hq=>by
      rcases BQ (x:=e) iA hq with⟨h1,h2⟩|⟨h1,h2⟩
      ·rw[h2];exact hlf q h1
      ·rw[h2,h1];exact he
     refine fG _ _ ⟨_,_,_,?_,⟨k+1,j',l++[e],⟨by omega,by simp[iA],PQ,by omega,by rw[ye0];omega⟩,rfl,rfl,rfl⟩,?_⟩
     ·first|omega|(simp only[List.length_cons];omega)|(dsimp only;omega)
     ·refine Rt.trans (Rt.ye) ?_
      refine tD [0,12,2,3,4,5,6,7,11] ?_
      refine sa ?_
      refine DV ?_;simp[hex,cv,nS,iD,oD,aI]
    ·have bM:k=ws.length:=by simp at ht;omega
     subst bM
     have hkb:CV (nU (d+1)) ws.length≤3*nU (d+1):=X8 ow1
     obtain⟨e,he,hex⟩:=jyr hC how iA hlf (by omega)
     have y9:ec (l.flatMap bR) 0 (l.length*7)=some (l.flatMap bR):=fE (by rw[gJ])
     refine cJ (dB _ _ ?_)
     refine ah (lM ·) ?_
     refine bC hp (τ':=aF [(6,.op 1 0)]) (H':=[dZ s,.cells [.d (iD o),.d nS,.d (iD 0),.d nS,.d (iD 0),.d nS,.d (.fs (l.flatMap bR) l.length),.d (aI b),.d (iD j)]]) ?_ ?_
     ·refine Rt.trans (Rt.fz (id:=8) (l:=(l.flatMap bR)) rfl) ?_
      refine tD [0,5] ?_
      refine sa ?_
      refine DV ?_;simp[aI,iD,nS,y9,du]
     refine aM ?_
     try dsimp only[cC,cI]
     refine cS rfl ?_
     refine Ki ?_
     show ∃_,_
     exact⟨e,j,by rw[mM];exact he,by omega,by omega,by unfold kZ;rw[hex];simp[cv,bG,nS,iD,aI],_,rfl⟩
   refine ah (lM ·) ?_
   refine aW ?_
   refine ah (lM ·) ?_
   refine bf rfl (fun ht=>?_) (fun ht=>?_)
   ·have h2:o0=2:=by simpa using ht
    subst h2
    refine bT hp ax hc rfl fun Bk jX=>?_
    refine lM ?_
    refine jX _ _ (pv _ _ ⟨_,_,2,[w],.inl ⟨rfl,rfl⟩,rfl,rfl,?_⟩)
    refine tD [0,1,2,3,4,5,7,9] ?_
    refine sa ?_
    exact yS
   ·have h2:o0≠2:=by simpa using ht
    refine ah (lM ·) ?_
    refine bf rfl (fun ht=>?_) (fun ht=>?_)
    ·have h3:o0=10:=by simpa using ht
     subst h3
     refine bT hp ax hc rfl fun Bj jE=>?_
     refine lM ?_
     refine jE _ _ (pv _ _ ⟨_,_,10,[1,w,w],.inr (.inr (.inl ⟨rfl,rfl⟩)),rfl,rfl,?_⟩)
     refine tD [0,1,2,3,4,5,7,9] ?_
     refine sa ?_
     exact yS
    ·have h3:o0≠10:=by simpa using ht
     refine aD fun zC ij=>?_
     refine ah (lM ·) ?_
     refine bf rfl (fun ht=>?_) (fun ht=>?_)
     ·have h4:o0=8:=by simpa using ht
      refine bg (ij _ _ ?_)
      refine bf rfl (fun ht=>?_) (fun ht=>?_)
      ·refine ah (lM ·) ?_
       refine bf rfl (fun ht=>?_) (fun ht=>?_)
       ·have rQ:1<w:=by simp at ht;omega
        refine bT hp ax hc rfl fun Bi jD=>?_
        refine lM ?_
        refine jD _ _ (pv _ _ ⟨_,_,5,[w,w],.inr (.inl ⟨by simp,rfl⟩),rfl,rfl,?_⟩)
        refine tD [0,1,2,3,4,5,7,8] ?_
        refine sa ?_
        exact yS
       ·have rQ:w=1:=by simp at ht;omega
        refine bT hp ax hc rfl fun CZ kr=>?_
        refine tV (aw nh (aw AR h1y)) ?_
        refine kr _ _ (pv _ _ ⟨_,_,o0,[1+y / 14 % 3,1+y / 14 % 3],.inr (.inr (.inr (.inl ⟨.inl h4,rQ,_,by omega,by omega,rfl⟩))),rfl,rfl,?_⟩)
        refine tD [0,1,2,3,4,5,7,9] ?_
        refine sa ?_
        exact yS
      ·rw[h4]at ht
       cases ht
     ·have h4:o0≠8:=by simpa using ht
      refine fj (lM ·) (ij _ _ ?_)
      refine bf rfl (fun ht=>?_) (fun ht=>?_)
      ·have h5:o0=9:=by simpa using ht
       refine ah (lM ·) ?_
       refine bf rfl (fun ht=>?_) (fun ht=>?_)
       ·have rQ:1<w:=by simp at ht;omega
        refine bT hp ax hc rfl fun Iq ns=>?_
        refine lM ?_
        refine ns _ _ (pv _ _ ⟨_,_,5,[w,w],.inr (.inl ⟨by simp,rfl⟩),rfl,rfl,?_⟩)
        refine tD [0,1,2,3,4,5,7,8] ?_
        refine sa ?_
        exact yS
       ·have rQ:w=1:=by simp at ht;omega
        refine bT hp ax hc rfl fun QW sU=>?_
        refine tV (aw nh (aw AR h1y)) ?_
        refine sU _ _ (pv _ _ ⟨_,_,o0,[1+y / 14 % 3,1+y / 14 % 3],.inr (.inr (.inr (.inl ⟨.inr h5,rQ,_,by omega,by omega,rfl⟩))),rfl,rfl,?_⟩)
        refine tD [0,1,2,3,4,5,7,9] ?_
        refine sa ?_
        exact yS
      ·have h5:o0≠9:=by simpa using ht
       refine ah (lM ·) ?_
       refine bf rfl (fun ht=>?_) (fun ht=>?_)
       ·have h7:o0=11:=by simpa using ht
        refine ah (lM ·) ?_
        refine bf rfl (fun ht=>?_) (fun ht=>?_)
        ·have rQ:w=1:=by simp at ht;omega
         refine bT hp ax hc rfl fun Io np=>?_
         refine lM ?_
         refine np _ _ (pv _ _ ⟨_,_,3,[w,w],.inr (.inl ⟨by simp,rfl⟩),rfl,rfl,?_⟩)
         refine tD [0,1,2,3,4,5,7,8] ?_
         refine sa ?_
         exact yS
        ·have rQ:1<w:=by simp at ht;omega
         have Ci:(w:Int) - 1=((w - 1:Nat):Int):=by omega
         refine bT hp ax hc rfl fun EH lC=>?_
         refine tV Ci ?_
         refine lC _ _ (pv _ _ ⟨_,_,11,[w - 1,1],.inr (.inr (.inr (.inr ⟨rfl,rQ,rfl⟩))),rfl,rfl,?_⟩)
         refine tD [0,1,2,3,4,5,7,9] ?_
         refine sa ?_
         refine DV ?_;subst h7;rfl
       ·have h7:o0≠11:=by simpa using ht
        refine bg (pv _ _ ⟨_,_,o0,[w,w],.inr (.inl ⟨by omega,rfl⟩),rfl,rfl,?_⟩)
        refine tD [0,1,2,3,4,5,7,8] ?_
        refine sa ?_
        exact yS
theorem Ga:EE 2:=fun C s b i w hC hs hb hl h1 h2 hi=>jh1 0 Wp C s b i w hC hs hb hl h1 h2 (by decide) hi
theorem yj2:EE 3:=fun C s b i w hC hs hb hl h1 h2 hi=>jh1 1 Ga C s b i w hC hs hb hl h1 h2 (by decide) hi
end Go.Proofs.YtapjobndmmkanaaGreat
