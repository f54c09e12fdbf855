/- Expressions that bytes describe. -/
import Derived.Test.YtapjobndmmkanaaGreatQr
import Derived.Test.YtapjobndmmkanaaGreatVb
set_option linter.unusedVariables false
set_option linter.unusedSimpArgs false
set_option maxRecDepth 100000
set_option maxHeartbeats 4000000
namespace Go.Proofs.YtapjobndmmkanaaGreat
open Go.Proofs.Tryz
open Go Go.RowKit
def zx8:Nat→Nat
 |0=>0
 |1=>0
 |d+2=>3*zx8 (d+1)+32
def byD:Nat→Nat
 |0=>1
 |1=>1
 |d+2=>3*byD (d+1)+1
def jfi(d:Nat):Nat:=1000000*(10 - d)
theorem yia{d:Nat}(h:d≤3):jfi (d+2)+300001≤jfi (d+1)∧jfi (d+1)≤10000000:=by
 rcases(show d=0∨d=1∨d=2∨d=3 by omega)with rfl|rfl|rfl|rfl<;>decide
theorem jsb:∀d,1≤byD d
 |0=>qao _
 |1=>qao _
 |d+2=>by rw[byD];omega
def zf6(b:List Int)(i:Nat):AV:=.agg [.d (bytesD b),.d (iD i)]
def tyV(e:Ex)(b:List Int)(j:Nat):AV:=.agg ((exC e++zbk b j).map .d)
def TyQ(C:Ct)(s:Sc)(b:List Int)(i w n m:Nat)(x:AV)(S':zad):Prop:=∃(e:Ex) (j:Nat),Fit C s.q w n e∧i≤j∧j≤i+m∧x=tyV e b j∧∃g,S'=[zdv s,.cells g]
def TyK(d:Nat):Prop:=∀(C:Ct) (s:Sc) (b:List Int) (i w:Nat),CtOk C→ScOk C s→zg1 b→b.length≤maxLen→1≤w→w+d≤8→i≤jfi d→
 ScS prog [0] 56 [zf6 b i,.agg (scV s),.agg [.d (iD w),.d (iD d)]] [zdv s,.free] (TyQ C s b i w (zx8 d) (byD d))
theorem zce(e:Ex):∃o k w cs n,exC e=[iD o,nS,iD k,nS,iD w,nS,.fs cs n]:=by cases e<;>exact⟨_,_,_,_,_,rfl⟩
theorem zne{p q:Prop}(hq:q)(h:p=q:=by
 conv=>lhs;simp -dsimp -implicitDefEqProofs (disch:=first|assumption|omega|(simp only[r_z,zb8,zbm]<;>omega)|decide) only[r_r,↓reduceIte,Nat.reduceEqDiff,Nat.reduceAdd,D.fix,Int.reduceToNat,Nat.reduceMul,Nat.reduceBNe,Nat.reduceBEq,zf6,zbk,scV,nI,exR,zb4,zb5,qae]):p:=h.mpr hq
theorem yb3{p q r:Prop}(e:r)(hq:q)(h:r→p=q:=by
 intro hY
 conv=>lhs;simp -dsimp -implicitDefEqProofs (disch:=first|assumption|omega|(simp only[r_z,zb8,zbm]<;>omega)|decide) only[r_r,↓reduceIte,Nat.reduceEqDiff,Nat.reduceAdd,D.fix,Int.reduceToNat,Nat.reduceMul,Nat.reduceBNe,Nat.reduceBEq,r_w,zf6,zbk,scV,nI,exR,zb4,zb5,qae,hY]):p:=(h e).mpr hq
theorem yb4(k:List Nat){m:List Nat}{τ τ1:Fr}{H H1:zad}(h:Rt m (fun t=>gcV k (τ t)) (gcH k H) τ1 H1)(a:∀i∈m,k[i]? =some i:=by decide)(b:k.Nodup:=by decide)(c:∀i∈k,i<H.length:=by
 simp[fzH,gcH]):Rt m τ H τ1 H1:=Rt.trans (Rt.gc a b c) h
theorem jsc{m:List Nat}{τ τ':Fr}{H H':zad}(h2:H=H')(h:zgk τ τ':=by
 repeat (first|exact zaq _|refine zak ?_ (by first|rfl|(simp[r_f,zb8,zbm];done)|simp[r_f,zb8,zbm, *]))):Rt m τ H τ' H':=Rt.end h h2
theorem jj3{p q:Prop}(hq:q)(h:p=q:=by
 conv=>lhs;simp -dsimp -implicitDefEqProofs (disch:=first|assumption|omega|(simp only[r_z,zb8,zbm]<;>omega)|decide) only[r_r,↓reduceIte,Nat.reduceEqDiff,Nat.reduceAdd,D.fix,Int.reduceToNat,Nat.reduceMul,Nat.reduceBNe,Nat.reduceBEq,zf6,zbk,scV,nI,exR,zb4,zb5,zjo,jjh]):p:=h.mpr hq
theorem jxj{p q:Prop}(hq:q)(h:p=q:=by
 conv=>lhs;simp only[r_g,Nat.reduceAdd,↓reduceIte,Nat.reduceEqDiff,zf6,zbk,scV,nI,exR,zb4,zb5]):p:=h.mpr hq
theorem juw(C:Ct)(s:Sc)(b:List Int)(i w:Nat)(hC:CtOk C)(hs:ScOk C s)(hb:zg1 b)(hl:b.length≤maxLen)(hw:1≤w)(hw8:w+1≤8)(hi:i≤jfi 1):ScS prog [0] 56 [zf6 b i,.agg (scV s),.agg [.d (iD w),.d (iD 1)]] ([zdv s,.free]) (TyQ C s b i w (zx8 1) (byD 1)):=by
 refine zbg (fn:=f56) (by kernel_rfl) func56 rfl (qaf rfl) fun c hc hp=>?_
 refine zf8 ?_
 have hcp:jfi 1=9000000:=by decide
 obtain⟨y,hy⟩:∃y:Nat,byN b i=y:=⟨(byN b i).toNat,by have:=(zgn hb i).1;omega⟩
 have hy2:=(zgn hb i).2
 have hy14:(y:Int) / 14=((y / 14:Nat):Int):=by omega
 have hyb:=ziw b i hb hl
 rw[hy]at hyb
 refine szq (zne ·) ?_
 refine zay zah hc mixed rfl (q:=0) (by kernel_rfl) (by kernel_rfl) fun K2 hK2=>?_
 refine zne ?_
 refine hK2 _ _ ?_
 refine zaf hp zah hc rfl fun K3 hK3=>?_
 refine zne ?_
 refine zbl (hyb) rfl ?_
 refine zne ?_
 refine hK3 _ _ ?_
 refine zaf hp zah hc rfl fun K4 hK4=>?_
 refine zne ?_
 refine zbl (jfe b i 1 (by omega) (by omega)) rfl ?_
 refine zne ?_
 refine hK4 _ _ ?_
 refine szq (zne ·) ?_
 refine zaa fun K6 hK6=>?_
 refine zaf hp zah hc rfl fun K7 hK7=>?_
 simp -dsimp -implicitDefEqProofs (disch:=first|assumption|omega|(simp only[r_z,zb8,zbm]<;>omega)|decide) only[r_r,↓reduceIte,Nat.reduceEqDiff,Nat.reduceAdd,D.fix,Int.reduceToNat,Nat.reduceMul,Nat.reduceBNe,Nat.reduceBEq,zf6,zbk,scV,nI,exR,zb4,zb5,Int.reduceLE,decide_true,Bool.not_true,qae]
 refine hK7 _ _ ?_
 refine zan rfl (fun ht=>?_) (fun ht=>?_)
 ·refine zbc zah hp hc mixed rfl [(0,[]),(1,[]),(2,[]),(3,[]),(5,[]),(4,[5]),(6,[]),(7,[])] [[],[],[],[2],[0,1,2,3],[],[0,1,2,3,4,5],[0,1,2,3,4,5,6]] 0 (by kernel_rfl) fun K8 hK8=>?_
  refine yb3 hy14 ?_
  refine zpl (S:=[zdv s,.free]) (T:=[.cells (avs (zbk b (i+1))),.cells (scV s),.cells [.d (iD w),.d (iD 1)],.cells [.d (iD 0),.d nS,.d (iD 0),.d nS,.d (iD 0),.d nS,.d (.val (.slice none 0 0)),.d (.val (.slice none 0 0)),.d (iD 0)]]) (jsa C s w (y / 14) hs hw (by omega) (by omega)) rfl (qaf rfl) (by first|rfl|(simp[AV.allIs,AV.allI,zas,zal,zam,okI,ltI,zae,zaz,zbn,scV,zbk];done)|(intro o ho;simp at ho;done)) (fun t=>zbi (by first|rfl|(simp[AV.allIs,AV.allI,zas,zal,zam,okI,ltI,zae,zaz,zbn,scV,zbk];done)|(intro o ho;simp at ho;done)) t) (fun t=>zbi (by first|rfl|(simp[AV.allIs,AV.allI,zas,zal,zam,okI,ltI,zae,zaz,zbn,scV,zbk];done)|(intro o ho;simp at ho;done)) t) (by first|rfl|(simp[AV.allIs,AV.allI,zas,zal,zam,okI,ltI,zae,zaz,zbn,scV,zbk];done)|(intro o ho;simp at ho;done)) (by first|rfl|(simp[AV.allIs,AV.allI,zas,zal,zam,okI,ltI,zae,zaz,zbn,scV,zbk];done)|(intro o ho;simp at ho;done)) (by first|rfl|(simp[AV.allIs,AV.allI,zas,zal,zam,okI,ltI,zae,zaz,zbn,scV,zbk];done)|(intro o ho;simp at ho;done)) ?_
  rintro _ _ ⟨e,he,rfl,g,rfl⟩
  refine⟨rfl,?_⟩
  obtain⟨xo,xk,xw,xc,xn,hex⟩:=zce e;unfold exV;rw[hex]
  refine yb3 hy14 ?_
  refine hK8 _ _ ?_
  refine zav hp (τ':=frL [(6,.op 1 0)]) (H':=[zdv s,.cells [.d (iD xo),.d nS,.d (iD xk),.d nS,.d (iD xw),.d nS,.d (.fs xc xn),.d (bytesD b),.d (iD (i+1:Nat))]]) ?_ ?_
  ·refine yb4 [0,5] ?_
   refine jsc ?_
   refine jxj ?_;simp[bytesD,iD]
  refine zaj ?_
  try dsimp only[zcg,za5]
  refine za6 rfl ?_
  refine jj3 ?_
  show ∃_,_
  exact⟨e,i+1,he,by omega,by show i+1≤i+1;omega,by unfold tyV;rw[hex];simp[zbk,iD,bytesD],_,rfl⟩
 ·simp at ht
theorem ykz:TyK 1:=fun C s b i w hC hs hb hl h1 h2 hi=>juw C s b i w hC hs hb hl h1 h2 hi
theorem yb5{C:Ct}{s:Sc}(hs:ScOk C s){k:Nat}(h:k<s.mems.length):k<C.mems.length∧(nth C.mems k).2=(nth s.mems k).w:=by
 have hm:=hs.m
 have hl:=congrArg List.length hm
 simp only[List.length_map]at hl
 refine⟨by omega,?_⟩
 have:nth (C.mems.map (·.2)) k=nth (s.mems.map (·.w)) k:=by rw[hm]
 rw[zfg (by omega),zfg h]at this
 exact this
theorem yb6{p q r:Prop}(e:r)(hq:q)(h:r→p=q:=by
 intro hY
 conv=>lhs;simp -dsimp -implicitDefEqProofs (disch:=first|assumption|omega|(simp only[r_z,zb8,zbm]<;>omega)|decide) only[r_r,↓reduceIte,Nat.reduceEqDiff,Nat.reduceAdd,D.fix,Int.reduceToNat,Nat.reduceMul,Nat.reduceBNe,Nat.reduceBEq,zf6,zbk,scV,nI,exR,zb4,zb5,ym5,zdv,qae,hY]):p:=(h e).mpr hq
theorem zpw{p q r:Prop}(e:r)(hq:q)(h:r→p=q:=by
 intro hY
 conv=>lhs;simp -dsimp -implicitDefEqProofs (disch:=first|assumption|omega|(simp only[r_z,zb8,zbm]<;>omega)|decide) only[r_r,↓reduceIte,Nat.reduceEqDiff,Nat.reduceAdd,D.fix,Int.reduceToNat,Nat.reduceMul,Nat.reduceBNe,Nat.reduceBEq,zf6,zbk,scV,nI,exR,zb4,zb5,qae,hY]):p:=(h e).mpr hq
theorem ygu{P:Program}{sm:List Nat}{N:Nat}{τ:Fr}{H:zad}{f:FuncId}{args:List AV}{K0 KK:AV→zad→Prop}{ks:List Nat}(S T:zad)(h:ScS P ks f args S K0)(hK:∀x S',K0 x S'→S'.length=S.length∧KK x (S'++T))(hH:H=S++T:=by
 rfl) (hm:sm.all (okI ks S.length)=true:=by
 first|rfl|(simp[AV.allIs,AV.allI,zas,zal,zam,okI,ltI,zae,zaz,zbn,scV,zbk];done)|(intro o ho;simp at ho;done)) (hτ:∀t,(τ t).allI (okI ks S.length)=true:=by
 exact fun t=>zbi (by first|rfl|(simp[AV.allIs,AV.allI,zas,zal,zam,okI,ltI,zae,zaz,zbn,scV,zbk];done)|(intro o ho;simp at ho;done)) t) (ha:AV.allIs (ltI S.length) args=true:=by
 first|rfl|(simp[AV.allIs,AV.allI,zas,zal,zam,okI,ltI,zae,zaz,zbn,scV,zbk];done)|(intro o ho;simp at ho;done)) (hS:∀o∈S,o.allI (ltI S.length)=true:=by
 first|rfl|(simp[AV.allIs,AV.allI,zas,zal,zam,okI,ltI,zae,zaz,zbn,scV,zbk];done)|(intro o ho;simp at ho;done)) (hT:∀o∈T,o.allI (okI ks S.length)=true:=by
 first|rfl|(simp[AV.allIs,AV.allI,zas,zal,zam,okI,ltI,zae,zaz,zbn,scV,zbk];done)|(intro o ho;simp at ho;done)):kC P sm N H τ (.d (.val (.func (.func f) #[] #[]))) args true (tg KK):=zk7 h hH hm hτ ha hS hT hK
theorem yk0{p:Prop}(h:p:=by
 first|rfl|(simp only[r_g,Nat.reduceAdd,↓reduceIte,Nat.reduceEqDiff,zf6,zbk,scV,nI,exR,zb4,zb5];first|done|rfl)):p:=h
theorem zw9(d:Nat)(hT:TyK (d+1))(C:Ct)(s:Sc)(b:List Int)(i w y:Nat)(hC:CtOk C)(hs:ScOk C s)(hb:zg1 b)(hl:b.length≤maxLen)(hw:1≤w)(hw8:w+(d+2)≤8)(hd:d≤3)(hi:i≤jfi (d+1))(hy:y<1000):ScS prog [0] 113 [zf6 b i,.agg (scV s),.agg [.d (iD w),.d (iD (d+2:Nat)),.d (iD y)]] ([zdv s,.free]) (TyQ C s b i w (zx8 (d+2)) (byD (d+2) - 1)):=by
 refine zbg (fn:=f113) (by kernel_rfl) func113 rfl (qaf rfl) fun c hc hp=>?_
 refine zf8 ?_
 have hml:=hs.ml
 have hy3:(y:Int) / 3=((y / 3:Nat):Int):=by omega
 have hy33:((y / 3:Nat):Int) % 3=((y / 3 % 3:Nat):Int):=by omega
 have hy32:((y / 3:Nat):Int) % 2=((y / 3 % 2:Nat):Int):=by omega
 have hdd:((d+2:Nat):Int) - 1=((d+1:Nat):Int):=by omega
 have hw1':(1:Int)+((y / 3 % 3:Nat):Int)=((1+y / 3 % 3:Nat):Int):=by omega
 have hw2':(w:Int)+((y / 3 % 2:Nat):Int)=((w+y / 3 % 2:Nat):Int):=by omega
 have hcs:zx8 (d+2)=3*zx8 (d+1)+32:=rfl
 have hby:byD (d+2)=3*byD (d+1)+1:=rfl
 have hbp:=jsb (d+1)
 refine szq (zne ·) ?_
 refine zay zah hc mixed rfl (q:=0) (by kernel_rfl) (by kernel_rfl) fun K2 hK2=>?_
 refine zne ?_
 refine hK2 _ _ ?_
 refine zaa fun K3 hK3=>?_
 refine zaf hp zah hc rfl fun K4 hK4=>?_
 simp -dsimp -implicitDefEqProofs (disch:=first|assumption|omega|(simp only[r_z,zb8,zbm]<;>omega)|decide) only[r_r,↓reduceIte,Nat.reduceEqDiff,Nat.reduceAdd,D.fix,Int.reduceToNat,Nat.reduceMul,Nat.reduceBNe,Nat.reduceBEq,zf6,zbk,scV,nI,exR,zb4,zb5]
 refine hK4 _ _ ?_
 refine zag ?_
 refine zao hp (fun τ' H' mm=>∃(k:Nat),(k≤s.mems.length)∧mm=s.mems.length - k∧H'=zdv s:: .free::[.cells (avs (zbk b i)),.cells (scV s),.cells [.d (iD w),.d (iD (d+2:Nat)),.d (iD y)],.cells [.d (iD 0),.d nS,.d (iD 0),.d nS,.d (iD 0),.d nS,.d (.val (.slice none 0 0)),.d (.val (.slice none 0 0)),.d (iD 0)]]∧τ'=frL [(3,.op 2 0),(4,.op 3 0),(6,.op 5 0),(7,.d (iD w)),(8,.d (iD (d+2:Nat))),(9,.d (iD y)),(10,.d (iD k))]) (s.mems.length) ?_ ⟨0,qap _,rfl,rfl,rfl⟩ ?_
 ·refine jsc ?_
  refine jxj ?_;simp[nS,iD,oD]
 rintro τ' H' mm ⟨k,hk,rfl,rfl,rfl⟩
 refine zaa fun K5 hK5=>?_
 refine szq (zne ·) ?_
 refine zan rfl (fun ht=>?_) (fun ht=>?_)
 ·have hlt:k<s.mems.length:=by simp at ht;omega
  obtain⟨hk1,hk2⟩:=yb5 hs hlt
  refine zai (hK5 _ _ ?_)
  refine zaa fun K7 hK7=>?_
  refine zag ?_
  refine zaf hp zah hc rfl fun K8 hK8=>?_
  rcases tf (((nth s.mems k).w:Int)==(w:Int))with e1|e1
  ·refine yb6 e1 ?_
   refine hK8 _ _ ?_
   refine zan rfl (fun ht=>?_) (fun ht=>?_)
   ·have hww:(nth s.mems k).w=w:=by simp at e1;omega
    have h33:y / 3 % 3<3:=Nat.mod_lt _ (by decide)
    refine zaf hp zah hc rfl fun K9 hK9=>?_
    refine zpw (sza hy3 (sza hy33 (sza hw1' hdd))) ?_
    refine ygu ([zdv s,.free]) ([.cells (avs (zbk b i)),.cells (scV s),.cells [.d (iD w),.d (iD (d+2:Nat)),.d (iD y)],.cells [.d (iD 0),.d nS,.d (iD 0),.d nS,.d (iD 0),.d nS,.d (.val (.slice none 0 0)),.d (.val (.slice none 0 0)),.d (iD 0)]]) (hT C s b i (1+y / 3 % 3) hC hs hb hl (by omega) (by omega) hi) ?_
    rintro _ _ ⟨e,j,he,hj1,hj2,rfl,g,rfl⟩
    refine⟨rfl,?_⟩
    obtain⟨xo,xk,xw,xc,xn,hex⟩:=zce e;unfold tyV;rw[hex];dsimp only[List.map_cons,List.map_nil,List.cons_append,List.nil_append,zbk]
    refine zpw (sza hy3 (sza hy33 (sza hw1' hdd))) ?_
    refine hK9 _ _ ?_
    refine szq (zne ·) ?_
    refine zav hp (τ':=frL [(6,.op 1 0)]) (H':=[zdv s,.cells [.d (iD 17),.d nS,.d (iD k),.d nS,.d (iD 0),.d nS,.d (.fs [iD xo,nS,iD xk,nS,iD xw,nS,.fs xc xn] 1),.d (bytesD b),.d (iD j)]]) ?_ ?_
    ·refine Rt.trans (Rt.fz (id:=7) (l:=[iD xo,nS,iD xk,nS,iD xw,nS,.fs xc xn]) rfl) ?_
     refine yb4 [0,5] ?_
     refine jsc ?_
     refine jxj ?_;simp[bytesD,iD,nS,zbz,gcV]
    refine zaj ?_
    try dsimp only[zcg,za5]
    refine za6 rfl ?_
    refine jj3 ?_
    show ∃_,_
    have hcm:=hC.m k hk1
    exact⟨.rd k e,j,⟨⟨he.t,hk1⟩,hk2.trans hww,by have:=he.n;simp only[za8];omega⟩,hj1,by omega,by simp[tyV,exC,hex,exR,zbk,nS,iD,bytesD],_,rfl⟩
   ·refine zai (hK7 _ _ ?_)
    refine za1 hp zah hc rfl fun K11 hK11=>?_
    refine zne ?_
    refine hK11 _ _ ⟨_,_,_,?_,⟨k+1,by omega,rfl,rfl,rfl⟩,?_⟩
    ·first|omega|(simp only[List.length_cons];omega)|(dsimp only;omega)
    ·refine jsc ?_
     exact yk0
  ·refine yb6 e1 ?_
   refine hK8 _ _ ?_
   refine szf ?_
   refine zai (hK7 _ _ ?_)
   refine za1 hp zah hc rfl fun K12 hK12=>?_
   refine zne ?_
   refine hK12 _ _ ⟨_,_,_,?_,⟨k+1,by omega,rfl,rfl,rfl⟩,?_⟩
   ·first|omega|(simp only[List.length_cons];omega)|(dsimp only;omega)
   ·refine jsc ?_
    exact yk0
 ·refine zau (hK3 _ _ ?_)
  refine zaa fun K13 hK13=>?_
  refine zaf hp zah hc rfl fun K14 hK14=>?_
  rcases tf ((y:Int) % 3==1)with e1|e1
  ·refine zpw e1 ?_
   refine hK14 _ _ ?_
   refine zan rfl (fun ht=>?_) (fun ht=>?_)
   ·have hw1:1<w:=by simp at ht;omega
    have hwm:(w:Int) - 1=((w - 1:Nat):Int):=by omega
    refine zaf hp zah hc rfl fun K15 hK15=>?_
    refine zpw (sza hwm hdd) ?_
    refine ygu ([zdv s,.free]) ([.cells (avs (zbk b i)),.cells (scV s),.cells [.d (iD w),.d (iD (d+2:Nat)),.d (iD y)],.cells [.d (iD 0),.d nS,.d (iD 0),.d nS,.d (iD 0),.d nS,.d (.val (.slice none 0 0)),.d (.val (.slice none 0 0)),.d (iD 0)]]) (hT C s b i (w - 1) hC hs hb hl (by omega) (by omega) hi) ?_
    rintro _ _ ⟨e,j,he,hj1,hj2,rfl,g,rfl⟩
    refine⟨rfl,?_⟩
    obtain⟨xo,xk,xw,xc,xn,hex⟩:=zce e;unfold tyV;rw[hex];dsimp only[List.map_cons,List.map_nil,List.cons_append,List.nil_append,zbk]
    refine zpw (sza hwm hdd) ?_
    refine hK15 _ _ ?_
    refine szq (zne ·) ?_
    refine zav hp (τ':=frL [(6,.op 1 0)]) (H':=[zdv s,.cells [.d (iD 13),.d nS,.d (iD 0),.d nS,.d (iD w),.d nS,.d (.fs [iD xo,nS,iD xk,nS,iD xw,nS,.fs xc xn] 1),.d (bytesD b),.d (iD j)]]) ?_ ?_
    ·refine Rt.trans (Rt.fz (id:=7) (l:=[iD xo,nS,iD xk,nS,iD xw,nS,.fs xc xn]) rfl) ?_
     refine yb4 [0,5] ?_
     refine jsc ?_
     refine jxj ?_;simp[bytesD,iD,nS,zbz,gcV]
    refine zaj ?_
    try dsimp only[zcg,za5]
    refine za6 rfl ?_
    refine jj3 ?_
    show ∃_,_
    exact⟨.ext w e,j,⟨⟨he.t,by rw[he.w];omega,by omega⟩,rfl,by have:=he.n;simp only[za8];omega⟩,hj1,by omega,by simp[tyV,exC,hex,exR,zbk,nS,iD,bytesD],_,rfl⟩
   ·refine zai (hK13 _ _ ?_)
    have h22:y / 3 % 2<2:=Nat.mod_lt _ (by decide)
    refine zaf hp zah hc rfl fun K17 hK17=>?_
    refine zpw (sza hy3 (sza hy32 (sza hw2' hdd))) ?_
    refine ygu ([zdv s,.free]) ([.cells (avs (zbk b i)),.cells (scV s),.cells [.d (iD w),.d (iD (d+2:Nat)),.d (iD y)],.cells [.d (iD 0),.d nS,.d (iD 0),.d nS,.d (iD 0),.d nS,.d (.val (.slice none 0 0)),.d (.val (.slice none 0 0)),.d (iD 0)]]) (hT C s b i (w+y / 3 % 2) hC hs hb hl (by omega) (by omega) hi) ?_
    rintro _ _ ⟨e,j,he,hj1,hj2,rfl,g,rfl⟩
    refine⟨rfl,?_⟩
    obtain⟨xo,xk,xw,xc,xn,hex⟩:=zce e;unfold tyV;rw[hex];dsimp only[List.map_cons,List.map_nil,List.cons_append,List.nil_append,zbk]
    refine zpw (sza hy3 (sza hy32 (sza hw2' hdd))) ?_
    refine hK17 _ _ ?_
    refine szq (zpw (sza hy3 hy32) ·) ?_
    refine zav hp (τ':=frL [(6,.op 1 0)]) (H':=[zdv s,.cells [.d (iD 12),.d nS,.d (iD (y / 3 % 2:Nat)),.d nS,.d (iD w),.d nS,.d (.fs [iD xo,nS,iD xk,nS,iD xw,nS,.fs xc xn] 1),.d (bytesD b),.d (iD j)]]) ?_ ?_
    ·refine Rt.trans (Rt.fz (id:=7) (l:=[iD xo,nS,iD xk,nS,iD xw,nS,.fs xc xn]) rfl) ?_
     refine yb4 [0,5] ?_
     refine jsc ?_
     refine jxj ?_;simp[bytesD,iD,nS,zbz,gcV]
    refine zaj ?_
    try dsimp only[zcg,za5]
    refine za6 rfl ?_
    refine jj3 ?_
    show ∃_,_
    exact⟨.slc (y / 3 % 2) w e,j,⟨⟨he.t,hw,by rw[he.w];omega⟩,rfl,by have:=he.n;simp only[za8];omega⟩,hj1,by omega,by simp[tyV,exC,hex,exR,zbk,nS,iD,bytesD],_,rfl⟩
  ·refine zpw e1 ?_
   refine hK14 _ _ ?_
   refine szf ?_
   refine zai (hK13 _ _ ?_)
   have h22:y / 3 % 2<2:=Nat.mod_lt _ (by decide)
   refine zaf hp zah hc rfl fun K19 hK19=>?_
   refine zpw (sza hy3 (sza hy32 (sza hw2' hdd))) ?_
   refine ygu ([zdv s,.free]) ([.cells (avs (zbk b i)),.cells (scV s),.cells [.d (iD w),.d (iD (d+2:Nat)),.d (iD y)],.cells [.d (iD 0),.d nS,.d (iD 0),.d nS,.d (iD 0),.d nS,.d (.val (.slice none 0 0)),.d (.val (.slice none 0 0)),.d (iD 0)]]) (hT C s b i (w+y / 3 % 2) hC hs hb hl (by omega) (by omega) hi) ?_
   rintro _ _ ⟨e,j,he,hj1,hj2,rfl,g,rfl⟩
   refine⟨rfl,?_⟩
   obtain⟨xo,xk,xw,xc,xn,hex⟩:=zce e;unfold tyV;rw[hex];dsimp only[List.map_cons,List.map_nil,List.cons_append,List.nil_append,zbk]
   refine zpw (sza hy3 (sza hy32 (sza hw2' hdd))) ?_
   refine hK19 _ _ ?_
   refine szq (zpw (sza hy3 hy32) ·) ?_
   refine zav hp (τ':=frL [(6,.op 1 0)]) (H':=[zdv s,.cells [.d (iD 12),.d nS,.d (iD (y / 3 % 2:Nat)),.d nS,.d (iD w),.d nS,.d (.fs [iD xo,nS,iD xk,nS,iD xw,nS,.fs xc xn] 1),.d (bytesD b),.d (iD j)]]) ?_ ?_
   ·refine Rt.trans (Rt.fz (id:=7) (l:=[iD xo,nS,iD xk,nS,iD xw,nS,.fs xc xn]) rfl) ?_
    refine yb4 [0,5] ?_
    refine jsc ?_
    refine jxj ?_;simp[bytesD,iD,nS,zbz,gcV]
   refine zaj ?_
   try dsimp only[zcg,za5]
   refine za6 rfl ?_
   refine jj3 ?_
   show ∃_,_
   exact⟨.slc (y / 3 % 2) w e,j,⟨⟨he.t,hw,by rw[he.w];omega⟩,rfl,by have:=he.n;simp only[za8];omega⟩,hj1,by omega,by simp[tyV,exC,hex,exR,zbk,nS,iD,bytesD],_,rfl⟩
end Go.Proofs.YtapjobndmmkanaaGreat
