/- netlist's builder: the bits of an expression. -/
import Derived.Test.YtapjobndmmkanaaGreatQr
import Derived.Test.YtapjobndmmkanaaGreatYm
set_option linter.unusedVariables false
set_option linter.unusedSimpArgs false
set_option maxRecDepth 100000
set_option maxHeartbeats 4000000
namespace Go.Proofs.YtapjobndmmkanaaGreat
open Go.Proofs.Tryz
open Go Go.RowKit
theorem yj4{t et:TypeId}(h0:zj6 prog t=some (3,et)){a:Int}(ha:I64 a):zk8 prog t (.int .i64 a):=by
 refine⟨rfl,fun kt et' hm=>?_⟩
 rw[h0]at hm;cases hm
 exact ji1 underlying3 ha
structure BEOk (e:BE):Prop where
 i:e.ins=zh9 e.p
 m:InM e.ins e.mi
 l:e.ins.length≤1000
 k:PrOk e.p
 rl:e.p.regs.length≤100
theorem BEOk.mp{e:BE}(h:BEOk e):mP e.p=mE2 e:=by unfold mP mE2;rw[h.i]
def zgo(e:BE)(gs:Gs)(ex:Ex):Gs × List Int:=zbh (ctP e.p) (inp e.p) (mE2 e) e.dat gs ex
theorem zz0{e:BE}(h:BEOk e)(gs:Gs)(ex:Ex):zgo e gs ex=zci e.p e.dat gs ex:=by unfold zgo zci;rw[h.mp]
def yfw(e:BE)(q:Bool)(ex:Ex):Prop:=∀(gs:Gs) (μ:Mp),BOk e gs μ→DaOk (ctP e.p) q (mE2 e) gs e.dat→WT (ctP e.p) q ex→gs.length+za8 (ctP e.p) ex≤90000→
 ScS prog [0,1,3,4,5,6,7] 92 [.op 0 0,.agg ((exS ex).map .d)] (bH e gs μ) (ye0 e (zgo e gs ex))
abbrev tPm:TypeId:=249
theorem zge{l:List Ex}{k:Nat}(h:k<l.length):zbz (l.flatMap exC) (k*7) 7=some (exS (nth l k)):=by rw[←zeo];exact jr5 h
theorem yj5:zcm (.d (.val .nilFunc))=some [.d (.val .nilFunc)]:=rfl
theorem yfx{c:Ct}{q:Bool}{e:Ex}(h:WT c q e):1≤zcz e∧zcz e≤18:=by
 cases e with
 |two o a b=>rcases h.1 with rfl|rfl|rfl<;>simp[zcz]
 |_=>simp[zcz]
theorem yhc:mtB prog KT tPm=some .nilFunc:=by kernel_rfl
theorem zr4{a:Int}(h0: -1000000≤a)(h1:a≤1000000):zk8 prog tPm (.int .i64 a):=yj4 (et:=248) (by kernel_rfl) (zh2 (by omega) (by omega))
theorem yhd(o:Int):zl2 (.int .i64 o) (zp8 (.int .i64 5) (.func (.func 143) #[] #[]) (zp8 (.int .i64 4) (.func (.func 141) #[] #[]) (zp8 (.int .i64 3) (.func (.func 95) #[] #[]) ([],0))))=
  if o=5 then some (.func (.func 143) #[] #[])else if o=4 then some (.func (.func 141) #[] #[])else if o=3 then some (.func (.func 95) #[] #[])else none:=by
 classical
 rw[zha rfl rfl,zha rfl rfl,zha rfl rfl]
 simp only[Value.int.injEq,true_and]
 rfl
theorem yhe{l:List (List Int)}(h:l.length=1):l=[nth l 0]:=by
 match l,h with
 |[a],_=>rfl
theorem jti{l:List (List Int)}(h:l.length=2):l=[nth l 0,nth l 1]:=by
 match l,h with
 |[a,b],_=>rfl
theorem ynp{l:List (List Int)}(h:l.length=3):l=[nth l 0,nth l 1,nth l 2]:=by
 match l,h with
 |[a,b,d],_=>rfl
theorem zd8{p q:Prop}(hq:q)(h:p=q:=by
 conv=>lhs;simp -dsimp -implicitDefEqProofs (disch:=first|assumption|omega|(simp only[r_z,zac,zab,zbm]<;>omega)|decide) only[r_r,↓reduceIte,Nat.reduceEqDiff,Nat.reduceAdd,D.fix,Int.reduceToNat,Nat.reduceMul,Nat.reduceBNe,Nat.reduceBEq,r_m,bH,bO,zar,za3,bP,exS,exR,nS,zge,zrv,intssD,List.cons_append,List.nil_append,qae]):p:=h.mpr hq
theorem zja(k:List Nat){m:List Nat}{τ τ1:Fr}{H H1:zad}(h:Rt m (fun t=>gcV k (τ t)) (gcH k H) τ1 H1)(a:∀i∈m,k[i]? =some i:=by decide)(b:k.Nodup:=by decide)(c:∀i∈k,i<H.length:=by
 simp[fzH,gcH]):Rt m τ H τ1 H1:=Rt.trans (Rt.gc a b c) h
theorem zjb{m:List Nat}{τ τ':Fr}{H H':zad}(h2:H=H')(h:zgk τ τ':=by
 repeat (first|exact zaq _|refine zak ?_ (by first|rfl|(simp[r_f,zac,zab,zbm];done)|simp[r_f,zac,zab,zbm, *]))):Rt m τ H τ' H':=Rt.end h h2
theorem zon{p q:Prop}(hq:q)(h:p=q:=by
 conv=>lhs;simp -dsimp -implicitDefEqProofs (disch:=first|assumption|omega|(simp only[r_z,zac,zab,zbm]<;>omega)|decide) only[r_r,↓reduceIte,Nat.reduceEqDiff,Nat.reduceAdd,D.fix,Int.reduceToNat,Nat.reduceMul,Nat.reduceBNe,Nat.reduceBEq,r_w,r_m,bH,bO,zar,za3,bP,exS,exR,nS,zge,zrv,intssD,List.cons_append,List.nil_append,qae]):p:=h.mpr hq
theorem jo3{P:Program}{sm:List Nat}{N:Nat}{τ0 τ:Fr}{H:zad}{f:FuncId}{args:List AV}{K0 KK:AV→zad→Prop}{ks:List Nat}(S T:zad)(h:ScS P ks f args S K0)(hK:∀x S',K0 x S'→S'.length=S.length∧KK x (S'++T))(hH:H=S++T:=by
 rfl) (hN:S.length≤N:=by
 exact qaf rfl) (hm:sm.all (okI ks S.length)=true:=by
 first|rfl|(simp[AV.allIs,AV.allI,zas,zal,zam,okI,ltI,zae,zaz,bH,bO,bP,exS,exR];done)|(intro o ho;simp at ho;done)) (hτ:∀t,(τ t).allI (okI ks S.length)=true:=by
 exact fun t=>zbi (by first|rfl|(simp[AV.allIs,AV.allI,zas,zal,zam,okI,ltI,zae,zaz,bH,bO,bP,exS,exR];done)|(intro o ho;simp at ho;done)) t) (h0:∀t,(τ0 t).allI (okI ks S.length)=true:=by
 exact fun t=>zbi (by first|rfl|(simp[AV.allIs,AV.allI,zas,zal,zam,okI,ltI,zae,zaz,bH,bO,bP,exS,exR];done)|(intro o ho;simp at ho;done)) t) (ha:AV.allIs (ltI S.length) args=true:=by
 first|rfl|(simp[AV.allIs,AV.allI,zas,zal,zam,okI,ltI,zae,zaz,bH,bO,bP,exS,exR];done)|(intro o ho;simp at ho;done)) (hS:∀o∈S,o.allI (ltI S.length)=true:=by
 first|rfl|(simp[AV.allIs,AV.allI,zas,zal,zam,okI,ltI,zae,zaz,bH,bO,bP,exS,exR];done)|(intro o ho;simp at ho;done)) (hT:∀o∈T,o.allI (okI ks S.length)=true:=by
 first|rfl|(simp[AV.allIs,AV.allI,zas,zal,zam,okI,ltI,zae,zaz,bH,bO,bP,exS,exR];done)|(intro o ho;simp at ho;done)):kE P sm N τ0 τ H (.d (.val (.func (.func f) #[] #[]))) args (tg KK):=zpl h hH hN hm hτ h0 ha hS hT hK
theorem jo4{p q r:Prop}(e:r)(hq:q)(h:r→p=q:=by
 intro hY
 conv=>lhs;simp -dsimp -implicitDefEqProofs (disch:=first|assumption|omega|(simp only[r_z,zac,zab,zbm]<;>omega)|decide) only[r_r,↓reduceIte,Nat.reduceEqDiff,Nat.reduceAdd,D.fix,Int.reduceToNat,Nat.reduceMul,Nat.reduceBNe,Nat.reduceBEq,r_m,bH,bO,zar,za3,bP,exS,exR,nS,zge,zrv,intssD,List.cons_append,List.nil_append,zol,yj5,zfc,jz2 yhc hko o3,Option.getD_some,Option.getD_none,Option.isSome_some,Option.isSome_none,qae,hY]):p:=(h e).mpr hq
theorem jo5{p q:Prop}(hq:q)(h:p=q:=by
 conv=>lhs;simp -dsimp -implicitDefEqProofs (disch:=first|assumption|omega|(simp only[r_z,zac,zab,zbm]<;>omega)|decide) only[r_r,↓reduceIte,Nat.reduceEqDiff,Nat.reduceAdd,D.fix,Int.reduceToNat,Nat.reduceMul,Nat.reduceBNe,Nat.reduceBEq,r_m,bH,bO,zar,za3,bP,exS,exR,nS,zge,zrv,intssD,List.cons_append,List.nil_append]):p:=h.mpr hq
theorem yfy{P:Program}{sm:List Nat}{N:Nat}{τ:Fr}{H:zad}{f:FuncId}{args:List AV}{K0 KK:AV→zad→Prop}{ks:List Nat}(S T:zad)(h:ScS P ks f args S K0)(hK:∀x S',K0 x S'→S'.length=S.length∧KK x (S'++T))(hH:H=S++T:=by
 rfl) (hm:sm.all (okI ks S.length)=true:=by
 first|rfl|(simp[AV.allIs,AV.allI,zas,zal,zam,okI,ltI,zae,zaz,bH,bO,bP,exS,exR];done)|(intro o ho;simp at ho;done)) (hτ:∀t,(τ t).allI (okI ks S.length)=true:=by
 exact fun t=>zbi (by first|rfl|(simp[AV.allIs,AV.allI,zas,zal,zam,okI,ltI,zae,zaz,bH,bO,bP,exS,exR];done)|(intro o ho;simp at ho;done)) t) (ha:AV.allIs (ltI S.length) args=true:=by
 first|rfl|(simp[AV.allIs,AV.allI,zas,zal,zam,okI,ltI,zae,zaz,bH,bO,bP,exS,exR];done)|(intro o ho;simp at ho;done)) (hS:∀o∈S,o.allI (ltI S.length)=true:=by
 first|rfl|(simp[AV.allIs,AV.allI,zas,zal,zam,okI,ltI,zae,zaz,bH,bO,bP,exS,exR];done)|(intro o ho;simp at ho;done)) (hT:∀o∈T,o.allI (okI ks S.length)=true:=by
 first|rfl|(simp[AV.allIs,AV.allI,zas,zal,zam,okI,ltI,zae,zaz,bH,bO,bP,exS,exR];done)|(intro o ho;simp at ho;done)):kC P sm N H τ (.d (.val (.func (.func f) #[] #[]))) args true (tg KK):=zk7 h hH hm hτ ha hS hT hK
theorem jo6{p q r:Prop}(e:r)(hq:q)(h:r→p=q:=by
 intro hY
 conv=>lhs;simp -dsimp -implicitDefEqProofs (disch:=first|assumption|omega|(simp only[r_z,zac,zab,zbm]<;>omega)|decide) only[r_r,↓reduceIte,Nat.reduceEqDiff,Nat.reduceAdd,D.fix,Int.reduceToNat,Nat.reduceMul,Nat.reduceBNe,Nat.reduceBEq,r_w,r_m,bH,bO,zar,za3,bP,exS,exR,nS,zge,zrv,intssD,List.cons_append,List.nil_append,qae,hY]):p:=(h e).mpr hq
theorem jo7{p q r:Prop}(e:r)(hq:q)(h:r→p=q:=by
 intro hY
 conv=>lhs;simp -dsimp -implicitDefEqProofs (disch:=first|assumption|omega|(simp only[r_z,zac,zab,zbm]<;>omega)|decide) only[r_r,↓reduceIte,Nat.reduceEqDiff,Nat.reduceAdd,D.fix,Int.reduceToNat,Nat.reduceMul,Nat.reduceBNe,Nat.reduceBEq,r_m,bH,bO,zar,za3,bP,exS,exR,nS,zge,zrv,intssD,List.cons_append,List.nil_append,false_and,qae,hY]):p:=(h e).mpr hq
theorem yfz{p q r:Prop}(e:r)(hq:q)(h:r→p=q:=by
 intro hY
 conv=>lhs;simp -dsimp -implicitDefEqProofs (disch:=first|assumption|omega|(simp only[r_z,zac,zab,zbm]<;>omega)|decide) only[r_r,↓reduceIte,Nat.reduceEqDiff,Nat.reduceAdd,D.fix,Int.reduceToNat,Nat.reduceMul,Nat.reduceBNe,Nat.reduceBEq,r_m,bH,bO,zar,za3,bP,exS,exR,nS,zge,zrv,intssD,List.cons_append,List.nil_append,qae,hY]):p:=(h e).mpr hq
theorem yj6{p q:Prop}(hq:q)(h:p=q:=by
 conv=>lhs;simp only[r_g,Nat.reduceAdd,↓reduceIte,Nat.reduceEqDiff,r_m,bH,bO,zar,za3,bP,exS,exR,nS,zge,zrv,intssD,List.cons_append,List.nil_append]):p:=h.mpr hq
theorem zk6{p:Prop}(h:p:=by
 first|rfl|(simp only[r_g,Nat.reduceAdd,↓reduceIte,Nat.reduceEqDiff,r_m,bH,bO,zar,za3,bP,exS,exR,nS,zge,zrv,intssD,List.cons_append,List.nil_append];first|done|rfl)):p:=h
theorem yf0(e:BE)(he:BEOk e)(q:Bool)(ex:Ex)(ih:∀k,k<(zbd ex).length→yfw e q (nth (zbd ex) k))(gs:Gs)(μ:Mp)(h:BOk e gs μ)(hda:DaOk (ctP e.p) q (mE2 e) gs e.dat)(hwt:WT (ctP e.p) q ex)(hcl:gs.length+za8 (ctP e.p) ex≤90000):ScS prog [0,1,3,4,5,6,7] 92 [.op 0 0,.agg ((exS ex).map .d)] (bH e gs μ) (ye0 e (zgo e gs ex)):=by
 refine zbg (fn:=f92) (by kernel_rfl) func92 rfl (qaf rfl) fun c hc hp=>?_
 refine zdq ?_
 obtain⟨S,hS⟩:∃S:Nat→Gs × List (List Int),S=jsx (zgo e) gs (zbd ex):=⟨_,rfl⟩
 have hso:∀k,k≤(zbd ex).length→ArgOk (ctP e.p) (mE2 e) gs (zbd ex) k (S k):=by
  rw[hS];exact jsy (q:=q) zg3 he.k.ct (by rw[←he.mp];exact ygs he.k) h.g hda (zcc hwt)
 have hcs:=jn3 (c:=ctP e.p) (e:=ex)
 have hsl:(zbd ex).length≤3:=by cases ex<;>simp[zbd]
 have i1:=h.i;have l1:=h.l
 refine szq (zd8 ·) ?_
 refine szq (zd8 ·) ?_
 refine zaa fun K3 hK3=>?_
 refine szq (zd8 ·) ?_
 refine zag ?_
 refine zao hp (fun τ' H' mm=>∃(k:Nat) (μ1:Mp),(k≤(zbd ex).length∧NdM (mE2 e) (S k).1 μ1)∧mm=(zbd ex).length - k∧H'=bH e (S k).1 μ1++[bP,.cells (avs (exS ex)),.cells [.os 1 11 0 k],.cells (avs ((S k).2.map intsD))]∧τ'=frL [(2,.op 8 0),(3,.op 9 0),(5,.op 10 0),(15,.d (.fs ((zbd ex).flatMap exC) (zbd ex).length)),(16,.d (iD (zbd ex).length)),(17,.d (iD k))]) ((zbd ex).length) ?_ ⟨0,μ,⟨qap _,by rw[hS];exact h.n⟩,rfl,rfl,rfl⟩ ?_
 ·refine Rt.trans (Rt.nilc 10 0 1 rfl rfl) ?_
  refine zja [0,1,2,3,4,5,6,7,8,9,10,11] ?_
  refine zjb ?_
  refine yj6 ?_;rw[hS];simp[jsx,bH,bO,bP,avs,exS,exR,iD]
 rintro τ' H' mm ⟨k,μ1,⟨hk,hn1⟩,rfl,rfl,rfl⟩
 refine szq (zd8 ·) ?_
 refine zaa fun K6 hK6=>?_
 refine zan rfl (fun ht=>?_) (fun ht=>?_)
 ·have hlt:k<(zbd ex).length:=by simp at ht;omega
  have ha:=hso k hk
  have hln:=ha.ln
  have hcm:=jea (c:=ctP e.p) (l:=zbd ex) (show k+1≤(zbd ex).length by omega)
  have hle:=ha.len
  rw[znj]at hcm
  have h1:BOk e (S k).1 μ1:=⟨hn1,ha.gi,h.i,by omega⟩
  have hcall:=ih k hlt (S k).1 μ1 h1 (hda.pre ha.pre) (zcc hwt k hlt) (by omega)
  have es:S (k+1)=((zgo e (S k).1 (nth (zbd ex) k)).1,(S k).2++[(zgo e (S k).1 (nth (zbd ex) k)).2]):=by rw[hS,jsx]
  clear hS
  refine zai (hK6 _ _ ?_)
  refine zaa fun K7 hK7=>?_
  refine zag ?_
  refine szq (zd8 ·) ?_
  refine zmu zah hp hc mixed rfl [(0,[]),(1,[]),(2,[]),(3,[0]),(4,[]),(5,[]),(6,[])] [[],[],[],[1,2],[1,2,3],[0,1,2,3,4],[0,1,2,3,4,5]] 1 (by kernel_rfl) fun K9 hK9=>?_
  refine zon ?_
  refine jo3 (bH e (S k).1 μ1) ([bP,.cells (avs (exS ex)),.cells [.os 1 11 0 k],.cells (avs ((S k).2.map intsD)),.cells (avs (exS (nth (zbd ex) k))),.free]) (hcall) ?_
  rintro _ _ ⟨μ2,hn2,rfl,rfl⟩
  refine⟨rfl,?_⟩
  refine zon ?_
  refine hK9 _ _ (hK7 _ _ ?_)
  refine za1 hp zah hc rfl fun K10 hK10=>?_
  refine zd8 ?_
  refine hK10 _ _ ⟨_,_,_,?_,⟨k+1,μ2,⟨by omega,by rw[es];exact hn2⟩,rfl,rfl,rfl⟩,?_⟩
  ·first|omega|(simp only[List.length_cons];omega)|(dsimp only;omega)
  ·refine zja [0,1,2,3,4,5,6,7,8,9,10,14] ?_
   refine zjb ?_
   refine yj6 ?_;simp[es,iD,intsD,bH,bO,bP,avs,exS,exR,zar]
 ·have hkk:k=(zbd ex).length:=by simp at ht;omega
  subst hkk
  have ha:=hso _ (qao _)
  have hle:=ha.len
  have hln:=ha.ln
  obtain⟨T,hT⟩:∃T,T=S (zbd ex).length:=⟨_,rfl⟩
  rw[←hT]at ha hle hn1 hln
  rw[←hT]
  have h1:BOk e T.1 μ1:=⟨hn1,ha.gi,h.i,by omega⟩
  have hd1:=hda.pre ha.pre
  have htk:zbz (T.2.map intsD) 0 (zbd ex).length=some (T.2.map intsD):=zba (by simp[hln])
  refine zau (hK3 _ _ ?_)
  refine zav hp (τ':=frL [(2,.op 8 0),(3,.op 9 0),(5,.op 10 0)]) (H':=bH e T.1 μ1++[bP,.cells (avs (exS ex)),.cells [.d (.fs (T.2.map intsD) (zbd ex).length)]]) ?_ ?_
  ·refine Rt.trans (Rt.fz (id:=11) (l:=(T.2.map intsD)) rfl) ?_
   refine zja [0,1,2,3,4,5,6,7,8,9,10] ?_
   refine zjb ?_
   refine yj6 ?_;simp only[bH,bO,bP,exS,exR,nS,iD,List.cons_append,List.nil_append,htk];rfl
  refine zay zah hc mixed rfl (q:=1) (by kernel_rfl) (by kernel_rfl) fun K11 hK11=>?_
  refine zd8 ?_
  refine hK11 _ _ ?_
  have k3:=zr4 (a:=3) (by decide) (by decide)
  have k4:=zr4 (a:=4) (by decide) (by decide)
  have k5:=zr4 (a:=5) (by decide) (by decide)
  have o1:OkM prog tPm (zp8 (.int .i64 3) (.func (.func 95) #[] #[]) ([],0)):=(OkM.nil _ _).put k3
  have o2:=o1.put (v:=.func (.func 141) #[] #[]) k4
  have o3:=o2.put (v:=.func (.func 143) #[] #[]) k5
  refine zaf hp zah hc rfl fun K12 hK12=>?_
  simp -dsimp -implicitDefEqProofs (disch:=first|assumption|omega|(simp only[r_z,zac,zab,zbm]<;>omega)|decide) only[r_r,↓reduceIte,Nat.reduceEqDiff,Nat.reduceAdd,D.fix,Int.reduceToNat,Nat.reduceMul,Nat.reduceBNe,Nat.reduceBEq,r_m,bH,bO,zar,za3,bP,exS,exR,nS,zge,zrv,intssD,List.cons_append,List.nil_append,je6 yhc k3 (OkM.nil _ _),je6 yhc k4 o1,je6 yhc k5 o2,qae]
  refine hK12 _ _ ?_
  refine zaa fun K13 hK13=>?_
  refine zaf hp zah hc rfl fun K14 hK14=>?_
  rcases(show zcz ex=3∨zcz ex=4∨zcz ex=5∨(zcz ex≠3∧zcz ex≠4∧zcz ex≠5) by omega)with ho|ho|ho|ho
  ·have hko:=zr4 (a:=zcz ex) (by omega) (by omega)
   have hgm:=yhd (zcz ex)
   rw[if_neg (by omega),if_neg (by omega),if_pos ho]at hgm
   refine jo4 hgm ?_
   refine hK14 _ _ ?_
   refine szq (jo5 ·) ?_
   refine szt ?_
   obtain⟨a,b,hform⟩:∃a b,ex= .two 3 a b:=by
    have hv:zcz ex=3:=ho
    rcases zdd hwt with⟨v,w,rfl⟩|⟨i,rfl⟩|⟨i,rfl⟩|⟨a,rfl⟩|⟨a,b,rfl⟩|⟨a,b,rfl⟩|⟨a,b,rfl⟩|⟨a,b,rfl⟩|⟨a,b,rfl⟩|⟨a,b,rfl⟩|⟨a,b,rfl⟩|⟨a,b,d,rfl⟩|⟨a,b,rfl⟩|⟨i,w,a,rfl⟩|⟨w,a,rfl⟩|⟨i,a,rfl⟩<;>first|exact⟨_,_,rfl⟩|(exfalso;revert hv;simp[zcz];done)
   subst hform
   obtain⟨X,hX⟩:∃X,X=nth T.2 0:=⟨_,rfl⟩
   have wX:X.length=za7 (ctP e.p) a:=by rw[hX];exact ha.wid 0 (by simp[zbd])
   have nX:NdL (mE2 e) T.1 X X.length:=fun i hi=>by rw[hX];exact ha.nd 0 (by simp[zbd]) i (by rw[wX]at hi;exact hi)
   have bX:=zcn he.k.ct (zcc hwt 0 (by simp[zbd]))
   simp only[zbd,nth,List.getD_cons_zero,List.getD_cons_succ]at bX
   obtain⟨Y,hY⟩:∃Y,Y=nth T.2 1:=⟨_,rfl⟩
   have wY:Y.length=za7 (ctP e.p) b:=by rw[hY];exact ha.wid 1 (by simp[zbd])
   have nY:NdL (mE2 e) T.1 Y Y.length:=fun i hi=>by rw[hY];exact ha.nd 1 (by simp[zbd]) i (by rw[wY]at hi;exact hi)
   have bY:=zcn he.k.ct (zcc hwt 1 (by simp[zbd]))
   simp only[zbd,nth,List.getD_cons_zero,List.getD_cons_succ]at bY
   have hL:T.2=[X,Y]:=by rw[hX];rw[hY];exact jti ha.ln
   have wt2:=hwt.2.2.2
   have lXY:Y.length=X.length:=by rw[wX,wY];exact wt2.symm
   have nYX:NdL (mE2 e) T.1 Y X.length:=by rw[←lXY];exact nY
   have hres:zgo e gs (.two 3 a b)=zya (mE2 e) T.1 X Y X.length:=by rw[hX,hY,hT,hS];rfl
   have hwx:za8 (ctP e.p) (.two 3 a b)=za8 (ctP e.p) a+za8 (ctP e.p) b+za7 (ctP e.p) a:=rfl
   have hcx:znj (ctP e.p) (zbd (.two 3 a b)) (zbd (.two 3 a b)).length=za8 (ctP e.p) a+za8 (ctP e.p) b:=by simp[zbd,znj,nth]
   rw[hL]
   refine zav hp (τ':=frL [(2,.op 8 0),(5,.op 9 0),(11,.op 10 0)]) (H':=bH e T.1 μ1++[bP,.cells [.d (intssD [X,Y])],.cells [.d (.val (.func (.func 95) #[] #[]))]]) ?_ ?_
   ·refine zja [0,1,2,3,4,5,6,7,8,10,13] ?_
    refine zjb ?_
    exact zk6
   refine zaf hp zah hc rfl fun K16 hK16=>?_
   refine zd8 ?_
   refine yfy (bH e T.1 μ1++[bP,.cells [.d (intssD [X,Y])],.cells [.d (.val (.func (.func 95) #[] #[]))]]) ([]) (jow e T.1 μ1 X Y h1 nX nYX lXY (by omega) (by omega)) ?_
   rintro _ _ ⟨μ2,hn2,rfl,rfl⟩
   refine⟨rfl,?_⟩
   refine zd8 ?_
   refine hK16 _ _ ?_
   refine zav hp (τ':=frL [(4,.d (intsD (zya (mE2 e) T.1 X Y X.length).2))]) (H':=bH e (zya (mE2 e) T.1 X Y X.length).1 μ2) ?_ ?_
   ·refine zja [0,1,2,3,4,5,6,7] ?_
    refine zjb ?_
    exact zk6
   refine zaj ?_
   refine zap (t:=4) rfl ?_
   show ∃_,_
   rw[hres];exact⟨μ2,hn2,rfl,rfl⟩
  ·have hko:=zr4 (a:=zcz ex) (by omega) (by omega)
   have hgm:=yhd (zcz ex)
   rw[if_neg (by omega),if_pos ho]at hgm
   refine jo4 hgm ?_
   refine hK14 _ _ ?_
   refine szq (jo5 ·) ?_
   refine szt ?_
   obtain⟨a,b,hform⟩:∃a b,ex= .two 4 a b:=by
    have hv:zcz ex=4:=ho
    rcases zdd hwt with⟨v,w,rfl⟩|⟨i,rfl⟩|⟨i,rfl⟩|⟨a,rfl⟩|⟨a,b,rfl⟩|⟨a,b,rfl⟩|⟨a,b,rfl⟩|⟨a,b,rfl⟩|⟨a,b,rfl⟩|⟨a,b,rfl⟩|⟨a,b,rfl⟩|⟨a,b,d,rfl⟩|⟨a,b,rfl⟩|⟨i,w,a,rfl⟩|⟨w,a,rfl⟩|⟨i,a,rfl⟩<;>first|exact⟨_,_,rfl⟩|(exfalso;revert hv;simp[zcz];done)
   subst hform
   obtain⟨X,hX⟩:∃X,X=nth T.2 0:=⟨_,rfl⟩
   have wX:X.length=za7 (ctP e.p) a:=by rw[hX];exact ha.wid 0 (by simp[zbd])
   have nX:NdL (mE2 e) T.1 X X.length:=fun i hi=>by rw[hX];exact ha.nd 0 (by simp[zbd]) i (by rw[wX]at hi;exact hi)
   have bX:=zcn he.k.ct (zcc hwt 0 (by simp[zbd]))
   simp only[zbd,nth,List.getD_cons_zero,List.getD_cons_succ]at bX
   obtain⟨Y,hY⟩:∃Y,Y=nth T.2 1:=⟨_,rfl⟩
   have wY:Y.length=za7 (ctP e.p) b:=by rw[hY];exact ha.wid 1 (by simp[zbd])
   have nY:NdL (mE2 e) T.1 Y Y.length:=fun i hi=>by rw[hY];exact ha.nd 1 (by simp[zbd]) i (by rw[wY]at hi;exact hi)
   have bY:=zcn he.k.ct (zcc hwt 1 (by simp[zbd]))
   simp only[zbd,nth,List.getD_cons_zero,List.getD_cons_succ]at bY
   have hL:T.2=[X,Y]:=by rw[hX];rw[hY];exact jti ha.ln
   have wt2:=hwt.2.2.2
   have lXY:Y.length=X.length:=by rw[wX,wY];exact wt2.symm
   have nYX:NdL (mE2 e) T.1 Y X.length:=by rw[←lXY];exact nY
   have hres:zgo e gs (.two 4 a b)=orW (mE2 e) T.1 X Y X.length:=by rw[hX,hY,hT,hS];rfl
   have hwx:za8 (ctP e.p) (.two 4 a b)=za8 (ctP e.p) a+za8 (ctP e.p) b+za7 (ctP e.p) a:=rfl
   have hcx:znj (ctP e.p) (zbd (.two 4 a b)) (zbd (.two 4 a b)).length=za8 (ctP e.p) a+za8 (ctP e.p) b:=by simp[zbd,znj,nth]
   rw[hL]
   refine zav hp (τ':=frL [(2,.op 8 0),(5,.op 9 0),(11,.op 10 0)]) (H':=bH e T.1 μ1++[bP,.cells [.d (intssD [X,Y])],.cells [.d (.val (.func (.func 141) #[] #[]))]]) ?_ ?_
   ·refine zja [0,1,2,3,4,5,6,7,8,10,13] ?_
    refine zjb ?_
    exact zk6
   refine zaf hp zah hc rfl fun K18 hK18=>?_
   refine zd8 ?_
   refine yfy (bH e T.1 μ1++[bP,.cells [.d (intssD [X,Y])],.cells [.d (.val (.func (.func 141) #[] #[]))]]) ([]) (jwl e T.1 μ1 X Y h1 nX nYX lXY (by omega) (by omega)) ?_
   rintro _ _ ⟨μ2,hn2,rfl,rfl⟩
   refine⟨rfl,?_⟩
   refine zd8 ?_
   refine hK18 _ _ ?_
   refine zav hp (τ':=frL [(4,.d (intsD (orW (mE2 e) T.1 X Y X.length).2))]) (H':=bH e (orW (mE2 e) T.1 X Y X.length).1 μ2) ?_ ?_
   ·refine zja [0,1,2,3,4,5,6,7] ?_
    refine zjb ?_
    exact zk6
   refine zaj ?_
   refine zap (t:=4) rfl ?_
   show ∃_,_
   rw[hres];exact⟨μ2,hn2,rfl,rfl⟩
  ·have hko:=zr4 (a:=zcz ex) (by omega) (by omega)
   have hgm:=yhd (zcz ex)
   rw[if_pos ho]at hgm
   refine jo4 hgm ?_
   refine hK14 _ _ ?_
   refine szq (jo5 ·) ?_
   refine szt ?_
   obtain⟨a,b,hform⟩:∃a b,ex= .two 5 a b:=by
    have hv:zcz ex=5:=ho
    rcases zdd hwt with⟨v,w,rfl⟩|⟨i,rfl⟩|⟨i,rfl⟩|⟨a,rfl⟩|⟨a,b,rfl⟩|⟨a,b,rfl⟩|⟨a,b,rfl⟩|⟨a,b,rfl⟩|⟨a,b,rfl⟩|⟨a,b,rfl⟩|⟨a,b,rfl⟩|⟨a,b,d,rfl⟩|⟨a,b,rfl⟩|⟨i,w,a,rfl⟩|⟨w,a,rfl⟩|⟨i,a,rfl⟩<;>first|exact⟨_,_,rfl⟩|(exfalso;revert hv;simp[zcz];done)
   subst hform
   obtain⟨X,hX⟩:∃X,X=nth T.2 0:=⟨_,rfl⟩
   have wX:X.length=za7 (ctP e.p) a:=by rw[hX];exact ha.wid 0 (by simp[zbd])
   have nX:NdL (mE2 e) T.1 X X.length:=fun i hi=>by rw[hX];exact ha.nd 0 (by simp[zbd]) i (by rw[wX]at hi;exact hi)
   have bX:=zcn he.k.ct (zcc hwt 0 (by simp[zbd]))
   simp only[zbd,nth,List.getD_cons_zero,List.getD_cons_succ]at bX
   obtain⟨Y,hY⟩:∃Y,Y=nth T.2 1:=⟨_,rfl⟩
   have wY:Y.length=za7 (ctP e.p) b:=by rw[hY];exact ha.wid 1 (by simp[zbd])
   have nY:NdL (mE2 e) T.1 Y Y.length:=fun i hi=>by rw[hY];exact ha.nd 1 (by simp[zbd]) i (by rw[wY]at hi;exact hi)
   have bY:=zcn he.k.ct (zcc hwt 1 (by simp[zbd]))
   simp only[zbd,nth,List.getD_cons_zero,List.getD_cons_succ]at bY
   have hL:T.2=[X,Y]:=by rw[hX];rw[hY];exact jti ha.ln
   have wt2:=hwt.2.2.2
   have lXY:Y.length=X.length:=by rw[wX,wY];exact wt2.symm
   have nYX:NdL (mE2 e) T.1 Y X.length:=by rw[←lXY];exact nY
   have hres:zgo e gs (.two 5 a b)=zyb (mE2 e) T.1 X Y X.length:=by rw[hX,hY,hT,hS];rfl
   have hwx:za8 (ctP e.p) (.two 5 a b)=za8 (ctP e.p) a+za8 (ctP e.p) b+za7 (ctP e.p) a:=rfl
   have hcx:znj (ctP e.p) (zbd (.two 5 a b)) (zbd (.two 5 a b)).length=za8 (ctP e.p) a+za8 (ctP e.p) b:=by simp[zbd,znj,nth]
   rw[hL]
   refine zav hp (τ':=frL [(2,.op 8 0),(5,.op 9 0),(11,.op 10 0)]) (H':=bH e T.1 μ1++[bP,.cells [.d (intssD [X,Y])],.cells [.d (.val (.func (.func 143) #[] #[]))]]) ?_ ?_
   ·refine zja [0,1,2,3,4,5,6,7,8,10,13] ?_
    refine zjb ?_
    exact zk6
   refine zaf hp zah hc rfl fun K20 hK20=>?_
   refine zd8 ?_
   refine yfy (bH e T.1 μ1++[bP,.cells [.d (intssD [X,Y])],.cells [.d (.val (.func (.func 143) #[] #[]))]]) ([]) (joy e T.1 μ1 X Y h1 nX nYX lXY (by omega) (by omega)) ?_
   rintro _ _ ⟨μ2,hn2,rfl,rfl⟩
   refine⟨rfl,?_⟩
   refine zd8 ?_
   refine hK20 _ _ ?_
   refine zav hp (τ':=frL [(4,.d (intsD (zyb (mE2 e) T.1 X Y X.length).2))]) (H':=bH e (zyb (mE2 e) T.1 X Y X.length).1 μ2) ?_ ?_
   ·refine zja [0,1,2,3,4,5,6,7] ?_
    refine zjb ?_
    exact zk6
   refine zaj ?_
   refine zap (t:=4) rfl ?_
   show ∃_,_
   rw[hres];exact⟨μ2,hn2,rfl,rfl⟩
  ·have hko:=zr4 (a:=zcz ex) (by have:=yfx hwt;omega) (by have:=yfx hwt;omega)
   have hgm:=yhd (zcz ex)
   rw[if_neg (by omega),if_neg (by omega),if_neg (by omega)]at hgm
   refine jo4 hgm ?_
   refine hK14 _ _ ?_
   refine szq (jo5 ·) ?_
   refine szf ?_
   refine zai (hK13 _ _ ?_)
   refine zaa fun K22 hK22=>?_
   refine szq (zd8 ·) ?_
   refine zag ?_
   refine szq (zd8 ·) ?_
   refine zan rfl (fun ht=>?_) (fun ht=>?_)
   ·obtain⟨v,w,hform⟩:∃v w,ex= .con v w:=by
     have hv:zcz ex=1:=by simpa using ht
     rcases zdd hwt with⟨v,w,rfl⟩|⟨i,rfl⟩|⟨i,rfl⟩|⟨a,rfl⟩|⟨a,b,rfl⟩|⟨a,b,rfl⟩|⟨a,b,rfl⟩|⟨a,b,rfl⟩|⟨a,b,rfl⟩|⟨a,b,rfl⟩|⟨a,b,rfl⟩|⟨a,b,d,rfl⟩|⟨a,b,rfl⟩|⟨i,w,a,rfl⟩|⟨w,a,rfl⟩|⟨i,a,rfl⟩<;>first|exact⟨_,_,rfl⟩|(exfalso;revert hv;simp[zcz];done)
    subst hform
    have hw8:=hwt.2.1
    have hv:=hwt.2.2
    have hv62:v<2^62:=Nat.lt_of_lt_of_le hv (qba (by decide) (by omega))
    have hres:zgo e gs (.con v w)=zyd T.1 v w:=by rw[zyd,zvg,hT,hS];rfl
    refine zav hp (τ':=frL [(8,.op 8 0),(9,.d (iD w))]) (H':=bH e T.1 μ1++[.cells [.d (iD v)]]) ?_ ?_
    ·refine zja [0,1,2,3,4,5,6,7,11] ?_
     refine zjb ?_
     exact zk6
    refine zaf hp zah hc rfl fun K25 hK25=>?_
    refine zd8 ?_
    refine yfy (bH e T.1 μ1++[.cells [.d (iD v)],.cells (avs (List.replicate w (iD 0)))]) ([]) (jo0 e T.1 μ1 v w h1 hv62 (by omega)) ?_
    rintro _ _ ⟨μ2,hn2,rfl,rfl⟩
    refine⟨rfl,?_⟩
    refine zd8 ?_
    refine hK25 _ _ ?_
    refine zav hp (τ':=frL [(4,.d (intsD (zyd T.1 v w).2))]) (H':=bH e (zyd T.1 v w).1 μ2) ?_ ?_
    ·refine zja [0,1,2,3,4,5,6,7] ?_
     refine zjb ?_
     exact zk6
    refine zaj ?_
    refine zap (t:=4) rfl ?_
    show ∃_,_
    rw[hres];exact⟨μ2,hn2,rfl,rfl⟩
   ·have m2:zcz ex≠1:=by simpa using ht
    refine szq (zd8 ·) ?_
    refine zan rfl (fun ht=>?_) (fun ht=>?_)
    ·obtain⟨i,hform⟩:∃i,ex= .reg i:=by
      have hv:zcz ex=16:=by simpa using ht
      rcases zdd hwt with⟨v,w,rfl⟩|⟨i,rfl⟩|⟨i,rfl⟩|⟨a,rfl⟩|⟨a,b,rfl⟩|⟨a,b,rfl⟩|⟨a,b,rfl⟩|⟨a,b,rfl⟩|⟨a,b,rfl⟩|⟨a,b,rfl⟩|⟨a,b,rfl⟩|⟨a,b,d,rfl⟩|⟨a,b,rfl⟩|⟨i,w,a,rfl⟩|⟨w,a,rfl⟩|⟨i,a,rfl⟩<;>first|exact⟨_,rfl⟩|(exfalso;revert hv;simp[zcz];done)
     subst hform
     have hil:i<e.p.regs.length:=by have:=hwt;simpa[WT,ctP]using this
     have em:nth (ctP e.p).regs i=(nth e.p.regs i).w:=zt4 hil
     have hr8:=he.k.ct.r i hwt
     rw[em]at hr8
     have hrl:=he.rl
     have m1:=yde hil
     have hwi:∀k,k<(nth e.p.regs i).w→(⟨1,(i:Int),(k:Int)⟩:Wire)∈e.ins:=fun k hk=>by rw[he.i];exact in1 hil hk
     have hres:zgo e gs (.reg i)=zye e.ins T.1 i (nth e.p.regs i).w:=by rw[zye,zvg,he.i,←em,hT,hS];rfl
     have hz0:(0<(nth e.p.regs i).w)=True:=by simp;omega
     refine zav hp (τ':=frL [(2,.op 8 0),(8,.op 9 0)]) (H':=bH e T.1 μ1++[bP,.cells [.d (iD i)]]) ?_ ?_
     ·refine zja [0,1,2,3,4,5,6,7,8,11] ?_
      refine zjb ?_
      exact zk6
     refine zbc zah hp hc mixed rfl [(0,[]),(1,[]),(2,[]),(3,[]),(4,[]),(5,[]),(6,[]),(7,[]),(8,[]),(9,[]),(10,[]),(11,[]),(12,[])] [[],[0],[0,1],[0,1,2],[0,1,2,3],[],[0,1,2,3,4,5],[0,1,2,3,4,5,6],[0,1,2,3,4,5,6,7],[0,1,2,3,4,5,6,7,8],[],[0,1,2,3,4,5,6,7,8,9,10],[0,1,2,3,4,5,6,7,8,9,10,11]] 1 (by kernel_rfl) fun K27 hK27=>?_
     refine jo6 (sza m1 hz0) ?_
     refine jo3 (bH e T.1 μ1++[bP,.cells [.d (iD i)]]) ([.dead]) (jo1 e T.1 μ1 i (nth e.p.regs i).w h1 he.m hwi (by omega) (by omega)) ?_
     rintro _ _ ⟨μ2,hn2,rfl,rfl⟩
     refine⟨rfl,?_⟩
     refine jo6 (sza m1 hz0) ?_
     refine hK27 _ _ ?_
     refine zav hp (τ':=frL [(4,.d (intsD (zye e.ins T.1 i (nth e.p.regs i).w).2))]) (H':=bH e (zye e.ins T.1 i (nth e.p.regs i).w).1 μ2) ?_ ?_
     ·refine zja [0,1,2,3,4,5,6,7] ?_
      refine zjb ?_
      exact zk6
     refine zaj ?_
     refine zap (t:=4) rfl ?_
     show ∃_,_
     rw[hres];exact⟨μ2,hn2,rfl,rfl⟩
    ·have m3:zcz ex≠16:=by simpa using ht
     refine szq (zd8 ·) ?_
     refine zan rfl (fun ht=>?_) (fun ht=>?_)
     ·obtain⟨i,hform⟩:∃i,ex= .dat i:=by
       have hv:zcz ex=18:=by simpa using ht
       rcases zdd hwt with⟨v,w,rfl⟩|⟨i,rfl⟩|⟨i,rfl⟩|⟨a,rfl⟩|⟨a,b,rfl⟩|⟨a,b,rfl⟩|⟨a,b,rfl⟩|⟨a,b,rfl⟩|⟨a,b,rfl⟩|⟨a,b,rfl⟩|⟨a,b,rfl⟩|⟨a,b,d,rfl⟩|⟨a,b,rfl⟩|⟨i,w,a,rfl⟩|⟨w,a,rfl⟩|⟨i,a,rfl⟩<;>first|exact⟨_,rfl⟩|(exfalso;revert hv;simp[zcz];done)
      subst hform
      have hil:i<e.dat.length:=by rw[hda.l hwt.1];exact hwt.2
      have gd:(e.dat.map intsD)[i]? =some (intsD (nth e.dat i)):=za4 hil
      have hres:zgo e gs (.dat i)=(T.1,nth e.dat i):=by rw[hT,hS];rfl
      refine zav hp (τ':=frL [(2,.op 8 0),(8,.op 9 0)]) (H':=bH e T.1 μ1++[bP,.cells [.d (iD i)]]) ?_ ?_
      ·refine zja [0,1,2,3,4,5,6,7,8,11] ?_
       refine zjb ?_
       exact zk6
      refine zay zah hc mixed rfl (q:=0) (by kernel_rfl) (by kernel_rfl) fun K29 hK29=>?_
      simp -dsimp -implicitDefEqProofs (disch:=first|assumption|omega|(simp only[r_z,zac,zab,zbm]<;>omega)|decide) only[r_r,↓reduceIte,Nat.reduceEqDiff,Nat.reduceAdd,D.fix,Int.reduceToNat,Nat.reduceMul,Nat.reduceBNe,Nat.reduceBEq,r_m,bH,bO,zar,za3,bP,exS,exR,nS,zge,zrv,intssD,List.cons_append,List.nil_append,zl0,gd,Option.map_some,qae]
      refine hK29 _ _ ?_
      refine zav hp (τ':=frL [(4,.d (intsD (nth e.dat i)))]) (H':=bH e T.1 μ1) ?_ ?_
      ·refine zja [0,1,2,3,4,5,6,7] ?_
       refine zjb ?_
       exact zk6
      refine zaj ?_
      refine zap (t:=4) rfl ?_
      show ∃_,_
      rw[hres];exact⟨μ1,hn1,rfl,rfl⟩
     ·have m4:zcz ex≠18:=by simpa using ht
      refine szq (zd8 ·) ?_
      refine zan rfl (fun ht=>?_) (fun ht=>?_)
      ·obtain⟨a,hform⟩:∃a,ex= .not a:=by
        have hv:zcz ex=2:=by simpa using ht
        rcases zdd hwt with⟨v,w,rfl⟩|⟨i,rfl⟩|⟨i,rfl⟩|⟨a,rfl⟩|⟨a,b,rfl⟩|⟨a,b,rfl⟩|⟨a,b,rfl⟩|⟨a,b,rfl⟩|⟨a,b,rfl⟩|⟨a,b,rfl⟩|⟨a,b,rfl⟩|⟨a,b,d,rfl⟩|⟨a,b,rfl⟩|⟨i,w,a,rfl⟩|⟨w,a,rfl⟩|⟨i,a,rfl⟩<;>first|exact⟨_,rfl⟩|(exfalso;revert hv;simp[zcz];done)
       subst hform
       obtain⟨X,hX⟩:∃X,X=nth T.2 0:=⟨_,rfl⟩
       have wX:X.length=za7 (ctP e.p) a:=by rw[hX];exact ha.wid 0 (by simp[zbd])
       have nX:NdL (mE2 e) T.1 X X.length:=fun i hi=>by rw[hX];exact ha.nd 0 (by simp[zbd]) i (by rw[wX]at hi;exact hi)
       have bX:=zcn he.k.ct (zcc hwt 0 (by simp[zbd]))
       simp only[zbd,nth,List.getD_cons_zero,List.getD_cons_succ]at bX
       have hL:T.2=[X]:=by rw[hX];exact yhe ha.ln
       have hwx:za8 (ctP e.p) (.not a)=za8 (ctP e.p) a+za7 (ctP e.p) a:=rfl
       have hcx:znj (ctP e.p) (zbd (.not a)) (zbd (.not a)).length=za8 (ctP e.p) a:=by simp[zbd,znj,nth]
       have hres:zgo e gs (.not a)=zhv (mE2 e) T.1 X X.length:=by rw[hX,hT,hS];rfl
       rw[hL]
       refine zav hp (τ':=frL [(2,.op 8 0),(5,.op 9 0)]) (H':=bH e T.1 μ1++[bP,.cells [.d (intssD [X])]]) ?_ ?_
       ·refine zja [0,1,2,3,4,5,6,7,8,10] ?_
        refine zjb ?_
        exact zk6
       refine zbc zah hp hc mixed rfl [(0,[]),(1,[]),(2,[]),(3,[]),(4,[]),(5,[])] [[],[],[1],[1,2],[0,1,2,3],[0,1,2,3,4]] 0 (by kernel_rfl) fun K31 hK31=>?_
       refine zon ?_
       refine jo3 (bH e T.1 μ1) ([bP,.cells [.d (intssD [X])]]) (jej e T.1 μ1 X h1 nX (by omega) (by omega)) ?_
       rintro _ _ ⟨μ2,hn2,rfl,rfl⟩
       refine⟨rfl,?_⟩
       refine zon ?_
       refine hK31 _ _ ?_
       refine zav hp (τ':=frL [(4,.d (intsD (zhv (mE2 e) T.1 X X.length).2))]) (H':=bH e (zhv (mE2 e) T.1 X X.length).1 μ2) ?_ ?_
       ·refine zja [0,1,2,3,4,5,6,7] ?_
        refine zjb ?_
        exact zk6
       refine zaj ?_
       refine zap (t:=4) rfl ?_
       show ∃_,_
       rw[hres];exact⟨μ2,hn2,rfl,rfl⟩
      ·have m5:zcz ex≠2:=by simpa using ht
       refine szq (zd8 ·) ?_
       refine zan rfl (fun ht=>?_) (fun ht=>?_)
       ·obtain⟨a,b,hform⟩:∃a b,ex= .add a b:=by
         have hv:zcz ex=6:=by simpa using ht
         rcases zdd hwt with⟨v,w,rfl⟩|⟨i,rfl⟩|⟨i,rfl⟩|⟨a,rfl⟩|⟨a,b,rfl⟩|⟨a,b,rfl⟩|⟨a,b,rfl⟩|⟨a,b,rfl⟩|⟨a,b,rfl⟩|⟨a,b,rfl⟩|⟨a,b,rfl⟩|⟨a,b,d,rfl⟩|⟨a,b,rfl⟩|⟨i,w,a,rfl⟩|⟨w,a,rfl⟩|⟨i,a,rfl⟩<;>first|exact⟨_,_,rfl⟩|(exfalso;revert hv;simp[zcz];done)
        subst hform
        obtain⟨X,hX⟩:∃X,X=nth T.2 0:=⟨_,rfl⟩
        have wX:X.length=za7 (ctP e.p) a:=by rw[hX];exact ha.wid 0 (by simp[zbd])
        have nX:NdL (mE2 e) T.1 X X.length:=fun i hi=>by rw[hX];exact ha.nd 0 (by simp[zbd]) i (by rw[wX]at hi;exact hi)
        have bX:=zcn he.k.ct (zcc hwt 0 (by simp[zbd]))
        simp only[zbd,nth,List.getD_cons_zero,List.getD_cons_succ]at bX
        obtain⟨Y,hY⟩:∃Y,Y=nth T.2 1:=⟨_,rfl⟩
        have wY:Y.length=za7 (ctP e.p) b:=by rw[hY];exact ha.wid 1 (by simp[zbd])
        have nY:NdL (mE2 e) T.1 Y Y.length:=fun i hi=>by rw[hY];exact ha.nd 1 (by simp[zbd]) i (by rw[wY]at hi;exact hi)
        have bY:=zcn he.k.ct (zcc hwt 1 (by simp[zbd]))
        simp only[zbd,nth,List.getD_cons_zero,List.getD_cons_succ]at bY
        have hL:T.2=[X,Y]:=by rw[hX];rw[hY];exact jti ha.ln
        have hwx:za8 (ctP e.p) (.add a b)=za8 (ctP e.p) a+za8 (ctP e.p) b+3*za7 (ctP e.p) a:=rfl
        have hcx:znj (ctP e.p) (zbd (.add a b)) (zbd (.add a b)).length=za8 (ctP e.p) a+za8 (ctP e.p) b:=by simp[zbd,znj,nth]
        have lXY:Y.length=X.length:=by rw[wX,wY];exact hwt.2.2.symm
        have nYX:NdL (mE2 e) T.1 Y X.length:=by rw[←lXY];exact nY
        have hres:zgo e gs (.add a b)=((zhm (mE2 e) T.1 X Y 0 X.length).gs,(zhm (mE2 e) T.1 X Y 0 X.length).l):=by rw[hX,hY,hT,hS];rfl
        rw[hL]
        refine zav hp (τ':=frL [(2,.op 8 0),(5,.op 9 0)]) (H':=bH e T.1 μ1++[bP,.cells [.d (intssD [X,Y])]]) ?_ ?_
        ·refine zja [0,1,2,3,4,5,6,7,8,10] ?_
         refine zjb ?_
         exact zk6
        refine zbc zah hp hc mixed rfl [(0,[]),(1,[]),(2,[]),(3,[]),(4,[]),(5,[]),(6,[]),(7,[]),(8,[])] [[],[],[1],[1,2],[],[4],[4,5],[0,1,2,3,4,5,6],[0,1,2,3,4,5,6,7]] 0 (by kernel_rfl) fun K33 hK33=>?_
        refine zon ?_
        refine jo3 (bH e T.1 μ1) ([bP,.cells [.d (intssD [X,Y])]]) (jte e T.1 μ1 X Y 0 h1 nX nYX lXY h1.z (by omega) (by omega)) ?_
        rintro _ _ ⟨μ2,hn2,rfl,rfl⟩
        refine⟨rfl,?_⟩
        refine zon ?_
        refine hK33 _ _ ?_
        refine zav hp (τ':=frL [(4,.d (intsD (((zhm (mE2 e) T.1 X Y 0 X.length).gs,(zhm (mE2 e) T.1 X Y 0 X.length).l)).2))]) (H':=bH e (((zhm (mE2 e) T.1 X Y 0 X.length).gs,(zhm (mE2 e) T.1 X Y 0 X.length).l)).1 μ2) ?_ ?_
        ·refine zja [0,1,2,3,4,5,6,7] ?_
         refine zjb ?_
         exact zk6
        refine zaj ?_
        refine zap (t:=4) rfl ?_
        show ∃_,_
        rw[hres];exact⟨μ2,hn2,rfl,rfl⟩
       ·have m6:zcz ex≠6:=by simpa using ht
        refine szq (zd8 ·) ?_
        refine zan rfl (fun ht=>?_) (fun ht=>?_)
        ·obtain⟨a,b,hform⟩:∃a b,ex= .sub a b:=by
          have hv:zcz ex=7:=by simpa using ht
          rcases zdd hwt with⟨v,w,rfl⟩|⟨i,rfl⟩|⟨i,rfl⟩|⟨a,rfl⟩|⟨a,b,rfl⟩|⟨a,b,rfl⟩|⟨a,b,rfl⟩|⟨a,b,rfl⟩|⟨a,b,rfl⟩|⟨a,b,rfl⟩|⟨a,b,rfl⟩|⟨a,b,d,rfl⟩|⟨a,b,rfl⟩|⟨i,w,a,rfl⟩|⟨w,a,rfl⟩|⟨i,a,rfl⟩<;>first|exact⟨_,_,rfl⟩|(exfalso;revert hv;simp[zcz];done)
         subst hform
         obtain⟨X,hX⟩:∃X,X=nth T.2 0:=⟨_,rfl⟩
         have wX:X.length=za7 (ctP e.p) a:=by rw[hX];exact ha.wid 0 (by simp[zbd])
         have nX:NdL (mE2 e) T.1 X X.length:=fun i hi=>by rw[hX];exact ha.nd 0 (by simp[zbd]) i (by rw[wX]at hi;exact hi)
         have bX:=zcn he.k.ct (zcc hwt 0 (by simp[zbd]))
         simp only[zbd,nth,List.getD_cons_zero,List.getD_cons_succ]at bX
         obtain⟨Y,hY⟩:∃Y,Y=nth T.2 1:=⟨_,rfl⟩
         have wY:Y.length=za7 (ctP e.p) b:=by rw[hY];exact ha.wid 1 (by simp[zbd])
         have nY:NdL (mE2 e) T.1 Y Y.length:=fun i hi=>by rw[hY];exact ha.nd 1 (by simp[zbd]) i (by rw[wY]at hi;exact hi)
         have bY:=zcn he.k.ct (zcc hwt 1 (by simp[zbd]))
         simp only[zbd,nth,List.getD_cons_zero,List.getD_cons_succ]at bY
         have hL:T.2=[X,Y]:=by rw[hX];rw[hY];exact jti ha.ln
         have hwx:za8 (ctP e.p) (.sub a b)=za8 (ctP e.p) a+za8 (ctP e.p) b+4*za7 (ctP e.p) a:=rfl
         have hcx:znj (ctP e.p) (zbd (.sub a b)) (zbd (.sub a b)).length=za8 (ctP e.p) a+za8 (ctP e.p) b:=by simp[zbd,znj,nth]
         have lXY:Y.length=X.length:=by rw[wX,wY];exact hwt.2.2.symm
         have nYX:NdL (mE2 e) T.1 Y X.length:=by rw[←lXY];exact nY
         obtain⟨Z,hZ⟩:∃Z,Z=zhv (mE2 e) T.1 Y Y.length:=⟨_,rfl⟩
         have hzb:=jlb zg3 h1.g nY (qao _)
         have hcc:=jej e T.1 μ1 Y h1 nY (by omega) (by omega)
         rw[←hZ]at hzb hcc
         have hzl:=hzb.len
         have hzw:=hzb.wid
         have hres:zgo e gs (.sub a b)=((zhm (mE2 e) Z.1 X Z.2 1 X.length).gs,(zhm (mE2 e) Z.1 X Z.2 1 X.length).l):=by rw[hZ,hX,hY,hT,hS];rfl
         rw[hL]
         refine zav hp (τ':=frL [(2,.op 8 0),(5,.op 9 0)]) (H':=bH e T.1 μ1++[bP,.cells [.d (intssD [X,Y])]]) ?_ ?_
         ·refine zja [0,1,2,3,4,5,6,7,8,10] ?_
          refine zjb ?_
          exact zk6
         refine zbc zah hp hc mixed rfl [(0,[]),(1,[]),(2,[]),(3,[]),(4,[]),(5,[]),(6,[]),(7,[]),(8,[0,1,3]),(9,[]),(10,[])] [[],[],[1],[1,2],[],[],[5],[5,6],[4,5,6,7],[0,1,2,3,4,5,6,7,8],[0,1,2,3,4,5,6,7,8,9]] 0 (by kernel_rfl) fun K35 hK35=>?_
         refine zon ?_
         refine jo3 (bH e T.1 μ1) ([bP,.cells [.d (intssD [X,Y])]]) (hcc) ?_
         rintro _ _ ⟨μ3,hn3,rfl,rfl⟩
         refine⟨rfl,?_⟩
         have h3:BOk e Z.1 μ3:=⟨hn3,hzb.gi,h.i,by omega⟩
         refine zon ?_
         refine jo3 (bH e Z.1 μ3) ([bP,.cells [.d (intssD [X,Y])]]) (jte e Z.1 μ3 X Z.2 1 h3 (nX.pre hzb.pre) (fun k hk=>hzb.nd k (by omega)) (by omega) ⟨by omega,by unfold mE2;omega⟩ (by omega) (by omega)) ?_
         rintro _ _ ⟨μ2,hn2,rfl,rfl⟩
         refine⟨rfl,?_⟩
         refine zon ?_
         refine hK35 _ _ ?_
         refine zav hp (τ':=frL [(4,.d (intsD (((zhm (mE2 e) Z.1 X Z.2 1 X.length).gs,(zhm (mE2 e) Z.1 X Z.2 1 X.length).l)).2))]) (H':=bH e (((zhm (mE2 e) Z.1 X Z.2 1 X.length).gs,(zhm (mE2 e) Z.1 X Z.2 1 X.length).l)).1 μ2) ?_ ?_
         ·refine zja [0,1,2,3,4,5,6,7] ?_
          refine zjb ?_
          exact zk6
         refine zaj ?_
         refine zap (t:=4) rfl ?_
         show ∃_,_
         rw[hres];exact⟨μ2,hn2,rfl,rfl⟩
        ·have m7:zcz ex≠7:=by simpa using ht
         refine szq (zd8 ·) ?_
         refine zan rfl (fun ht=>?_) (fun ht=>?_)
         ·obtain⟨a,b,hform⟩:∃a b,ex= .eq a b:=by
           have hv:zcz ex=8:=by simpa using ht
           rcases zdd hwt with⟨v,w,rfl⟩|⟨i,rfl⟩|⟨i,rfl⟩|⟨a,rfl⟩|⟨a,b,rfl⟩|⟨a,b,rfl⟩|⟨a,b,rfl⟩|⟨a,b,rfl⟩|⟨a,b,rfl⟩|⟨a,b,rfl⟩|⟨a,b,rfl⟩|⟨a,b,d,rfl⟩|⟨a,b,rfl⟩|⟨i,w,a,rfl⟩|⟨w,a,rfl⟩|⟨i,a,rfl⟩<;>first|exact⟨_,_,rfl⟩|(exfalso;revert hv;simp[zcz];done)
          subst hform
          obtain⟨X,hX⟩:∃X,X=nth T.2 0:=⟨_,rfl⟩
          have wX:X.length=za7 (ctP e.p) a:=by rw[hX];exact ha.wid 0 (by simp[zbd])
          have nX:NdL (mE2 e) T.1 X X.length:=fun i hi=>by rw[hX];exact ha.nd 0 (by simp[zbd]) i (by rw[wX]at hi;exact hi)
          have bX:=zcn he.k.ct (zcc hwt 0 (by simp[zbd]))
          simp only[zbd,nth,List.getD_cons_zero,List.getD_cons_succ]at bX
          obtain⟨Y,hY⟩:∃Y,Y=nth T.2 1:=⟨_,rfl⟩
          have wY:Y.length=za7 (ctP e.p) b:=by rw[hY];exact ha.wid 1 (by simp[zbd])
          have nY:NdL (mE2 e) T.1 Y Y.length:=fun i hi=>by rw[hY];exact ha.nd 1 (by simp[zbd]) i (by rw[wY]at hi;exact hi)
          have bY:=zcn he.k.ct (zcc hwt 1 (by simp[zbd]))
          simp only[zbd,nth,List.getD_cons_zero,List.getD_cons_succ]at bY
          have hL:T.2=[X,Y]:=by rw[hX];rw[hY];exact jti ha.ln
          have hwx:za8 (ctP e.p) (.eq a b)=za8 (ctP e.p) a+za8 (ctP e.p) b+3*za7 (ctP e.p) a:=rfl
          have hcx:znj (ctP e.p) (zbd (.eq a b)) (zbd (.eq a b)).length=za8 (ctP e.p) a+za8 (ctP e.p) b:=by simp[zbd,znj,nth]
          have lXY:Y.length=X.length:=by rw[wX,wY];exact hwt.2.2.symm
          have nYX:NdL (mE2 e) T.1 Y X.length:=by rw[←lXY];exact nY
          obtain⟨Q,hQ⟩:∃Q,Q=zsk (mE2 e) T.1 X Y X.length:=⟨_,rfl⟩
          have hcc:=jom e T.1 μ1 X Y h1 nX nYX lXY (by omega)
          rw[←hQ]at hcc
          have hres:zgo e gs (.eq a b)=(Q.1,[Q.2]):=by rw[hQ,hX,hY,hT,hS];rfl
          rw[hL]
          refine zav hp (τ':=frL [(2,.op 8 0),(5,.op 9 0)]) (H':=bH e T.1 μ1++[bP,.cells [.d (intssD [X,Y])]]) ?_ ?_
          ·refine zja [0,1,2,3,4,5,6,7,8,10] ?_
           refine zjb ?_
           exact zk6
          refine zbc zah hp hc mixed rfl [(0,[]),(1,[]),(2,[]),(3,[]),(4,[]),(5,[]),(6,[]),(7,[]),(8,[]),(9,[])] [[],[],[1],[1,2],[],[4],[4,5],[0,1,2,3,4,5,6],[0,1,2,3,4,5,6,7],[0,1,2,3,4,5,6,7,8]] 1 (by kernel_rfl) fun K37 hK37=>?_
          refine zon ?_
          refine jo3 (bH e T.1 μ1) ([bP,.cells [.d (intssD [X,Y])],.free]) (hcc) ?_
          rintro _ _ ⟨μ2,hn2,rfl,rfl⟩
          refine⟨rfl,?_⟩
          refine zon ?_
          refine hK37 _ _ ?_
          refine zav hp (τ':=frL [(4,.d (intsD [Q.2]))]) (H':=bH e Q.1 μ2) ?_ ?_
          ·refine zja [0,1,2,3,4,5,6,7] ?_
           refine zjb ?_
           exact zk6
          refine zaj ?_
          refine zap (t:=4) rfl ?_
          show ∃_,_
          rw[hres];exact⟨μ2,hn2,rfl,rfl⟩
         ·have m8:zcz ex≠8:=by simpa using ht
          refine szq (zd8 ·) ?_
          refine zan rfl (fun ht=>?_) (fun ht=>?_)
          ·obtain⟨a,b,hform⟩:∃a b,ex= .lt a b:=by
            have hv:zcz ex=9:=by simpa using ht
            rcases zdd hwt with⟨v,w,rfl⟩|⟨i,rfl⟩|⟨i,rfl⟩|⟨a,rfl⟩|⟨a,b,rfl⟩|⟨a,b,rfl⟩|⟨a,b,rfl⟩|⟨a,b,rfl⟩|⟨a,b,rfl⟩|⟨a,b,rfl⟩|⟨a,b,rfl⟩|⟨a,b,d,rfl⟩|⟨a,b,rfl⟩|⟨i,w,a,rfl⟩|⟨w,a,rfl⟩|⟨i,a,rfl⟩<;>first|exact⟨_,_,rfl⟩|(exfalso;revert hv;simp[zcz];done)
           subst hform
           obtain⟨X,hX⟩:∃X,X=nth T.2 0:=⟨_,rfl⟩
           have wX:X.length=za7 (ctP e.p) a:=by rw[hX];exact ha.wid 0 (by simp[zbd])
           have nX:NdL (mE2 e) T.1 X X.length:=fun i hi=>by rw[hX];exact ha.nd 0 (by simp[zbd]) i (by rw[wX]at hi;exact hi)
           have bX:=zcn he.k.ct (zcc hwt 0 (by simp[zbd]))
           simp only[zbd,nth,List.getD_cons_zero,List.getD_cons_succ]at bX
           obtain⟨Y,hY⟩:∃Y,Y=nth T.2 1:=⟨_,rfl⟩
           have wY:Y.length=za7 (ctP e.p) b:=by rw[hY];exact ha.wid 1 (by simp[zbd])
           have nY:NdL (mE2 e) T.1 Y Y.length:=fun i hi=>by rw[hY];exact ha.nd 1 (by simp[zbd]) i (by rw[wY]at hi;exact hi)
           have bY:=zcn he.k.ct (zcc hwt 1 (by simp[zbd]))
           simp only[zbd,nth,List.getD_cons_zero,List.getD_cons_succ]at bY
           have hL:T.2=[X,Y]:=by rw[hX];rw[hY];exact jti ha.ln
           have hwx:za8 (ctP e.p) (.lt a b)=za8 (ctP e.p) a+za8 (ctP e.p) b+(2*za7 (ctP e.p) a+1):=rfl
           have hcx:znj (ctP e.p) (zbd (.lt a b)) (zbd (.lt a b)).length=za8 (ctP e.p) a+za8 (ctP e.p) b:=by simp[zbd,znj,nth]
           have lXY:Y.length=X.length:=by rw[wX,wY];exact hwt.2.2.symm
           have nYX:NdL (mE2 e) T.1 Y X.length:=by rw[←lXY];exact nY
           obtain⟨Q,hQ⟩:∃Q,Q=zdx (mE2 e) (ltB (mE2 e) T.1 X Y X.length).1 (ltB (mE2 e) T.1 X Y X.length).2:=⟨_,rfl⟩
           have hcc:=jwa e T.1 μ1 X Y h1 nX nYX lXY (by omega)
           rw[←hQ]at hcc
           have hres:zgo e gs (.lt a b)=(Q.1,[Q.2]):=by rw[hQ,hX,hY,hT,hS];rfl
           rw[hL]
           refine zav hp (τ':=frL [(2,.op 8 0),(5,.op 9 0)]) (H':=bH e T.1 μ1++[bP,.cells [.d (intssD [X,Y])]]) ?_ ?_
           ·refine zja [0,1,2,3,4,5,6,7,8,10] ?_
            refine zjb ?_
            exact zk6
           refine zbc zah hp hc mixed rfl [(0,[]),(1,[]),(2,[]),(3,[]),(4,[]),(5,[]),(6,[]),(7,[]),(8,[]),(9,[])] [[],[],[1],[1,2],[],[4],[4,5],[0,1,2,3,4,5,6],[0,1,2,3,4,5,6,7],[0,1,2,3,4,5,6,7,8]] 1 (by kernel_rfl) fun K39 hK39=>?_
           refine zon ?_
           refine jo3 (bH e T.1 μ1) ([bP,.cells [.d (intssD [X,Y])],.free]) (hcc) ?_
           rintro _ _ ⟨μ2,hn2,rfl,rfl⟩
           refine⟨rfl,?_⟩
           refine zon ?_
           refine hK39 _ _ ?_
           refine zav hp (τ':=frL [(4,.d (intsD [Q.2]))]) (H':=bH e Q.1 μ2) ?_ ?_
           ·refine zja [0,1,2,3,4,5,6,7] ?_
            refine zjb ?_
            exact zk6
           refine zaj ?_
           refine zap (t:=4) rfl ?_
           show ∃_,_
           rw[hres];exact⟨μ2,hn2,rfl,rfl⟩
          ·have m9:zcz ex≠9:=by simpa using ht
           refine szq (zd8 ·) ?_
           refine zan rfl (fun ht=>?_) (fun ht=>?_)
           ·obtain⟨a,b,d,hform⟩:∃a b d,ex= .mux a b d:=by
             have hv:zcz ex=10:=by simpa using ht
             rcases zdd hwt with⟨v,w,rfl⟩|⟨i,rfl⟩|⟨i,rfl⟩|⟨a,rfl⟩|⟨a,b,rfl⟩|⟨a,b,rfl⟩|⟨a,b,rfl⟩|⟨a,b,rfl⟩|⟨a,b,rfl⟩|⟨a,b,rfl⟩|⟨a,b,rfl⟩|⟨a,b,d,rfl⟩|⟨a,b,rfl⟩|⟨i,w,a,rfl⟩|⟨w,a,rfl⟩|⟨i,a,rfl⟩<;>first|exact⟨_,_,_,rfl⟩|(exfalso;revert hv;simp[zcz];done)
            subst hform
            obtain⟨X,hX⟩:∃X,X=nth T.2 0:=⟨_,rfl⟩
            have wX:X.length=za7 (ctP e.p) a:=by rw[hX];exact ha.wid 0 (by simp[zbd])
            have nX:NdL (mE2 e) T.1 X X.length:=fun i hi=>by rw[hX];exact ha.nd 0 (by simp[zbd]) i (by rw[wX]at hi;exact hi)
            have bX:=zcn he.k.ct (zcc hwt 0 (by simp[zbd]))
            simp only[zbd,nth,List.getD_cons_zero,List.getD_cons_succ]at bX
            obtain⟨Y,hY⟩:∃Y,Y=nth T.2 1:=⟨_,rfl⟩
            have wY:Y.length=za7 (ctP e.p) b:=by rw[hY];exact ha.wid 1 (by simp[zbd])
            have nY:NdL (mE2 e) T.1 Y Y.length:=fun i hi=>by rw[hY];exact ha.nd 1 (by simp[zbd]) i (by rw[wY]at hi;exact hi)
            have bY:=zcn he.k.ct (zcc hwt 1 (by simp[zbd]))
            simp only[zbd,nth,List.getD_cons_zero,List.getD_cons_succ]at bY
            obtain⟨Z,hZ⟩:∃Z,Z=nth T.2 2:=⟨_,rfl⟩
            have wZ:Z.length=za7 (ctP e.p) d:=by rw[hZ];exact ha.wid 2 (by simp[zbd])
            have nZ:NdL (mE2 e) T.1 Z Z.length:=fun i hi=>by rw[hZ];exact ha.nd 2 (by simp[zbd]) i (by rw[wZ]at hi;exact hi)
            have bZ:=zcn he.k.ct (zcc hwt 2 (by simp[zbd]))
            simp only[zbd,nth,List.getD_cons_zero,List.getD_cons_succ]at bZ
            have hL:T.2=[X,Y,Z]:=by rw[hX];rw[hY];rw[hZ];exact ynp ha.ln
            have hwx:za8 (ctP e.p) (.mux a b d)=za8 (ctP e.p) a+za8 (ctP e.p) b+za8 (ctP e.p) d+2*za7 (ctP e.p) b:=rfl
            have hcx:znj (ctP e.p) (zbd (.mux a b d)) (zbd (.mux a b d)).length=za8 (ctP e.p) a+za8 (ctP e.p) b+za8 (ctP e.p) d:=by simp[zbd,znj,nth]
            have lYZ:Z.length=Y.length:=by rw[wY,wZ];exact hwt.2.2.2.2.symm
            have hX1:X.length=1:=by rw[wX];exact hwt.2.2.2.1
            have nZY:NdL (mE2 e) T.1 Z Y.length:=by rw[←lYZ];exact nZ
            have hres:zgo e gs (.mux a b d)=zyc (mE2 e) T.1 (nth X 0) Y Z Y.length:=by rw[hX,hY,hZ,hT,hS];rfl
            rw[hL]
            refine zav hp (τ':=frL [(2,.op 8 0),(5,.op 9 0)]) (H':=bH e T.1 μ1++[bP,.cells [.d (intssD [X,Y,Z])]]) ?_ ?_
            ·refine zja [0,1,2,3,4,5,6,7,8,10] ?_
             refine zjb ?_
             exact zk6
            refine zaf hp zah hc rfl fun K41 hK41=>?_
            refine zd8 ?_
            refine yfy (bH e T.1 μ1++[bP,.cells [.d (intssD [X,Y,Z])]]) ([]) (joz e T.1 μ1 X Y Z h1 (by omega) (nX 0 (by omega)) nY nZY lYZ (by omega) (by omega)) ?_
            rintro _ _ ⟨μ2,hn2,rfl,rfl⟩
            refine⟨rfl,?_⟩
            refine zd8 ?_
            refine hK41 _ _ ?_
            refine zav hp (τ':=frL [(4,.d (intsD (zyc (mE2 e) T.1 (nth X 0) Y Z Y.length).2))]) (H':=bH e (zyc (mE2 e) T.1 (nth X 0) Y Z Y.length).1 μ2) ?_ ?_
            ·refine zja [0,1,2,3,4,5,6,7] ?_
             refine zjb ?_
             exact zk6
            refine zaj ?_
            refine zap (t:=4) rfl ?_
            show ∃_,_
            rw[hres];exact⟨μ2,hn2,rfl,rfl⟩
           ·have m10:zcz ex≠10:=by simpa using ht
            refine szq (zd8 ·) ?_
            refine zan rfl (fun ht=>?_) (fun ht=>?_)
            ·obtain⟨a,b,hform⟩:∃a b,ex= .cat a b:=by
              have hv:zcz ex=11:=by simpa using ht
              rcases zdd hwt with⟨v,w,rfl⟩|⟨i,rfl⟩|⟨i,rfl⟩|⟨a,rfl⟩|⟨a,b,rfl⟩|⟨a,b,rfl⟩|⟨a,b,rfl⟩|⟨a,b,rfl⟩|⟨a,b,rfl⟩|⟨a,b,rfl⟩|⟨a,b,rfl⟩|⟨a,b,d,rfl⟩|⟨a,b,rfl⟩|⟨i,w,a,rfl⟩|⟨w,a,rfl⟩|⟨i,a,rfl⟩<;>first|exact⟨_,_,rfl⟩|(exfalso;revert hv;simp[zcz];done)
             subst hform
             obtain⟨X,hX⟩:∃X,X=nth T.2 0:=⟨_,rfl⟩
             have wX:X.length=za7 (ctP e.p) a:=by rw[hX];exact ha.wid 0 (by simp[zbd])
             have nX:NdL (mE2 e) T.1 X X.length:=fun i hi=>by rw[hX];exact ha.nd 0 (by simp[zbd]) i (by rw[wX]at hi;exact hi)
             have bX:=zcn he.k.ct (zcc hwt 0 (by simp[zbd]))
             simp only[zbd,nth,List.getD_cons_zero,List.getD_cons_succ]at bX
             obtain⟨Y,hY⟩:∃Y,Y=nth T.2 1:=⟨_,rfl⟩
             have wY:Y.length=za7 (ctP e.p) b:=by rw[hY];exact ha.wid 1 (by simp[zbd])
             have nY:NdL (mE2 e) T.1 Y Y.length:=fun i hi=>by rw[hY];exact ha.nd 1 (by simp[zbd]) i (by rw[wY]at hi;exact hi)
             have bY:=zcn he.k.ct (zcc hwt 1 (by simp[zbd]))
             simp only[zbd,nth,List.getD_cons_zero,List.getD_cons_succ]at bY
             have hL:T.2=[X,Y]:=by rw[hX];rw[hY];exact jti ha.ln
             have hres:zgo e gs (.cat a b)=(T.1,Y++X):=by rw[hX,hY,hT,hS];rfl
             have hc1:=jel [Y,X] (by simp) (by simp[zxu];omega)
             rw[show[Y,X].flatten=Y++X by simp]at hc1
             unfold intssD at hc1
             rw[hL]
             refine zav hp (τ':=frL [(2,.op 8 0),(5,.op 9 0)]) (H':=bH e T.1 μ1++[bP,.cells [.d (intssD [X,Y])]]) ?_ ?_
             ·refine zja [0,1,2,3,4,5,6,7,8,10] ?_
              refine zjb ?_
              exact zk6
             refine zay zah hc mixed rfl (q:=1) (by kernel_rfl) (by kernel_rfl) fun K43 hK43=>?_
             refine zd8 ?_
             refine zbl (hc1) rfl ?_
             refine zd8 ?_
             refine hK43 _ _ ?_
             refine zav hp (τ':=frL [(4,.d (intsD (Y++X)))]) (H':=bH e T.1 μ1) ?_ ?_
             ·refine zja [0,1,2,3,4,5,6,7] ?_
              refine zjb ?_
              exact zk6
             refine zaj ?_
             refine zap (t:=4) rfl ?_
             show ∃_,_
             rw[hres];exact⟨μ1,hn1,rfl,rfl⟩
            ·have m11:zcz ex≠11:=by simpa using ht
             refine szq (zd8 ·) ?_
             refine zan rfl (fun ht=>?_) (fun ht=>?_)
             ·obtain⟨i,w,a,hform⟩:∃i w a,ex= .slc i w a:=by
               have hv:zcz ex=12:=by simpa using ht
               rcases zdd hwt with⟨v,w,rfl⟩|⟨i,rfl⟩|⟨i,rfl⟩|⟨a,rfl⟩|⟨a,b,rfl⟩|⟨a,b,rfl⟩|⟨a,b,rfl⟩|⟨a,b,rfl⟩|⟨a,b,rfl⟩|⟨a,b,rfl⟩|⟨a,b,rfl⟩|⟨a,b,d,rfl⟩|⟨a,b,rfl⟩|⟨i,w,a,rfl⟩|⟨w,a,rfl⟩|⟨i,a,rfl⟩<;>first|exact⟨_,_,_,rfl⟩|(exfalso;revert hv;simp[zcz];done)
              subst hform
              obtain⟨X,hX⟩:∃X,X=nth T.2 0:=⟨_,rfl⟩
              have wX:X.length=za7 (ctP e.p) a:=by rw[hX];exact ha.wid 0 (by simp[zbd])
              have nX:NdL (mE2 e) T.1 X X.length:=fun i hi=>by rw[hX];exact ha.nd 0 (by simp[zbd]) i (by rw[wX]at hi;exact hi)
              have bX:=zcn he.k.ct (zcc hwt 0 (by simp[zbd]))
              simp only[zbd,nth,List.getD_cons_zero,List.getD_cons_succ]at bX
              have hL:T.2=[X]:=by rw[hX];exact yhe ha.ln
              have hres:zgo e gs (.slc i w a)=(T.1,(X.drop i).take w):=by rw[hX,hT,hS];rfl
              have hkw:=hwt.2.2
              have hkx:i+w≤X.length:=by rw[wX];exact hkw
              have hto:((i:Int)+(w:Int)).toNat - i=w:=by omega
              have hmin:min w (X.length - i)=w:=by omega
              have hb8:i+w≤1000:=by omega
              rw[hL]
              clear hX hT hS wX nX bX htk hln hL ha hso
              refine zav hp (τ':=frL [(2,.op 8 0),(5,.op 9 0),(8,.op 10 0),(9,.d (iD w))]) (H':=bH e T.1 μ1++[bP,.cells [.d (intssD [X])],.cells [.d (iD i)]]) ?_ ?_
              ·refine zja [0,1,2,3,4,5,6,7,8,10,11] ?_
               refine zjb ?_
               exact zk6
              refine zay zah hc mixed rfl (q:=0) (by kernel_rfl) (by kernel_rfl) fun K45 hK45=>?_
              refine zd8 ?_
              refine hK45 _ _ ?_
              refine zav hp (τ':=frL [(4,.d (intsD ((X.drop i).take w)))]) (H':=bH e T.1 μ1) ?_ ?_
              ·refine zja [0,1,2,3,4,5,6,7] ?_
               refine zjb ?_
               exact zk6
              refine zaj ?_
              refine zap (t:=4) rfl ?_
              show ∃_,_
              rw[hres];exact⟨μ1,hn1,rfl,rfl⟩
             ·have m12:zcz ex≠12:=by simpa using ht
              refine szq (zd8 ·) ?_
              refine zan rfl (fun ht=>?_) (fun ht=>?_)
              ·obtain⟨w,a,hform⟩:∃w a,ex= .ext w a:=by
                have hv:zcz ex=13:=by simpa using ht
                rcases zdd hwt with⟨v,w,rfl⟩|⟨i,rfl⟩|⟨i,rfl⟩|⟨a,rfl⟩|⟨a,b,rfl⟩|⟨a,b,rfl⟩|⟨a,b,rfl⟩|⟨a,b,rfl⟩|⟨a,b,rfl⟩|⟨a,b,rfl⟩|⟨a,b,rfl⟩|⟨a,b,d,rfl⟩|⟨a,b,rfl⟩|⟨i,w,a,rfl⟩|⟨w,a,rfl⟩|⟨i,a,rfl⟩<;>first|exact⟨_,_,rfl⟩|(exfalso;revert hv;simp[zcz];done)
               subst hform
               obtain⟨X,hX⟩:∃X,X=nth T.2 0:=⟨_,rfl⟩
               have wX:X.length=za7 (ctP e.p) a:=by rw[hX];exact ha.wid 0 (by simp[zbd])
               have nX:NdL (mE2 e) T.1 X X.length:=fun i hi=>by rw[hX];exact ha.nd 0 (by simp[zbd]) i (by rw[wX]at hi;exact hi)
               have bX:=zcn he.k.ct (zcc hwt 0 (by simp[zbd]))
               simp only[zbd,nth,List.getD_cons_zero,List.getD_cons_succ]at bX
               have hL:T.2=[X]:=by rw[hX];exact yhe ha.ln
               have hres:zgo e gs (.ext w a)=(T.1,X++List.replicate (w - X.length) 0):=by rw[hX,hT,hS];rfl
               have hwa:=hwt.2.1;have hw8:=hwt.2.2
               have hc1:=jel [X,List.replicate (w - X.length) 0] (by simp) (by simp[zxu];omega)
               have hc2:=jou [X,List.replicate (w - X.length) 0] (by simp) (by simp[zxu];omega)
               rw[show[X,List.replicate (w - X.length) (0:Int)].flatten=X++List.replicate (w - X.length) 0 by simp]at hc1 hc2
               have hmz:((w:Int) - (X.length:Int)).toNat=w - X.length:=by omega
               simp only[intssD,intsD,List.map_cons,List.map_nil,List.map_replicate,List.length_replicate,List.length_cons,List.length_nil,Nat.zero_add,Nat.reduceAdd]at hc1 hc2
               rw[hL]
               refine zav hp (τ':=frL [(2,.op 8 0),(5,.op 9 0),(9,.d (iD w))]) (H':=bH e T.1 μ1++[bP,.cells [.d (intssD [X])]]) ?_ ?_
               ·refine zja [0,1,2,3,4,5,6,7,8,10] ?_
                refine zjb ?_
                exact zk6
               refine zay zah hc mixed rfl (q:=2) (by kernel_rfl) (by kernel_rfl) fun K47 hK47=>?_
               by_cases hz:X.length<w
               ·have hz0:(0<w - X.length)=True:=by simp;omega
                refine jo7 (sza hmz hz0) ?_
                refine zbl (hc1) rfl ?_
                refine jo7 (sza hmz hz0) ?_
                refine hK47 _ _ ?_
                refine zav hp (τ':=frL [(4,.d (intsD (X++List.replicate (w - X.length) 0)))]) (H':=bH e T.1 μ1) ?_ ?_
                ·refine zja [0,1,2,3,4,5,6,7] ?_
                 refine zjb ?_
                 exact zk6
                refine zaj ?_
                refine zap (t:=4) rfl ?_
                show ∃_,_
                rw[hres];exact⟨μ1,hn1,rfl,rfl⟩
               ·have hz0:((0:Nat)<0)=False:=by simp
                have hz1:w - X.length=0:=by omega
                rw[hz1]at hmz hc2 hres
                simp only[List.replicate_zero]at hc2 hres
                refine jo7 (sza hmz hz0) ?_
                refine jie (hc2) ?_ ?_
                ·simp (disch:=first|assumption|omega|(simp only[r_z,zac,zab,zbm]<;>omega)|decide) only[r_c,Nat.reduceAdd,D.fix,↓reduceIte,Nat.reduceEqDiff,r_m,bH,bO,zar,za3,bP,exS,exR,nS,zge,zrv,intssD,List.cons_append,List.nil_append]
                refine jo7 (sza hmz hz0) ?_
                refine hK47 _ _ ?_
                refine zav hp (τ':=frL [(4,.d (intsD (X++[])))]) (H':=bH e T.1 μ1) ?_ ?_
                ·refine zja [0,1,2,3,4,5,6,7] ?_
                 refine zjb ?_
                 exact zk6
                refine zaj ?_
                refine zap (t:=4) rfl ?_
                show ∃_,_
                rw[hres];exact⟨μ1,hn1,rfl,rfl⟩
              ·have m13:zcz ex≠13:=by simpa using ht
               obtain⟨i,a,hform⟩:∃i a,ex= .rd i a:=by
                clear ht
                rcases zdd hwt with⟨v,w,rfl⟩|⟨i,rfl⟩|⟨i,rfl⟩|⟨a,rfl⟩|⟨a,b,rfl⟩|⟨a,b,rfl⟩|⟨a,b,rfl⟩|⟨a,b,rfl⟩|⟨a,b,rfl⟩|⟨a,b,rfl⟩|⟨a,b,rfl⟩|⟨a,b,d,rfl⟩|⟨a,b,rfl⟩|⟨i,w,a,rfl⟩|⟨w,a,rfl⟩|⟨i,a,rfl⟩<;>first|exact⟨_,_,rfl⟩|(exfalso;simp_all [zcz];done)
               subst hform
               obtain⟨X,hX⟩:∃X,X=nth T.2 0:=⟨_,rfl⟩
               have wX:X.length=za7 (ctP e.p) a:=by rw[hX];exact ha.wid 0 (by simp[zbd])
               have nX:NdL (mE2 e) T.1 X X.length:=fun i hi=>by rw[hX];exact ha.nd 0 (by simp[zbd]) i (by rw[wX]at hi;exact hi)
               have bX:=zcn he.k.ct (zcc hwt 0 (by simp[zbd]))
               simp only[zbd,nth,List.getD_cons_zero,List.getD_cons_succ]at bX
               have hL:T.2=[X]:=by rw[hX];exact yhe ha.ln
               have hwx:za8 (ctP e.p) (.rd i a)=za8 (ctP e.p) a+(nth (ctP e.p).mems i).2:=rfl
               have hcx:znj (ctP e.p) (zbd (.rd i a)) (zbd (.rd i a)).length=za8 (ctP e.p) a:=by simp[zbd,znj,nth]
               have hil:i<e.p.mems.length:=by have:=hwt.2;simpa[ctP]using this
               have em:nth (ctP e.p).mems i=((nth e.p.mems i).words,(nth e.p.mems i).w):=zt4 hil
               have hm8:=he.k.ct.m i (by simpa[ctP]using hil)
               have hml:=he.k.ct.l
               rw[em]at hm8 hwx
               simp only at hm8 hwx
               have hml2:(ctP e.p).mems.length=e.p.mems.length:=by simp[ctP]
               have q1:=yg1 hil
               have hz0:(0<(nth e.p.mems i).w)=True:=by simp;omega
               have q2:=yi1 hil
               obtain⟨A,hA⟩:∃A,A=zhu X (nth e.p.mems i).words:=⟨_,rfl⟩
               have hAl:A=[nth A 0,nth A 1,nth A 2]:=by
                have:A.length=3:=by rw[hA];exact ze5 _ _
                match A,this with
                |[x,y,z],_=>rfl
               have nA:∀j,j<3→NdB (mE2 e) T.1 (nth A j):=fun j hj=>by rw[hA];exact zt3 zg3 nX hj
               have hc1:=jle X (nth e.p.mems i).words (by omega) (by omega)
               rw[←hA,hAl]at hc1
               have hres:zgo e gs (.rd i a)=rdW (mE2 e) T.1 (nth A 0) (nth A 1) (nth A 2) i (nth e.p.mems i).w:=by
                have e0:zgo e gs (.rd i a)=rdW (mE2 e) T.1 (nth (zhu X (nth (ctP e.p).mems i).1) 0) (nth (zhu X (nth (ctP e.p).mems i).1) 1) (nth (zhu X (nth (ctP e.p).mems i).1) 2) i (nth (ctP e.p).mems i).2:=by rw[hX,hT,hS];rfl
                rw[e0,em,←hA]
               rw[hL]
               refine zai (hK22 _ _ ?_)
               refine zav hp (τ':=frL [(2,.op 8 0),(5,.op 9 0),(8,.op 10 0)]) (H':=bH e T.1 μ1++[bP,.cells [.d (intssD [X])],.cells [.d (iD i)]]) ?_ ?_
               ·refine zja [0,1,2,3,4,5,6,7,8,10,11] ?_
                refine zjb ?_
                exact zk6
               refine zay zah hc mixed rfl (q:=1) (by kernel_rfl) (by kernel_rfl) fun K48 hK48=>?_
               refine yfz q2 ?_
               refine zbl (hc1) rfl ?_
               refine yfz q2 ?_
               refine hK48 _ _ ?_
               refine zav hp (τ':=frL [(2,.op 8 0),(13,.op 9 0),(8,.op 10 0)]) (H':=bH e T.1 μ1++[bP,.cells [.d (iD (nth A 0)),.d (iD (nth A 1)),.d (iD (nth A 2))],.cells [.d (iD i)]]) ?_ ?_
               ·refine zja [0,1,2,3,4,5,6,7,8,11,10] ?_
                refine zjb ?_
                exact zk6
               refine zbc zah hp hc mixed rfl [(0,[]),(1,[]),(2,[]),(3,[]),(4,[]),(5,[]),(6,[]),(7,[]),(8,[]),(9,[]),(10,[]),(11,[]),(12,[])] [[],[0],[0,1],[0,1,2],[0,1,2,3],[],[0,1,2,3,4,5],[0,1,2,3,4,5,6],[0,1,2,3,4,5,6,7],[0,1,2,3,4,5,6,7,8],[],[0,1,2,3,4,5,6,7,8,9,10],[0,1,2,3,4,5,6,7,8,9,10,11]] 1 (by kernel_rfl) fun K49 hK49=>?_
               refine jo6 (sza q1 hz0) ?_
               refine jo3 (bH e T.1 μ1++[bP,.cells [.d (iD (nth A 0)),.d (iD (nth A 1)),.d (iD (nth A 2))],.cells [.d (iD i)]]) ([.dead]) (jwr e T.1 μ1 (nth A 0) (nth A 1) (nth A 2) i (nth e.p.mems i).w h1 (nA 0 (by decide)) (nA 1 (by decide)) (nA 2 (by decide)) (by omega) (by omega)) ?_
               rintro _ _ ⟨μ2,hn2,rfl,rfl⟩
               refine⟨rfl,?_⟩
               refine jo6 (sza q1 hz0) ?_
               refine hK49 _ _ ?_
               refine zav hp (τ':=frL [(4,.d (intsD (rdW (mE2 e) T.1 (nth A 0) (nth A 1) (nth A 2) i (nth e.p.mems i).w).2))]) (H':=bH e (rdW (mE2 e) T.1 (nth A 0) (nth A 1) (nth A 2) i (nth e.p.mems i).w).1 μ2) ?_ ?_
               ·refine zja [0,1,2,3,4,5,6,7] ?_
                refine zjb ?_
                exact zk6
               refine zaj ?_
               refine zap (t:=4) rfl ?_
               show ∃_,_
               rw[hres];exact⟨μ2,hn2,rfl,rfl⟩
theorem zvh(e:BE)(he:BEOk e)(q:Bool)(ex:Ex):yfw e q ex:=by
 generalize hn:SizeOf.sizeOf ex=n
 induction n using Nat.strongRecOn generalizing ex with
 |_ n ih=>exact fun gs μ h hda hwt hcl=>yf0 e he q ex (fun k hk=>ih _ (hn▸zxm hk) _ rfl) gs μ h hda hwt hcl
end Go.Proofs.YtapjobndmmkanaaGreat
