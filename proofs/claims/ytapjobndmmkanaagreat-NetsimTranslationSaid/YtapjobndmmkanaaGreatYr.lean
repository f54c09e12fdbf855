/- netlist's builder: the firing bit. -/
import Derived.Test.YtapjobndmmkanaaGreatQr
import Derived.Test.YtapjobndmmkanaaGreatYn
import Derived.Test.YtapjobndmmkanaaGreatYp
set_option linter.unusedVariables false
set_option linter.unusedSimpArgs false
set_option maxRecDepth 100000
set_option maxHeartbeats 4000000
namespace Go.Proofs.YtapjobndmmkanaaGreat
open Go.Proofs.Tryz
open Go Go.RowKit
def wiN(ins:List Wire)(kind:Int)(j k:Nat):Int:=((2+zqo ⟨kind,(j:Int),(k:Int)⟩ ins:Nat):Int)
theorem jem{e:BE}{kind:Int}{j k:Nat}(h:(⟨kind,(j:Int),(k:Int)⟩:Wire)∈e.ins)(gs:Gs):NdB (mE2 e) gs (wiN e.ins kind j k):=by
 have:=(zm8 h).1
 unfold wiN
 exact⟨by omega,by unfold mE2;omega⟩
theorem jf6{p q r:Prop}(e:r)(hq:q)(h:r→p=q:=by
 intro hY
 conv=>lhs;simp -dsimp -implicitDefEqProofs (disch:=first|assumption|omega|(simp only[r_z,zac,zab]<;>omega)|decide) only[r_r,↓reduceIte,Nat.reduceEqDiff,Nat.reduceAdd,D.fix,Int.reduceToNat,Nat.reduceMul,Nat.reduceBNe,Nat.reduceBEq,r_w,r_m,bH,bO,zar,za3,bP,List.cons_append,List.nil_append,zr3,zfc,zpk yg7 hkey hm.ok,Option.getD_some,qae,hY]):p:=(h e).mpr hq
theorem yhi{P:Program}{sm:List Nat}{N:Nat}{τ0 τ:Fr}{H:zad}{f:FuncId}{args:List AV}{K0 KK:AV→zad→Prop}{ks:List Nat}(S T:zad)(h:ScS P ks f args S K0)(hK:∀x S',K0 x S'→S'.length=S.length∧KK x (S'++T))(hH:H=S++T:=by
 rfl) (hN:S.length≤N:=by
 exact qaf rfl) (hm:sm.all (okI ks S.length)=true:=by
 first|rfl|(simp[AV.allIs,AV.allI,zas,zal,zam,okI,ltI,zae,zaz,bH,bO,bP];done)|(intro o ho;simp at ho;done)) (hτ:∀t,(τ t).allI (okI ks S.length)=true:=by
 exact fun t=>zbi (by first|rfl|(simp[AV.allIs,AV.allI,zas,zal,zam,okI,ltI,zae,zaz,bH,bO,bP];done)|(intro o ho;simp at ho;done)) t) (h0:∀t,(τ0 t).allI (okI ks S.length)=true:=by
 exact fun t=>zbi (by first|rfl|(simp[AV.allIs,AV.allI,zas,zal,zam,okI,ltI,zae,zaz,bH,bO,bP];done)|(intro o ho;simp at ho;done)) t) (ha:AV.allIs (ltI S.length) args=true:=by
 first|rfl|(simp[AV.allIs,AV.allI,zas,zal,zam,okI,ltI,zae,zaz,bH,bO,bP];done)|(intro o ho;simp at ho;done)) (hS:∀o∈S,o.allI (ltI S.length)=true:=by
 first|rfl|(simp[AV.allIs,AV.allI,zas,zal,zam,okI,ltI,zae,zaz,bH,bO,bP];done)|(intro o ho;simp at ho;done)) (hT:∀o∈T,o.allI (okI ks S.length)=true:=by
 first|rfl|(simp[AV.allIs,AV.allI,zas,zal,zam,okI,ltI,zae,zaz,bH,bO,bP];done)|(intro o ho;simp at ho;done)):kE P sm N τ0 τ H (.d (.val (.func (.func f) #[] #[]))) args (tg KK):=zpl h hH hN hm hτ h0 ha hS hT hK
theorem yf3(k:List Nat){m:List Nat}{τ τ1:Fr}{H H1:zad}(h:Rt m (fun t=>gcV k (τ t)) (gcH k H) τ1 H1)(a:∀i∈m,k[i]? =some i:=by decide)(b:k.Nodup:=by decide)(c:∀i∈k,i<H.length:=by
 simp[fzH,gcH]):Rt m τ H τ1 H1:=Rt.trans (Rt.gc a b c) h
theorem jx2{m:List Nat}{τ τ':Fr}{H H':zad}(h2:H=H')(h:zgk τ τ':=by
 repeat (first|exact zaq _|refine zak ?_ (by first|rfl|(simp[r_f,zac,zab];done)|simp[r_f,zac,zab, *]))):Rt m τ H τ' H':=Rt.end h h2
theorem yme{p:Prop}(h:p:=by
 first|rfl|(simp only[r_g,Nat.reduceAdd,↓reduceIte,Nat.reduceEqDiff,r_m,bH,bO,zar,za3,bP,List.cons_append,List.nil_append];first|done|rfl)):p:=h
theorem ykb(e:BE)(gs:Gs)(μ:Mp)(u:Int)(j i:Nat)(x:Int)(h:BOk e gs μ)(hm:InM e.ins e.mi)(hw:(⟨2,(j:Int),(i:Int)⟩:Wire)∈e.ins)(hu:NdB (mE2 e) gs u)(hj:j≤1000)(hi:i≤1000):ScS prog [0,1,3,4,5,6,7,8,9,10] 139 [.d (iD i),.d (iD x),.op 8 0,.op 9 0,.op 10 0] (bH e gs μ++[bP,.cells [.d (iD u)],.cells [.d (iD j)]]) (jfy e [bP,.cells [.d (iD u)],.cells [.d (iD j)]] (zdn (mE2 e) gs u (wiN e.ins 2 j i))):=by
 refine zbg (fn:=f139) (by kernel_rfl) func139 rfl (qaf rfl) fun c hc hp=>?_
 refine zn1 ?_
 unfold bH bP
 have hkey:zk8 prog tWm (wV ⟨2,(j:Int),(i:Int)⟩):=zw4 (a:=2) (b:=(j:Int)) (c:=(i:Int)) (zh2 (by decide) (by decide)) (zh2 (by omega) (by omega)) (zh2 (by omega) (by omega))
 have hgm:=hm.gt ⟨2,(j:Int),(i:Int)⟩
 rw[if_pos hw]at hgm
 have hcl:=zj3 e gs μ u (wiN e.ins 2 j i) h hu (jem hw gs)
 have hwi:wiN e.ins 2 j i=((2+zqo ⟨2,(j:Int),(i:Int)⟩ e.ins:Nat):Int):=rfl
 rw[←hwi]at hgm
 generalize wiN e.ins 2 j i=W at *
 refine zaf hp zah hc rfl fun K1 hK1=>?_
 simp -dsimp -implicitDefEqProofs (disch:=first|assumption|omega|(simp only[r_z,zac,zab]<;>omega)|decide) only[r_r,↓reduceIte,Nat.reduceEqDiff,Nat.reduceAdd,D.fix,Int.reduceToNat,Nat.reduceMul,Nat.reduceBNe,Nat.reduceBEq,r_m,bH,bO,zar,za3,bP,List.cons_append,List.nil_append]
 refine hK1 _ _ ?_
 refine zbc zah hp hc mixed rfl [(0,[]),(1,[]),(2,[]),(3,[]),(4,[]),(5,[]),(6,[]),(7,[]),(8,[]),(9,[]),(10,[]),(11,[])] [[],[],[],[2],[2,3],[2,3,4],[],[],[6,7],[2,3,4,5,6,7,8],[0,1,2,3,4,5,6,7,8,9],[0,1,2,3,4,5,6,7,8,9,10]] 0 (by kernel_rfl) fun K2 hK2=>?_
 refine jf6 hgm ?_
 refine yhi (bH e gs μ) ([bP,.cells [.d (iD u)],.cells [.d (iD j)]]) (hcl) ?_
 rintro _ _ ⟨μ1,hn1,rfl,rfl⟩
 refine⟨rfl,?_⟩
 refine jf6 hgm ?_
 refine hK2 _ _ ?_
 refine zav hp (τ':=frL [(7,.d (iD (zdn (mE2 e) gs u W).2))]) (H':=bH e (zdn (mE2 e) gs u W).1 μ1++[bP,.cells [.d (iD u)],.cells [.d (iD j)]]) ?_ ?_
 ·refine yf3 [0,1,2,3,4,5,6,7,8,9,10] ?_
  refine jx2 ?_
  exact yme
 refine zaj ?_
 refine zap (t:=7) rfl ?_
 show ∃_,_
 exact⟨μ1,hn1,rfl,rfl⟩
def jen(m:Nat)(ins:List Wire)(gs:Gs)(u:Int)(j k:Nat):Gs × List Int:=zbu (fun gs i=>zdn m gs u (wiN ins 2 j i)) gs k
theorem jln{m:Nat}{ins:List Wire}{gs:Gs}{u:Int}{j k:Nat}:jen m ins gs u j (k+1)=((zdn m (jen m ins gs u j k).1 u (wiN ins 2 j k)).1,(jen m ins gs u j k).2++[(zdn m (jen m ins gs u j k).1 u (wiN ins 2 j k)).2]):=rfl
theorem jwu{e:BE}{gs:Gs}{u:Int}{j n k:Nat}(h:GI (mE2 e) gs)(hu:NdB (mE2 e) gs u)(hw:∀i,i<n→(⟨2,(j:Int),(i:Int)⟩:Wire)∈e.ins)(hk:k≤n):Bs (mE2 e) (1*k) k gs (jen (mE2 e) e.ins gs u j k):=zc3 h fun i hi gs' hp hg=>zfy zg3 hg (hu.pre hp) (jem (hw i (by omega)) _)
theorem yf4{p q:Prop}(hq:q)(h:p=q:=by
 conv=>lhs;simp -dsimp -implicitDefEqProofs (disch:=first|assumption|omega|(simp only[r_z,zac,zab]<;>omega)|decide) only[r_r,↓reduceIte,Nat.reduceEqDiff,Nat.reduceAdd,D.fix,Int.reduceToNat,Nat.reduceMul,Nat.reduceBNe,Nat.reduceBEq,r_m,bH,bO,zar,za3,zcu,List.cons_append,List.nil_append,bP]):p:=h.mpr hq
theorem jf7{p q:Prop}(hq:q)(h:p=q:=by
 conv=>lhs;simp -dsimp -implicitDefEqProofs (disch:=first|assumption|omega|(simp only[r_z,zac,zab]<;>omega)|decide) only[r_r,↓reduceIte,Nat.reduceEqDiff,Nat.reduceAdd,D.fix,Int.reduceToNat,Nat.reduceMul,Nat.reduceBNe,Nat.reduceBEq,r_m,bH,bO,zar,za3,zcu,List.cons_append,List.nil_append,bP,qae]):p:=h.mpr hq
theorem ymf{p q:Prop}(hq:q)(h:p=q:=by
 conv=>lhs;simp only[r_g,Nat.reduceAdd,↓reduceIte,Nat.reduceEqDiff,r_m,bH,bO,zar,za3,zcu,List.cons_append,List.nil_append,bP]):p:=h.mpr hq
theorem jo9(e:BE)(gs:Gs)(μ:Mp)(u:Int)(j n:Nat)(h:BOk e gs μ)(hm:InM e.ins e.mi)(hwi:∀i,i<n→(⟨2,(j:Int),(i:Int)⟩:Wire)∈e.ins)(hu:NdB (mE2 e) gs u)(hj:j≤1000)(hn60:n≤60)(hl:gs.length+n≤99990):ScS prog [0,1,3,4,5,6,7,8,9,10] 138 [.d (.fs (List.replicate n (iD 0)) n),.clo (.func 139) [] [.op 8 0,.op 9 0,.op 10 0]] (bH e gs μ++[bP,.cells [.d (iD u)],.cells [.d (iD j)]]) (joo e [bP,.cells [.d (iD u)],.cells [.d (iD j)]] (jen (mE2 e) e.ins gs u j n)):=by
 refine zbg (fn:=f138) (by kernel_rfl) func138 rfl (qaf rfl) fun c hc hp=>?_
 refine zdq ?_
 unfold bH bP
 refine szq (yf4 ·) ?_
 refine szq (jf7 ·) ?_
 refine zaa fun K3 hK3=>?_
 refine szq (jf7 ·) ?_
 refine zag ?_
 refine zao hp (fun τ' H' mm=>∃(k:Nat) (μ1:Mp),(k≤n∧NdM (mE2 e) (jen (mE2 e) e.ins gs u j k).1 μ1)∧mm=n - k∧H'=bH e (jen (mE2 e) e.ins gs u j k).1 μ1++[bP,.cells [.d (iD u)],.cells [.d (iD j)],zcu (jen (mE2 e) e.ins gs u j k).2 n]∧τ'=frL [(1,.clo (.func 139) [] [.op 8 0,.op 9 0,.op 10 0]),(5,.os 1 11 0 n),(11,.d (.fs (List.replicate n (iD 0)) n)),(12,.d (iD n)),(13,.d (iD k))]) (n) ?_ ⟨0,μ,⟨qap _,h.n⟩,rfl,rfl,rfl⟩ ?_
 ·refine jx2 ?_
  refine ymf ?_;simp[jen,zbu,zcu,bH,bO,zar,iD,avs,bP]
 rintro τ' H' mm ⟨k,μ1,⟨hk,hn1⟩,rfl,rfl,rfl⟩
 have hb:=jwu h.g hu hwi hk
 have hsu:=@jln (mE2 e) e.ins gs u j k
 have hke:k=n→jen (mE2 e) e.ins gs u j n=jen (mE2 e) e.ins gs u j k:=fun e=>by rw[←e]
 generalize jen (mE2 e) e.ins gs u j k=s at *
 have hw:=hb.wid
 have hbl:=hb.len
 have h1:BOk e s.1 μ1:=⟨hn1,hb.gi,h.i,by have:=h.l;omega⟩
 refine szq (jf7 ·) ?_
 refine zaa fun K6 hK6=>?_
 refine zan rfl (fun ht=>?_) (fun ht=>?_)
 ·have hlt:k<n:=by simp at ht;omega
  have hrep:(List.replicate n (D.val (.int .i64 0)))[k]? =some (.val (.int .i64 0)):=by simp[hlt]
  have hst:=zgy hw hlt (zdn (mE2 e) s.1 u (wiN e.ins 2 j k)).2
  refine zai (hK6 _ _ ?_)
  refine zaa fun K7 hK7=>?_
  refine zag ?_
  refine zaf hp zah hc rfl fun K8 hK8=>?_
  simp -dsimp -implicitDefEqProofs (disch:=first|assumption|omega|(simp only[r_z,zac,zab]<;>omega)|decide) only[r_r,↓reduceIte,Nat.reduceEqDiff,Nat.reduceAdd,D.fix,Int.reduceToNat,Nat.reduceMul,Nat.reduceBNe,Nat.reduceBEq,r_m,bH,bO,zar,za3,zcu,List.cons_append,List.nil_append,bP,hrep,qae]
  refine hK8 _ _ ?_
  refine za1 hp zah hc rfl fun K9 hK9=>?_
  refine jf7 ?_
  refine zow (S:=bH e s.1 μ1++[bP,.cells [.d (iD u)],.cells [.d (iD j)]]) (T:=[zcu s.2 n]) (ykb e s.1 μ1 u j k _ h1 hm (hwi k hlt) (hu.pre hb.pre) hj (by omega)) rfl (by first|rfl|(simp[AV.allIs,AV.allI,zas,zal,zam,okI,ltI,zae,zaz,bH,bO,zcu,bP];done)|(intro o ho;simp at ho;done)) (fun t=>zbi (by first|rfl|(simp[AV.allIs,AV.allI,zas,zal,zam,okI,ltI,zae,zaz,bH,bO,zcu,bP];done)|(intro o ho;simp at ho;done)) t) (by first|rfl|(simp[AV.allIs,AV.allI,zas,zal,zam,okI,ltI,zae,zaz,bH,bO,zcu,bP];done)|(intro o ho;simp at ho;done)) (by first|rfl|(simp[AV.allIs,AV.allI,zas,zal,zam,okI,ltI,zae,zaz,bH,bO,zcu,bP];done)|(intro o ho;simp at ho;done)) (by first|rfl|(simp[AV.allIs,AV.allI,zas,zal,zam,okI,ltI,zae,zaz,bH,bO,zcu,bP];done)|(intro o ho;simp at ho;done)) ?_
  rintro _ _ ⟨μ2,hn2,rfl,rfl⟩
  refine⟨rfl,?_⟩
  refine jf7 ?_
  refine hK9 _ _ (hK7 _ _ ?_)
  refine za1 hp zah hc rfl fun K10 hK10=>?_
  refine jf7 ?_
  refine hK10 _ _ ⟨_,_,_,?_,⟨k+1,μ2,⟨by omega,by rw[hsu];exact hn2⟩,rfl,rfl,rfl⟩,?_⟩
  ·first|omega|(simp only[List.length_cons];omega)|(dsimp only;omega)
  ·refine yf3 [0,1,2,3,4,5,6,7,8,9,10,11] ?_
   refine jx2 ?_
   refine ymf ?_;rw[hsu];dsimp only;rw[←hst];simp[bH,bO,zar,avs,iD,bP]
 ·have hkk:k=n:=by simp at ht;omega
  have hz:s.2++List.replicate (n - s.2.length) (0:Int)=s.2:=by rw[hw,hkk,Nat.sub_self];simp
  rw[hz]
  refine zau (hK3 _ _ ?_)
  refine szq (yf4 ·) ?_
  refine zav hp (τ':=frL [(4,.d (.fs (s.2.map iD) n))]) (H':=bH e s.1 μ1++[bP,.cells [.d (iD u)],.cells [.d (iD j)]]) ?_ ?_
  ·refine Rt.trans (Rt.fz (id:=11) (l:=(s.2.map iD)) rfl) ?_
   refine Rt.trans (Rt.slot 4 (zex (zba (by simp[hw,hkk])))) ?_
   refine yf3 [0,1,2,3,4,5,6,7,8,9,10] ?_
   refine jx2 ?_
   first|rfl|(simp only[r_g,Nat.reduceAdd,↓reduceIte,Nat.reduceEqDiff,r_m,bH,bO,zar,za3,zcu,List.cons_append,List.nil_append,bP];first|done|rfl)
  refine zaj ?_
  refine zap (t:=4) rfl ?_
  show ∃_,_
  rw[hke hkk];exact⟨μ1,hn1,by show AV.d (.fs (s.2.map iD) n)= .d (.fs (s.2.map iD) s.2.length);rw[hw,hkk],rfl⟩
def zvl(m:Nat)(ins:List Wire)(kind:Int)(l:List Int)(s:Re):Nat→Re
 |0=>s
 |k+1=>let r:=zvl m ins kind l s k;zu3 m r.1 r.2 (nth l k) (wiN ins kind k 0)
theorem jlo{e:BE}{kind:Int}{l:List Int}{gs:Gs}{f:Int}(h:GI (mE2 e) gs)(hf:NdB (mE2 e) gs f)(hl:NdL (mE2 e) gs l l.length)(hw:∀k,k<l.length→(⟨kind,(k:Int),((0:Nat):Int)⟩:Wire)∈e.ins):∀k,k≤l.length→Rs (mE2 e) (3*k) gs (zvl (mE2 e) e.ins kind l (gs,f) k)
 |0,_=>Rs.same h hf
 |k+1,hk=>by
  have ih:=jlo h hf hl hw k (by omega)
  exact(ih.trans (zzb zg3 ih.gi ih.nd ((hl k (by omega)).pre ih.pre) (jem (hw k (by omega)) _))).mono (by omega)
def NeK(e:BE)(r:Re)(x:AV)(S':zad):Prop:=∃μ,NdM (mE2 e) r.1 μ∧x= .tup []∧S'=bH e r.1 μ++[bP,.cells [.d (iD r.2)]]
theorem jwv{p q:Prop}(hq:q)(h:p=q:=by
 conv=>lhs;simp -dsimp -implicitDefEqProofs (disch:=first|assumption|omega|(simp only[r_z,zac,zab]<;>omega)|decide) only[r_r,↓reduceIte,Nat.reduceEqDiff,Nat.reduceAdd,D.fix,Int.reduceToNat,Nat.reduceMul,Nat.reduceBNe,Nat.reduceBEq,r_m,bH,bO,zar,za3,bP,List.cons_append,List.nil_append,qae]):p:=h.mpr hq
theorem ymg{p q:Prop}(hq:q)(h:p=q:=by
 conv=>lhs;simp only[r_g,Nat.reduceAdd,↓reduceIte,Nat.reduceEqDiff,r_m,bH,bO,zar,za3,bP,List.cons_append,List.nil_append]):p:=h.mpr hq
theorem jlp(e:BE)(gs:Gs)(μ:Mp)(kind f:Int)(l:List Int)(h:BOk e gs μ)(hm:InM e.ins e.mi)(hk0:0≤kind)(hk1:kind≤100)(hf:NdB (mE2 e) gs f)(hll:NdL (mE2 e) gs l l.length)(hlw:∀k,k<l.length→(⟨kind,(k:Int),((0:Nat):Int)⟩:Wire)∈e.ins)(hln:l.length≤1000)(hl:gs.length+3*l.length≤99990):ScS prog [0,1,3,4,5,6,7,8,9] 140 [.d (iD kind),.d (intsD l),.op 8 0,.op 9 0] (bH e gs μ++[bP,.cells [.d (iD f)]]) (NeK e (zvl (mE2 e) e.ins kind l (gs,f) l.length)):=by
 refine zbg (fn:=f140) (by kernel_rfl) func140 rfl (qaf rfl) fun c hc hp=>?_
 refine zl1 ?_
 refine zqr hp ?_
 unfold bH bP
 refine szq (jwv ·) ?_
 refine zag ?_
 refine zao hp (fun τ' H' mm=>∃(k:Nat) (μ1:Mp),(k≤l.length∧NdM (mE2 e) (zvl (mE2 e) e.ins kind l (gs,f) k).1 μ1)∧mm=l.length - k∧H'=bH e (zvl (mE2 e) e.ins kind l (gs,f) k).1 μ1++[bP,.cells [.d (iD (zvl (mE2 e) e.ins kind l (gs,f) k).2)]]∧τ'=frL [(0,.d (iD kind)),(2,.op 8 0),(3,.op 9 0),(8,.d (intsD l)),(9,.d (iD l.length)),(10,.d (iD k))]) (l.length) ?_ ⟨0,μ,⟨qap _,h.n⟩,rfl,rfl,rfl⟩ ?_
 ·refine jx2 ?_
  refine ymg ?_;rfl
 rintro τ' H' mm ⟨k,μ1,⟨hk,hn1⟩,rfl,rfl,rfl⟩
 have hr:=jlo h.g hf hll hlw k hk
 have hsu:zvl (mE2 e) e.ins kind l (gs,f) (k+1)=zu3 (mE2 e) (zvl (mE2 e) e.ins kind l (gs,f) k).1 (zvl (mE2 e) e.ins kind l (gs,f) k).2 (nth l k) (wiN e.ins kind k 0):=rfl
 have hke:k=l.length→zvl (mE2 e) e.ins kind l (gs,f) l.length=zvl (mE2 e) e.ins kind l (gs,f) k:=fun e=>by rw[←e]
 generalize zvl (mE2 e) e.ins kind l (gs,f) k=s at *
 have h1:=h.next hr hn1 (by omega)
 have hrl:=hr.len
 refine szq (jwv ·) ?_
 refine zaa fun K3 hK3=>?_
 refine zan rfl (fun ht=>?_) (fun ht=>?_)
 ·have hlt:k<l.length:=by simp at ht;omega
  have hkey:zk8 prog tWm (wV ⟨kind,(k:Int),0⟩):=zw4 (a:=kind) (b:=(k:Int)) (c:=0) (zh2 (by omega) (by omega)) (zh2 (by omega) (by omega)) (zh2 (by decide) (by decide))
  have hgm:=hm.gt ⟨kind,(k:Int),0⟩
  rw[if_pos (show(⟨kind,(k:Int),0⟩:Wire)∈e.ins from hlw k hlt)]at hgm
  have hwn:=jem (hlw k hlt) s.1
  have hwi:wiN e.ins kind k 0=((2+zqo ⟨kind,(k:Int),0⟩ e.ins:Nat):Int):=rfl
  rw[←hwi]at hgm
  generalize wiN e.ins kind k 0=W at *
  obtain⟨A,eA⟩:∃A,A=zdx (mE2 e) s.1 (nth l k):=⟨_,rfl⟩
  obtain⟨O,eO⟩:∃O,O=orB (mE2 e) A.1 A.2 W:=⟨_,rfl⟩
  have hsv:zu3 (mE2 e) s.1 s.2 (nth l k) W=zdn (mE2 e) O.1 s.2 O.2:=by rw[eO,eA];rfl
  have c1:=zpf e s.1 μ1 (nth l k) h1 ((hll k hlt).pre hr.pre)
  have r1:=zer zg3 h1.g ((hll k hlt).pre hr.pre)
  rw[←eA]at c1 r1
  have l1:=r1.len
  refine zai (hK3 _ _ ?_)
  refine zaa fun K4 hK4=>?_
  refine zag ?_
  refine zaf hp zah hc rfl fun K5 hK5=>?_
  simp -dsimp -implicitDefEqProofs (disch:=first|assumption|omega|(simp only[r_z,zac,zab]<;>omega)|decide) only[r_r,↓reduceIte,Nat.reduceEqDiff,Nat.reduceAdd,D.fix,Int.reduceToNat,Nat.reduceMul,Nat.reduceBNe,Nat.reduceBEq,r_m,bH,bO,zar,za3,bP,List.cons_append,List.nil_append,za4,qae]
  refine hK5 _ _ ?_
  refine zmu zah hp hc mixed rfl [(0,[]),(1,[]),(2,[]),(3,[]),(4,[]),(6,[]),(7,[]),(8,[]),(9,[]),(10,[]),(11,[]),(12,[]),(13,[]),(5,[0,1,2,6,9,13]),(14,[0,1]),(15,[]),(16,[])] [[],[],[],[],[],[3,4],[],[6],[6,7],[6,7,8],[],[],[10,11],[6,7,8,9,10,11,12],[2,3,4,5,6,7,8,9,10,11,12,13],[0,1,2,3,4,5,6,7,8,9,10,11,12,13,14],[0,1,2,3,4,5,6,7,8,9,10,11,12,13,14,15]] 0 (by kernel_rfl) fun K6 hK6=>?_
  refine jf6 hgm ?_
  refine yhi (bH e s.1 μ1) ([bP,.cells [.d (iD s.2)]]) (c1) ?_
  rintro _ _ ⟨μ2,hn2,rfl,rfl⟩
  refine⟨rfl,?_⟩
  have h2:=h1.next r1 hn2 (by omega)
  have c2:=jk7 e A.1 μ2 A.2 W h2 r1.nd (hwn.pre r1.pre)
  have r2:=zw0 zg3 h2.g r1.nd (hwn.pre r1.pre)
  rw[←eO]at c2 r2
  have l2:=r2.len
  refine jf6 hgm ?_
  refine yhi (bH e A.1 μ2) ([bP,.cells [.d (iD s.2)]]) (c2) ?_
  rintro _ _ ⟨μ3,hn3,rfl,rfl⟩
  refine⟨rfl,?_⟩
  have h3:=h2.next r2 hn3 (by omega)
  refine jf6 hgm ?_
  refine yhi (bH e O.1 μ3) ([bP,.cells [.d (iD s.2)]]) (zj3 e O.1 μ3 s.2 O.2 h3 (hr.nd.pre (r1.pre.trans r2.pre)) r2.nd) ?_
  rintro _ _ ⟨μ4,hn4,rfl,rfl⟩
  refine⟨rfl,?_⟩
  refine jf6 hgm ?_
  refine hK6 _ _ (hK4 _ _ ?_)
  refine za1 hp zah hc rfl fun K7 hK7=>?_
  refine jwv ?_
  refine hK7 _ _ ⟨_,_,_,?_,⟨k+1,μ4,⟨by omega,by rw[hsu,hsv];exact hn4⟩,rfl,rfl,rfl⟩,?_⟩
  ·first|omega|(simp only[List.length_cons];omega)|(dsimp only;omega)
  ·refine yf3 [0,1,2,3,4,5,6,7,8,9] ?_
   refine jx2 ?_
   refine ymg ?_;rw[hsu,hsv];rfl
 ·have hkk:k=l.length:=by simp at ht;omega
  refine zau ?_
  try dsimp only[zcg,za5]
  refine⟨frL [],bH e s.1 μ1++[bP,.cells [.d (iD s.2)]],?_,?_⟩
  ·refine yf3 [0,1,2,3,4,5,6,7,8,9] ?_
   refine Rt.end (zaq _) ?_
   exact yme
  refine zno rfl ?_
  show ∃_,_
  rw[hke hkk];exact⟨μ1,hn1,rfl,rfl⟩
section
def eP(p:Pr)(mi:Mp)(out:List Wire)(dr:List Int)(dat:List (List Int)):BE:=⟨p,zh9 p,mi,out,dr,dat⟩
structure PvOk (p:Pr) (mi:Mp):Prop where
 k:PrOk p
 m:InM (zh9 p) mi
 il:(zh9 p).length≤1000
 co:zoe p≤80000
section
variable {p:Pr} {mi:Mp} {out:List Wire} {dr:List Int} {dat:List (List Int)}
theorem PvOk.be(h:PvOk p mi):BEOk (eP p mi out dr dat):=⟨rfl,h.m,h.il,h.k,h.k.rl⟩
end
@[simp] theorem ymh {e:BE} {gs:Gs} {μ:Mp}:(bH e gs μ).length=8:=rfl
def zb6(x:Int):AObj:=.cells [.d (iD x)]
def ziz(l:List Int):AObj:=.cells (avs (l.map iD))
def FiK(p:Pr)(mi:Mp)(out:List Wire)(dr:List Int)(x:AV)(S':zad):Prop:=∃μ,NdM (mP p) (zi7 p p.puts.length).1 μ∧x= .tup [.d (intsD (zfz p)),.d (intsD (ze4 p)),.d (iD (zcs p))]∧S'=bH (eP p mi out dr (zbb p)) (zi7 p p.puts.length).1 μ++[zb6 (zcs p)]
theorem zmb{p:Pr}(h:PrOk p):(zfz p).length=p.takes.length:=(zgc h _ (qao _)).tl
theorem zr5{p:Pr}(h:PrOk p):(ze4 p).length=p.puts.length:=(zhn h _ (qao _)).ql
theorem jlq{p:Pr}:∀k,zi6 p k=zvl (mP p) (zh9 p) 3 (zfz p) ((zl3 p p.puts.length).gs,1) k
 |0=>rfl
 |k+1=>by rw[zi6,zvl,←jlq k];rfl
theorem jlr{p:Pr}:∀k,zi7 p k=zvl (mP p) (zh9 p) 4 (ze4 p) (zi6 p p.takes.length) k
 |0=>rfl
 |k+1=>by rw[zi7,zvl,←jlr k];rfl
theorem zjc{p q:Prop}(hq:q)(h:p=q:=by
 conv=>lhs;simp -dsimp -implicitDefEqProofs (disch:=first|assumption|omega|(simp only[r_z,zac,zab,zbr,zbs]<;>omega)|decide) only[r_r,↓reduceIte,Nat.reduceEqDiff,Nat.reduceAdd,D.fix,Int.reduceToNat,Nat.reduceMul,Nat.reduceBNe,Nat.reduceBEq,r_m,bH,bO,zar,za3,bP,List.cons_append,List.nil_append,eP,zb6,ziz,zdm,zsb,ptS,zco,znh,pqS,nS,qae]):p:=h.mpr hq
theorem jwx(k:List Nat){m:List Nat}{τ τ1:Fr}{H H1:zad}(h:Rt m (fun t=>gcV k (τ t)) (gcH k H) τ1 H1)(a:∀i∈m,k[i]? =some i:=by decide)(b:k.Nodup:=by decide)(c:∀i∈k,i<H.length:=by
 simp[fzH,gcH]):Rt m τ H τ1 H1:=Rt.trans (Rt.gc a b c) h
theorem jwy{m:List Nat}{τ τ':Fr}{H H':zad}(h2:H=H')(h:zgk τ τ':=by
 repeat (first|exact zaq _|refine zak ?_ (by first|rfl|(simp[r_f,zac,zab,zbr,zbs];done)|simp[r_f,zac,zab,zbr,zbs, *]))):Rt m τ H τ' H':=Rt.end h h2
theorem ymi{P:Program}{sm:List Nat}{N:Nat}{τ:Fr}{H:zad}{f:FuncId}{args:List AV}{K0 KK:AV→zad→Prop}{ks:List Nat}(S T:zad)(h:ScS P ks f args S K0)(hK:∀x S',K0 x S'→S'.length=S.length∧KK x (S'++T))(hH:H=S++T:=by
 rfl) (hm:sm.all (okI ks S.length)=true:=by
 first|rfl|(simp[AV.allIs,AV.allI,zas,zal,zam,okI,ltI,zae,zaz,bH,bO,bP,eP,zb6,ziz,ptS,pqS];done)|(intro o ho;simp at ho;done)) (hτ:∀t,(τ t).allI (okI ks S.length)=true:=by
 exact fun t=>zbi (by first|rfl|(simp[AV.allIs,AV.allI,zas,zal,zam,okI,ltI,zae,zaz,bH,bO,bP,eP,zb6,ziz,ptS,pqS];done)|(intro o ho;simp at ho;done)) t) (ha:AV.allIs (ltI S.length) args=true:=by
 first|rfl|(simp[AV.allIs,AV.allI,zas,zal,zam,okI,ltI,zae,zaz,bH,bO,bP,eP,zb6,ziz,ptS,pqS];done)|(intro o ho;simp at ho;done)) (hS:∀o∈S,o.allI (ltI S.length)=true:=by
 first|rfl|(simp[AV.allIs,AV.allI,zas,zal,zam,okI,ltI,zae,zaz,bH,bO,bP,eP,zb6,ziz,ptS,pqS];done)|(intro o ho;simp at ho;done)) (hT:∀o∈T,o.allI (okI ks S.length)=true:=by
 first|rfl|(simp[AV.allIs,AV.allI,zas,zal,zam,okI,ltI,zae,zaz,bH,bO,bP,eP,zb6,ziz,ptS,pqS];done)|(intro o ho;simp at ho;done)):kC P sm N H τ (.d (.val (.func (.func f) #[] #[]))) args true (tg KK):=zk7 h hH hm hτ ha hS hT hK
theorem yf5{p q r:Prop}(e:r)(hq:q)(h:r→p=q:=by
 intro hY
 conv=>lhs;simp -dsimp -implicitDefEqProofs (disch:=first|assumption|omega|(simp only[r_z,zac,zab,zbr,zbs]<;>omega)|decide) only[r_r,↓reduceIte,Nat.reduceEqDiff,Nat.reduceAdd,D.fix,Int.reduceToNat,Nat.reduceMul,Nat.reduceBNe,Nat.reduceBEq,r_w,r_m,bH,bO,zar,za3,bP,List.cons_append,List.nil_append,eP,zb6,ziz,zdm,zsb,ptS,zco,znh,pqS,nS,qae,hY]):p:=(h e).mpr hq
theorem yf6{p q:Prop}(hq:q)(h:p=q:=by
 conv=>lhs;simp -dsimp -implicitDefEqProofs (disch:=first|assumption|omega|(simp only[r_z,zac,zab,zbr,zbs]<;>omega)|decide) only[r_r,↓reduceIte,Nat.reduceEqDiff,Nat.reduceAdd,D.fix,Int.reduceToNat,Nat.reduceMul,Nat.reduceBNe,Nat.reduceBEq,r_m,bH,bO,zar,za3,bP,List.cons_append,List.nil_append,eP,zb6,ziz,zdm,zsb,ptS,zco,znh,pqS,nS,za4,qae]):p:=h.mpr hq
theorem ymj{P:Program}{sm:List Nat}{N:Nat}{τ:Fr}{H:zad}{f:FuncId}{fi ca args:List AV}{K0 KK:AV→zad→Prop}{ks:List Nat}(S T:zad)(h:ScS P ks f (fi++args++ca) S K0)(hK:∀x S',K0 x S'→S'.length=S.length∧KK x (S'++T))(hH:H=S++T:=by
 rfl) (hm:sm.all (okI ks S.length)=true:=by
 first|rfl|(simp[AV.allIs,AV.allI,zas,zal,zam,okI,ltI,zae,zaz,bH,bO,bP,eP,zb6,ziz,ptS,pqS];done)|(intro o ho;simp at ho;done)) (hτ:∀t,(τ t).allI (okI ks S.length)=true:=by
 exact fun t=>zbi (by first|rfl|(simp[AV.allIs,AV.allI,zas,zal,zam,okI,ltI,zae,zaz,bH,bO,bP,eP,zb6,ziz,ptS,pqS];done)|(intro o ho;simp at ho;done)) t) (ha:AV.allIs (ltI S.length) (fi++args++ca)=true:=by
 first|rfl|(simp[AV.allIs,AV.allI,zas,zal,zam,okI,ltI,zae,zaz,bH,bO,bP,eP,zb6,ziz,ptS,pqS];done)|(intro o ho;simp at ho;done)) (hS:∀o∈S,o.allI (ltI S.length)=true:=by
 first|rfl|(simp[AV.allIs,AV.allI,zas,zal,zam,okI,ltI,zae,zaz,bH,bO,bP,eP,zb6,ziz,ptS,pqS];done)|(intro o ho;simp at ho;done)) (hT:∀o∈T,o.allI (okI ks S.length)=true:=by
 first|rfl|(simp[AV.allIs,AV.allI,zas,zal,zam,okI,ltI,zae,zaz,bH,bO,bP,eP,zb6,ziz,ptS,pqS];done)|(intro o ho;simp at ho;done)):kC P sm N H τ (.clo (.func f) fi ca) args true (tg KK):=zow h hH hm hτ ha hS hT hK
theorem yf7{p q:Prop}(hq:q)(h:p=q:=by
 conv=>lhs;simp only[r_g,Nat.reduceAdd,↓reduceIte,Nat.reduceEqDiff,r_m,bH,bO,zar,za3,bP,List.cons_append,List.nil_append,eP,zb6,ziz,zdm,zsb,ptS,zco,znh,pqS,nS]):p:=h.mpr hq
theorem ymk{p:Prop}(h:p:=by
 first|rfl|(simp only[r_g,Nat.reduceAdd,↓reduceIte,Nat.reduceEqDiff,r_m,bH,bO,zar,za3,bP,List.cons_append,List.nil_append,eP,zb6,ziz,zdm,zsb,ptS,zco,znh,pqS,nS];first|done|rfl)):p:=h
theorem jwz(p:Pr)(mi:Mp)(out:List Wire)(dr:List Int)(hv:PvOk p mi)(μ:Mp)(hn0:NdM (mP p) [] μ):ScS prog [0,1,3,4,5,6] 91 [.op 0 0] (bH (eP p mi out dr []) [] μ++[.free]) (FiK p mi out dr):=by
 refine zbg (fn:=f91) (by kernel_rfl) func91 rfl (qaf rfl) fun c hc hp=>?_
 refine zrg ?_
 have hil:=hv.il;have hco:=hv.co;have htl:=hv.k.tl;have hql:=hv.k.ql
 refine szq (zjc ·) ?_
 refine szq (zjc ·) ?_
 refine zaa fun K3 hK3=>?_
 refine szq (zjc ·) ?_
 refine zag ?_
 refine zao hp (fun τ' H' mm=>∃(k:Nat) (μ1:Mp),(k≤p.takes.length∧NdM (mP p) (zc0 p k).gs μ1)∧mm=p.takes.length - k∧H'=bH (eP p mi out dr (zc0 p k).data) (zc0 p k).gs μ1++[bP,zb6 1,ziz (zc0 p k).takes]∧τ'=frL [(1,.op 8 0),(2,.os 1 10 0 k),(3,.d (.val (.slice none 0 0))),(4,.op 9 0),(15,.d (.fs (p.takes.flatMap ptC) p.takes.length)),(16,.d (iD p.takes.length)),(17,.d (iD k))]) (p.takes.length) ?_ ⟨0,μ,⟨qap _,hn0⟩,rfl,rfl,rfl⟩ ?_
 ·refine Rt.trans (Rt.nil 2 1 rfl) ?_
  refine jwx [0,1,2,3,4,5,6,7,9,10,11] ?_
  refine jwy ?_
  refine yf7 ?_;simp[bH,bO,eP,zc0,bP,zb6,ziz,avs,zar,iD]
 rintro τ' H' mm ⟨k,μ1,⟨hk,hn1⟩,rfl,rfl,rfl⟩
 refine szq (zjc ·) ?_
 refine zaa fun K6 hK6=>?_
 refine zan rfl (fun ht=>?_) (fun ht=>?_)
 ·have hlt:k<p.takes.length:=by simp at ht;omega
  have hs:=zgc hv.k k hk
  have hst:=jjp hv.k hlt hs
  have hsu:zc0 p (k+1)=⟨(zbu (fun gs i=>zdn (mP p) gs (nth (zci p (zc0 p k).data (zc0 p k).gs (nth p.takes k).wh).2 0) (inp p 2 k i)) (zci p (zc0 p k).data (zc0 p k).gs (nth p.takes k).wh).1 (nth p.takes k).w).1,(zc0 p k).takes++[nth (zci p (zc0 p k).data (zc0 p k).gs (nth p.takes k).wh).2 0],(zc0 p k).data++[(zbu (fun gs i=>zdn (mP p) gs (nth (zci p (zc0 p k).data (zc0 p k).gs (nth p.takes k).wh).2 0) (inp p 2 k i)) (zci p (zc0 p k).data (zc0 p k).gs (nth p.takes k).wh).1 (nth p.takes k).w).2]⟩:=rfl
  have hcl:=ybb (p:=p) (show k+1≤p.takes.length by omega)
  rw[cTP]at hcl
  generalize zc0 p k=s at *
  have htl2:=hs.tl;have hdl:=hs.dl
  have hln:=hs.len
  have h1:BOk (eP p mi out dr s.data) s.gs μ1:=⟨hn1,hs.gi,hil,by omega⟩
  have hcb:=zvh (eP p mi out dr s.data) hv.be false (nth p.takes k).wh s.gs μ1 h1 (DaOk.mk (by intro e;cases e) (by intro e;cases e) (by intro e;cases e)) (hv.k.tw k hlt).1 (by show s.gs.length+za8 (ctP p) _≤_;omega)
  rw[zz0 hv.be]at hcb
  obtain⟨R,hR⟩:∃R,R=zci p s.data s.gs (nth p.takes k).wh:=⟨_,rfl⟩
  have hR2:zci (eP p mi out dr s.data).p (eP p mi out dr s.data).dat s.gs (nth p.takes k).wh=R:=hR.symm
  rw[hR2]at hcb
  rw[←hR]at hst hsu
  have hRl:=hst.b.len;have hRw:=hst.b.wid
  have hu:NdB (mP p) R.1 (nth R.2 0):=hst.b.nd 0 (by decide)
  have htw:=hv.k.ct.t k (by simpa[ctP]using hlt)
  rw[jui hlt]at htw
  have hz0:(0<(nth p.takes k).w)=True:=by simp;omega
  have hwi:∀i,i<(nth p.takes k).w→(⟨2,(k:Int),(i:Int)⟩:Wire)∈zh9 p:=fun i hi=>in2 hlt hi
  refine zai (hK6 _ _ ?_)
  refine zaa fun K7 hK7=>?_
  refine zag ?_
  refine szq (zjc ·) ?_
  refine zaf hp zah hc rfl fun K9 hK9=>?_
  refine zjc ?_
  refine ymi (bH (eP p mi out dr s.data) s.gs μ1) ([bP,zb6 1,ziz s.takes,zb6 k,.cells (avs (ptS (nth p.takes k)))]) (hcb) ?_
  rintro _ _ ⟨μ2,hn2,rfl,rfl⟩
  refine⟨rfl,?_⟩
  have h2:BOk (eP p mi out dr s.data) R.1 μ2:=⟨hn2,hst.b.gi,hil,by omega⟩
  refine zjc ?_
  refine hK9 _ _ ?_
  refine szq (zjc ·) ?_
  refine zav hp (τ':=frL [(1,.op 8 0),(2,.os 1 12 0 (k+1)),(3,.d (.val (.slice none 0 0))),(4,.op 11 0),(5,.op 10 0),(6,.op 13 0),(7,.op 9 0),(15,.d (.fs (p.takes.flatMap ptC) p.takes.length)),(16,.d (iD p.takes.length)),(17,.d (iD k))]) (H':=bH (eP p mi out dr s.data) R.1 μ2++[bP,zb6 (nth R.2 0),zb6 k,zb6 1,ziz (s.takes++[nth R.2 0]),.cells (avs (ptS (nth p.takes k)))]) ?_ ?_
  ·refine jwx [0,1,2,3,4,5,6,7,8,13,11,9,15,12] ?_
   refine jwy ?_
   refine yf7 ?_;simp[bH,bO,eP,bP,zb6,ziz,avs,zar,iD,ptS]
  refine zmu zah hp hc mixed rfl [(0,[]),(1,[]),(2,[]),(3,[]),(4,[]),(5,[]),(6,[]),(7,[]),(8,[]),(9,[0,1,4]),(10,[]),(11,[0]),(12,[]),(13,[]),(14,[])] [[],[],[1],[1,2],[1,2,3],[],[5],[5,6],[],[5,6,7,8],[5,6,7,8,9],[1,2,3,4,5,6,7,8,9,10],[0,1,2,3,4,5,6,7,8,9,10,11],[0,1,2,3,4,5,6,7,8,9,10,11,12],[0,1,2,3,4,5,6,7,8,9,10,11,12,13]] 2 (by kernel_rfl) fun K11 hK11=>?_
  refine yf5 hz0 ?_
  refine zpl (S:=bH (eP p mi out dr s.data) R.1 μ2++[bP,zb6 (nth R.2 0),zb6 k]) (T:=[zb6 1,ziz (s.takes++[nth R.2 0]),.cells (avs (ptS (nth p.takes k))),.dead,.free]) (jo9 (eP p mi out dr s.data) R.1 μ2 (nth R.2 0) k (nth p.takes k).w h2 hv.m hwi hu (by omega) (by omega) (by omega)) rfl (qaf rfl) (by first|rfl|(simp[AV.allIs,AV.allI,zas,zal,zam,okI,ltI,zae,zaz,bH,bO,bP,eP,zb6,ziz,ptS,pqS];done)|(intro o ho;simp at ho;done)) (fun t=>zbi (by first|rfl|(simp[AV.allIs,AV.allI,zas,zal,zam,okI,ltI,zae,zaz,bH,bO,bP,eP,zb6,ziz,ptS,pqS];done)|(intro o ho;simp at ho;done)) t) (fun t=>zbi (by first|rfl|(simp[AV.allIs,AV.allI,zas,zal,zam,okI,ltI,zae,zaz,bH,bO,bP,eP,zb6,ziz,ptS,pqS];done)|(intro o ho;simp at ho;done)) t) (by first|rfl|(simp[AV.allIs,AV.allI,zas,zal,zam,okI,ltI,zae,zaz,bH,bO,bP,eP,zb6,ziz,ptS,pqS];done)|(intro o ho;simp at ho;done)) (by first|rfl|(simp[AV.allIs,AV.allI,zas,zal,zam,okI,ltI,zae,zaz,bH,bO,bP,eP,zb6,ziz,ptS,pqS];done)|(intro o ho;simp at ho;done)) (by first|rfl|(simp[AV.allIs,AV.allI,zas,zal,zam,okI,ltI,zae,zaz,bH,bO,bP,eP,zb6,ziz,ptS,pqS];done)|(intro o ho;simp at ho;done)) ?_
  rintro _ _ ⟨μ3,hn3,rfl,rfl⟩
  refine⟨rfl,?_⟩
  refine yf5 hz0 ?_
  refine hK11 _ _ (hK7 _ _ ?_)
  refine za1 hp zah hc rfl fun K12 hK12=>?_
  refine zjc ?_
  refine hK12 _ _ ⟨_,_,_,?_,⟨k+1,μ3,⟨by omega,by rw[hsu];exact hn3⟩,rfl,rfl,rfl⟩,?_⟩
  ·first|omega|(simp only[List.length_cons];omega)|(dsimp only;omega)
  ·refine jwx [0,1,2,3,4,5,6,16,8,11,12] ?_
   refine jwy ?_
   refine yf7 ?_;rw[hsu];simp[bH,bO,eP,bP,zb6,ziz,avs,zar,iD,intsD,jen,mE2,mP,wiN,inp]
 ·have hkk:k=p.takes.length:=by simp at ht;omega
  subst hkk
  have hT:=zgc hv.k _ (qao _)
  have htk2:=zmb hv.k
  have hpk2:=zr5 hv.k
  refine zau (hK3 _ _ ?_)
  refine zaa fun K13 hK13=>?_
  refine szq (zjc ·) ?_
  refine zag ?_
  refine zao hp (fun τ' H' mm=>∃(k:Nat) (μ1:Mp),(k≤p.puts.length∧NdM (mP p) (zl3 p k).gs μ1)∧mm=p.puts.length - k∧H'=bH (eP p mi out dr (zbb p)) (zl3 p k).gs μ1++[bP,zb6 1,ziz (zfz p),ziz (zl3 p k).puts]∧τ'=frL [(1,.op 8 0),(2,.os 1 10 0 p.takes.length),(3,.os 1 11 0 k),(4,.op 9 0),(51,.d (.fs (p.puts.flatMap pqC) p.puts.length)),(52,.d (iD p.puts.length)),(53,.d (iD k))]) (p.puts.length) ?_ ⟨0,μ1,⟨qap _,hn1⟩,rfl,rfl,rfl⟩ ?_
  ·refine Rt.trans (Rt.nil 3 1 rfl) ?_
   refine jwx [0,1,2,3,4,5,6,7,8,9,10,11] ?_
   refine jwy ?_
   refine yf7 ?_;simp[bH,bO,eP,zl3,bP,zb6,ziz,avs,zar,iD,zfz,zbb]
  rintro τ' H' mm ⟨k,μ1,⟨hk2,hn4⟩,rfl,rfl,rfl⟩
  refine szq (zjc ·) ?_
  refine zaa fun K16 hK16=>?_
  refine zan rfl (fun ht=>?_) (fun ht=>?_)
  ·have hlt:k<p.puts.length:=by simp at ht;omega
   have hs:=zhn hv.k k hk2
   have hst:=juj hv.k hlt hs
   have hsu:zl3 p (k+1)=⟨(zci p (zbb p) (zl3 p k).gs (nth p.puts k).wh).1,(zl3 p k).puts++[nth (zci p (zbb p) (zl3 p k).gs (nth p.puts k).wh).2 0]⟩:=rfl
   have hcl:=jjs (p:=p) (show k+1≤p.puts.length by omega)
   rw[cQP]at hcl
   generalize zl3 p k=s at *
   have hql2:=hs.ql
   have hln:=hs.len
   have h1:BOk (eP p mi out dr (zbb p)) s.gs μ1:=⟨hn4,hs.gi,hil,by omega⟩
   have hcb:=zvh (eP p mi out dr (zbb p)) hv.be true (nth p.puts k).wh s.gs μ1 h1 (jm4 hv.k hs.pre) (hv.k.qw k hlt).1 (by show s.gs.length+za8 (ctP p) _≤_;omega)
   rw[zz0 hv.be]at hcb
   obtain⟨R,hR⟩:∃R,R=zci p (zbb p) s.gs (nth p.puts k).wh:=⟨_,rfl⟩
   have hR2:zci (eP p mi out dr (zbb p)).p (eP p mi out dr (zbb p)).dat s.gs (nth p.puts k).wh=R:=hR.symm
   rw[hR2]at hcb
   rw[←hR]at hst hsu
   have hRl:=hst.len;have hRw:=hst.wid
   refine zai (hK16 _ _ ?_)
   refine zaa fun K17 hK17=>?_
   refine zag ?_
   refine szq (zjc ·) ?_
   refine za1 hp zah hc rfl fun K19 hK19=>?_
   refine yf6 ?_
   refine ymi (bH (eP p mi out dr (zbb p)) s.gs μ1) ([bP,zb6 1,ziz (zfz p),ziz s.puts,.cells (avs (pqS (nth p.puts k)))]) (hcb) ?_
   rintro _ _ ⟨μ2,hn2,rfl,rfl⟩
   refine⟨rfl,?_⟩
   refine yf6 ?_
   refine hK19 _ _ (hK17 _ _ ?_)
   refine za1 hp zah hc rfl fun K20 hK20=>?_
   refine zjc ?_
   refine hK20 _ _ ⟨_,_,_,?_,⟨k+1,μ2,⟨by omega,by rw[hsu];exact hn2⟩,rfl,rfl,rfl⟩,?_⟩
   ·first|omega|(simp only[List.length_cons];omega)|(dsimp only;omega)
   ·refine jwx [0,1,2,3,4,5,6,7,8,9,10,14] ?_
    refine jwy ?_
    refine yf7 ?_;rw[hsu];simp[bH,bO,eP,bP,zb6,ziz,avs,zar,iD,intsD]
  ·have hkk:k=p.puts.length:=by simp at ht;omega
   subst hkk
   have hQ:=zhn hv.k _ (qao _)
   have hFT:=zqp hv.k _ (qao p.takes.length)
   have hFQ:=zfr hv.k _ (qao p.puts.length)
   have hcq:=jjs (p:=p) (qao p.puts.length)
   have hcr:=jd1 (p:=p) (qap p.regs.length)
   rw[cRP]at hcr
   have hql:=hQ.len;have hftl:=hFT.len;have hfql:=hFQ.len
   have h1:BOk (eP p mi out dr (zbb p)) (zl3 p p.puts.length).gs μ1:=⟨hn4,hQ.gi,hil,by omega⟩
   have c1:=jlp (eP p mi out dr (zbb p)) (zl3 p p.puts.length).gs μ1 3 1 (zfz p) h1 hv.m (by decide) (by decide) ⟨by decide,by have:=@mP2 p;show(1:Int)<((mP p:Nat):Int)+_;omega⟩ (fun k hk=>(hT.tn k (by omega)).pre hQ.pre) (fun k hk=>in3 (by omega)) (by omega) (by omega)
   have e1:zvl (mE2 (eP p mi out dr (zbb p))) (eP p mi out dr (zbb p)).ins 3 (zfz p) ((zl3 p p.puts.length).gs,1) (zfz p).length=zi6 p p.takes.length:=by rw[htk2];exact(jlq _).symm
   rw[e1]at c1
   rw[show intsD (zfz p)= .fs ((zfz p).map iD) p.takes.length by unfold intsD;rw[htk2]]at c1
   have c2:=fun μ2 (h2:BOk (eP p mi out dr (zbb p)) (zi6 p p.takes.length).1 μ2)=>jlp (eP p mi out dr (zbb p)) (zi6 p p.takes.length).1 μ2 4 (zi6 p p.takes.length).2 (ze4 p) h2 hv.m (by decide) (by decide) hFT.nd (fun k hk=>(hQ.qn k (by omega)).pre hFT.pre) (fun k hk=>in4 (by omega)) (by omega) (by omega)
   have e2:zvl (mE2 (eP p mi out dr (zbb p))) (eP p mi out dr (zbb p)).ins 4 (ze4 p) ((zi6 p p.takes.length).1,(zi6 p p.takes.length).2) (ze4 p).length=zi7 p p.puts.length:=by rw[hpk2];exact(jlr _).symm
   rw[e2]at c2
   rw[show intsD (ze4 p)= .fs ((ze4 p).map iD) p.puts.length by unfold intsD;rw[hpk2]]at c2
   have hdq:(zl3 p p.puts.length).puts=ze4 p:=rfl
   rw[hdq]
   refine zau (hK13 _ _ ?_)
   refine zaf hp zah hc rfl fun K21 hK21=>?_
   simp -dsimp -implicitDefEqProofs (disch:=first|assumption|omega|(simp only[r_z,zac,zab,zbr,zbs]<;>omega)|decide) only[r_r,↓reduceIte,Nat.reduceEqDiff,Nat.reduceAdd,D.fix,Int.reduceToNat,Nat.reduceMul,Nat.reduceBNe,Nat.reduceBEq,r_m,bH,bO,zar,za3,bP,List.cons_append,List.nil_append,eP,zb6,ziz,zdm,zsb,ptS,zco,znh,pqS,nS]
   refine hK21 _ _ ?_
   refine zav hp (τ':=frL [(2,.d (.fs ((zfz p).map iD) p.takes.length)),(3,.d (.fs ((ze4 p).map iD) p.puts.length)),(4,.op 9 0),(10,.clo (.func 140) [] [.op 8 0,.op 9 0])]) (H':=bH (eP p mi out dr (zbb p)) (zl3 p p.puts.length).gs μ1++[bP,zb6 1]) ?_ ?_
   ·refine Rt.trans (Rt.fz (id:=10) (l:=((zfz p).map iD)) rfl) ?_
    refine Rt.trans (Rt.slot 2 (zex (zba (by simp[htk2])))) ?_
    refine Rt.trans (Rt.heap (H':=bH (eP p mi out dr (zbb p)) (zl3 p p.puts.length).gs μ1++[bP,zb6 1,.dead,ziz (ze4 p)]) (by simp only[r_g,Nat.reduceAdd,↓reduceIte,Nat.reduceEqDiff,r_m,bH,bO,zar,za3,bP,List.cons_append,List.nil_append,eP,zb6,ziz,zdm,zsb,ptS,zco,znh,pqS,nS];first|done|rfl)) ?_
    refine Rt.trans (Rt.fz (id:=11) (l:=((ze4 p).map iD)) rfl) ?_
    refine Rt.trans (Rt.slot 3 (zex (zba (by simp[hpk2])))) ?_
    refine jwx [0,1,2,3,4,5,6,7,8,9] ?_
    refine jwy ?_
    exact ymk
   refine zaf hp zah hc rfl fun K22 hK22=>?_
   refine zjc ?_
   refine ymj (bH (eP p mi out dr (zbb p)) (zl3 p p.puts.length).gs μ1++[bP,zb6 1]) ([]) (c1) ?_
   rintro _ _ ⟨μ2,hn2,rfl,rfl⟩
   refine⟨rfl,?_⟩
   have h2:BOk (eP p mi out dr (zbb p)) (zi6 p p.takes.length).1 μ2:=⟨hn2,hFT.gi,hil,by omega⟩
   refine zjc ?_
   refine hK22 _ _ ?_
   refine zaf hp zah hc rfl fun K23 hK23=>?_
   refine zjc ?_
   refine ymj (bH (eP p mi out dr (zbb p)) (zi6 p p.takes.length).1 μ2++[bP,zb6 (zi6 p p.takes.length).2]) ([]) (c2 μ2 h2) ?_
   rintro _ _ ⟨μ3,hn3,rfl,rfl⟩
   refine⟨rfl,?_⟩
   refine zjc ?_
   refine hK23 _ _ ?_
   refine zay zah hc mixed rfl (q:=0) (by kernel_rfl) (by kernel_rfl) fun K24 hK24=>?_
   refine zjc ?_
   refine hK24 _ _ ?_
   refine zav hp (τ':=frL [(2,.d (.fs ((zfz p).map iD) p.takes.length)),(3,.d (.fs ((ze4 p).map iD) p.puts.length)),(4,.op 8 0)]) (H':=bH (eP p mi out dr (zbb p)) (zi7 p p.puts.length).1 μ3++[zb6 (zi7 p p.puts.length).2]) ?_ ?_
   ·refine jwx [0,1,2,3,4,5,6,7,9] ?_
    refine jwy ?_
    exact ymk
   refine zaj ?_
   try dsimp only[zcg,za5]
   refine zh3 rfl ?_
   refine zix ?_
   refine zix ?_
   refine jkf ?_
   simp -dsimp -implicitDefEqProofs (disch:=first|assumption|omega|(simp only[r_z,zac,zab,zbr,zbs]<;>omega)|decide) only[r_r,↓reduceIte,Nat.reduceEqDiff,Nat.reduceAdd,D.fix,Int.reduceToNat,Nat.reduceMul,Nat.reduceBNe,Nat.reduceBEq,r_m,bH,bO,zar,za3,bP,List.cons_append,List.nil_append,eP,zb6,ziz,zdm,zsb,ptS,zco,znh,pqS,nS,zeb,zec]
   show ∃_,_
   refine⟨μ3,hn3,?_,rfl⟩
   unfold intsD;rw[htk2,hpk2];rfl
end
end Go.Proofs.YtapjobndmmkanaaGreat
