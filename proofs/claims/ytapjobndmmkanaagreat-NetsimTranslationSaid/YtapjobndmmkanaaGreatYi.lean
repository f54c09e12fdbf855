/- netlist's builder: equality, order, complements of words. -/
import Derived.Test.YtapjobndmmkanaaGreatQr
import Derived.Test.YtapjobndmmkanaaGreatYf
import Derived.Test.YtapjobndmmkanaaGreatPl
set_option linter.unusedVariables false
set_option linter.unusedSimpArgs false
set_option maxRecDepth 100000
set_option maxHeartbeats 4000000
namespace Go.Proofs.YtapjobndmmkanaaGreat
open Go.Proofs.Tryz
open Go Go.RowKit
def NdL(m:Nat)(gs:Gs)(x:List Int)(n:Nat):Prop:=∀k,k<n→NdB m gs (nth x k)
theorem NdL.pre{m:Nat}{gs gs':Gs}{x:List Int}{n:Nat}(h:NdL m gs x n)(hp:gs<+:gs'):NdL m gs' x n:=fun k hk=>(h k hk).pre hp
theorem jk8{p q:Prop}(hq:q)(h:p=q:=by
 conv=>lhs;simp -dsimp -implicitDefEqProofs (disch:=first|assumption|omega|(simp only[r_z,zac,zab]<;>omega)|decide) only[r_r,↓reduceIte,Nat.reduceEqDiff,Nat.reduceAdd,D.fix,Int.reduceToNat,Nat.reduceMul,Nat.reduceBNe,Nat.reduceBEq,r_m,bH,bO,zar,za3]):p:=h.mpr hq
theorem zxs{p q:Prop}(hq:q)(h:p=q:=by
 conv=>lhs;simp -dsimp -implicitDefEqProofs (disch:=first|assumption|omega|(simp only[r_z,zac,zab]<;>omega)|decide) only[r_r,↓reduceIte,Nat.reduceEqDiff,Nat.reduceAdd,D.fix,Int.reduceToNat,Nat.reduceMul,Nat.reduceBNe,Nat.reduceBEq,r_m,bH,bO,zar,za3,qae]):p:=h.mpr hq
theorem jxt{m:List Nat}{τ τ':Fr}{H H':zad}(h2:H=H')(h:zgk τ τ':=by
 repeat (first|exact zaq _|refine zak ?_ (by first|rfl|(simp[r_f,zac,zab];done)|simp[r_f,zac,zab, *]))):Rt m τ H τ' H':=Rt.end h h2
theorem zvf{p q:Prop}(hq:q)(h:p=q:=by
 conv=>lhs;simp -dsimp -implicitDefEqProofs (disch:=first|assumption|omega|(simp only[r_z,zac,zab]<;>omega)|decide) only[r_r,↓reduceIte,Nat.reduceEqDiff,Nat.reduceAdd,D.fix,Int.reduceToNat,Nat.reduceMul,Nat.reduceBNe,Nat.reduceBEq,r_m,bH,bO,zar,za3,za4,qae]):p:=h.mpr hq
theorem jxu{P:Program}{sm:List Nat}{N:Nat}{τ:Fr}{H:zad}{f:FuncId}{args:List AV}{K0 KK:AV→zad→Prop}{ks:List Nat}(S T:zad)(h:ScS P ks f args S K0)(hK:∀x S',K0 x S'→S'.length=S.length∧KK x (S'++T))(hH:H=S++T:=by
 rfl) (hm:sm.all (okI ks S.length)=true:=by
 first|rfl|(simp[AV.allIs,AV.allI,zas,zal,zam,okI,ltI,zae,zaz,bH,bO];done)|(intro o ho;simp at ho;done)) (hτ:∀t,(τ t).allI (okI ks S.length)=true:=by
 exact fun t=>zbi (by first|rfl|(simp[AV.allIs,AV.allI,zas,zal,zam,okI,ltI,zae,zaz,bH,bO];done)|(intro o ho;simp at ho;done)) t) (ha:AV.allIs (ltI S.length) args=true:=by
 first|rfl|(simp[AV.allIs,AV.allI,zas,zal,zam,okI,ltI,zae,zaz,bH,bO];done)|(intro o ho;simp at ho;done)) (hS:∀o∈S,o.allI (ltI S.length)=true:=by
 first|rfl|(simp[AV.allIs,AV.allI,zas,zal,zam,okI,ltI,zae,zaz,bH,bO];done)|(intro o ho;simp at ho;done)) (hT:∀o∈T,o.allI (okI ks S.length)=true:=by
 first|rfl|(simp[AV.allIs,AV.allI,zas,zal,zam,okI,ltI,zae,zaz,bH,bO];done)|(intro o ho;simp at ho;done)):kC P sm N H τ (.d (.val (.func (.func f) #[] #[]))) args true (tg KK):=zk7 h hH hm hτ ha hS hT hK
theorem yg8(k:List Nat){m:List Nat}{τ τ1:Fr}{H H1:zad}(h:Rt m (fun t=>gcV k (τ t)) (gcH k H) τ1 H1)(a:∀i∈m,k[i]? =some i:=by decide)(b:k.Nodup:=by decide)(c:∀i∈k,i<H.length:=by
 simp[fzH,gcH]):Rt m τ H τ1 H1:=Rt.trans (Rt.gc a b c) h
theorem yg9{p q:Prop}(hq:q)(h:p=q:=by
 conv=>lhs;simp only[r_g,Nat.reduceAdd,↓reduceIte,Nat.reduceEqDiff,r_m,bH,bO,zar,za3]):p:=h.mpr hq
theorem yl5{p:Prop}(h:p:=by
 first|rfl|(simp only[r_g,Nat.reduceAdd,↓reduceIte,Nat.reduceEqDiff,r_m,bH,bO,zar,za3];first|done|rfl)):p:=h
theorem jom(e:BE)(gs:Gs)(μ:Mp)(x y:List Int)(h:BOk e gs μ)(hx:NdL (mE2 e) gs x x.length)(hy:NdL (mE2 e) gs y x.length)(hxy:y.length=x.length)(hl:gs.length+3*x.length≤100000):ScS prog [0,1,3,4,5,6,7] 149 [.op 0 0,.d (intsD x),.d (intsD y)] (bH e gs μ) (jog e (zsk (mE2 e) gs x y x.length)):=by
 refine zbg (fn:=f149) (by kernel_rfl) func149 rfl (qaf rfl) fun c hc hp=>?_
 refine zf8 ?_
 refine szq (jk8 ·) ?_
 refine szq (jk8 ·) ?_
 refine zaa fun K3 hK3=>?_
 refine szq (zxs ·) ?_
 refine zag ?_
 refine zao hp (fun τ' H' mm=>∃(k:Nat) (μ1:Mp),(k≤x.length∧NdM (mE2 e) (zsk (mE2 e) gs x y k).1 μ1)∧mm=x.length - k∧H'=bH e (zsk (mE2 e) gs x y k).1 μ1∧τ'=frL [(0,.op 0 0),(2,.d (intsD y)),(7,.d (iD (zsk (mE2 e) gs x y k).2)),(10,.d (intsD x)),(11,.d (iD x.length)),(12,.d (iD k))]) (x.length) ?_ ⟨0,μ,⟨qap _,h.n⟩,rfl,rfl,rfl⟩ ?_
 ·refine jxt ?_
  refine yg9 ?_;rfl
 rintro τ' H' mm ⟨k,μ1,⟨hk,hn1⟩,rfl,rfl,rfl⟩
 have hr:=jm3 zg3 h.g hx hy k hk
 have hsu:zsk (mE2 e) gs x y (k+1)=zdn (mE2 e) (zdx (mE2 e) (zh0 (mE2 e) (zsk (mE2 e) gs x y k).1 (nth x k) (nth y k)).1 (zh0 (mE2 e) (zsk (mE2 e) gs x y k).1 (nth x k) (nth y k)).2).1 (zsk (mE2 e) gs x y k).2 (zdx (mE2 e) (zh0 (mE2 e) (zsk (mE2 e) gs x y k).1 (nth x k) (nth y k)).1 (zh0 (mE2 e) (zsk (mE2 e) gs x y k).1 (nth x k) (nth y k)).2).2:=rfl
 have hke:k=x.length→zsk (mE2 e) gs x y x.length=zsk (mE2 e) gs x y k:=fun e=>by rw[←e]
 generalize zsk (mE2 e) gs x y k=s at *
 refine szq (zxs ·) ?_
 refine zaa fun K6 hK6=>?_
 refine zan rfl (fun ht=>?_) (fun ht=>?_)
 ·have hlt:k<x.length:=by simp at ht;omega
  have hlt2:k<y.length:=by omega
  have h1:=h.next hr hn1 (by omega)
  have hrl:=hr.len
  have ra:=zjr zg3 h1.g ((hx k hlt).pre hr.pre) ((hy k hlt).pre hr.pre)
  have ral:=ra.len
  refine zai (hK6 _ _ ?_)
  refine zaa fun K7 hK7=>?_
  refine zag ?_
  refine szq (zvf ·) ?_
  refine za1 hp zah hc rfl fun K9 hK9=>?_
  refine zvf ?_
  refine jxu (bH e s.1 μ1) ([]) (jei e s.1 μ1 (nth x k) (nth y k) h1 ((hx k hlt).pre hr.pre) ((hy k hlt).pre hr.pre)) ?_
  rintro _ _ ⟨μ2,hn2,rfl,rfl⟩
  refine⟨rfl,?_⟩
  have h2:=h1.next ra hn2 (by omega)
  have rb:=zer zg3 h2.g ra.nd
  have rbl:=rb.len
  refine zvf ?_
  refine jxu (bH e (zh0 (mE2 e) s.1 (nth x k) (nth y k)).1 μ2) ([]) (zpf e _ μ2 _ h2 ra.nd) ?_
  rintro _ _ ⟨μ3,hn3,rfl,rfl⟩
  refine⟨rfl,?_⟩
  have h3:=h2.next rb hn3 (by omega)
  refine zvf ?_
  refine jxu (bH e (zdx (mE2 e) (zh0 (mE2 e) s.1 (nth x k) (nth y k)).1 (zh0 (mE2 e) s.1 (nth x k) (nth y k)).2).1 μ3) ([]) (zj3 e _ μ3 s.2 _ h3 (hr.nd.pre (ra.pre.trans rb.pre)) rb.nd) ?_
  rintro _ _ ⟨μ4,hn4,rfl,rfl⟩
  refine⟨rfl,?_⟩
  refine zvf ?_
  refine hK9 _ _ (hK7 _ _ ?_)
  refine za1 hp zah hc rfl fun K10 hK10=>?_
  refine zxs ?_
  refine hK10 _ _ ⟨_,_,_,?_,⟨k+1,μ4,⟨by omega,by rw[hsu];exact hn4⟩,rfl,rfl,rfl⟩,?_⟩
  ·first|omega|(simp only[List.length_cons];omega)|(dsimp only;omega)
  ·refine yg8 [0,1,2,3,4,5,6,7] ?_
   refine jxt ?_
   refine yg9 ?_;rw[hsu]
 ·have hkk:k=x.length:=by simp at ht;omega
  refine zau (hK3 _ _ ?_)
  refine szq (jk8 ·) ?_
  refine zav hp (τ':=frL [(6,.d (iD s.2))]) (H':=bH e s.1 μ1) ?_ ?_
  ·refine yg8 [0,1,2,3,4,5,6,7] ?_
   refine jxt ?_
   exact yl5
  refine zaj ?_
  refine zap (t:=6) rfl ?_
  show ∃_,_
  rw[hke hkk];exact⟨μ1,hn1,rfl,rfl⟩
theorem jwa(e:BE)(gs:Gs)(μ:Mp)(x y:List Int)(h:BOk e gs μ)(hx:NdL (mE2 e) gs x x.length)(hy:NdL (mE2 e) gs y x.length)(hxy:y.length=x.length)(hl:gs.length+3*x.length≤99999):ScS prog [0,1,3,4,5,6,7] 150 [.op 0 0,.d (intsD x),.d (intsD y)] (bH e gs μ) (jog e (zdx (mE2 e) (ltB (mE2 e) gs x y x.length).1 (ltB (mE2 e) gs x y x.length).2)):=by
 refine zbg (fn:=f150) (by kernel_rfl) func150 rfl (qaf rfl) fun c hc hp=>?_
 refine zf8 ?_
 refine szq (jk8 ·) ?_
 refine szq (jk8 ·) ?_
 refine zaa fun K3 hK3=>?_
 refine szq (zxs ·) ?_
 refine zag ?_
 refine zao hp (fun τ' H' mm=>∃(k:Nat) (μ1:Mp),(k≤x.length∧NdM (mE2 e) (ltB (mE2 e) gs x y k).1 μ1)∧mm=x.length - k∧H'=bH e (ltB (mE2 e) gs x y k).1 μ1∧τ'=frL [(0,.op 0 0),(2,.d (intsD y)),(7,.d (iD (ltB (mE2 e) gs x y k).2)),(10,.d (intsD x)),(11,.d (iD x.length)),(12,.d (iD k))]) (x.length) ?_ ⟨0,μ,⟨qap _,h.n⟩,rfl,rfl,rfl⟩ ?_
 ·refine jxt ?_
  refine yg9 ?_;rfl
 rintro τ' H' mm ⟨k,μ1,⟨hk,hn1⟩,rfl,rfl,rfl⟩
 have hr:=jjn zg3 h.g hx hy k hk
 have hsu:ltB (mE2 e) gs x y (k+1)=jdy (mE2 e) (zdx (mE2 e) (ltB (mE2 e) gs x y k).1 (nth y k)).1 (nth x k) (zdx (mE2 e) (ltB (mE2 e) gs x y k).1 (nth y k)).2 (ltB (mE2 e) gs x y k).2:=rfl
 have hke:k=x.length→ltB (mE2 e) gs x y x.length=ltB (mE2 e) gs x y k:=fun e=>by rw[←e]
 generalize ltB (mE2 e) gs x y k=s at *
 have h1:=h.next hr hn1 (by omega)
 have hrl:=hr.len
 refine szq (zxs ·) ?_
 refine zaa fun K6 hK6=>?_
 refine zan rfl (fun ht=>?_) (fun ht=>?_)
 ·have hlt:k<x.length:=by simp at ht;omega
  have hlt2:k<y.length:=by omega
  have rb:=zer zg3 h1.g ((hy k hlt).pre hr.pre)
  have rbl:=rb.len
  refine zai (hK6 _ _ ?_)
  refine zaa fun K7 hK7=>?_
  refine zag ?_
  refine szq (zvf ·) ?_
  refine za1 hp zah hc rfl fun K9 hK9=>?_
  refine zvf ?_
  refine jxu (bH e s.1 μ1) ([]) (zpf e s.1 μ1 (nth y k) h1 ((hy k hlt).pre hr.pre)) ?_
  rintro _ _ ⟨μ3,hn3,rfl,rfl⟩
  refine⟨rfl,?_⟩
  have h3:=h1.next rb hn3 (by omega)
  refine zvf ?_
  refine jxu (bH e (zdx (mE2 e) s.1 (nth y k)).1 μ3) ([]) (jtd e _ μ3 (nth x k) _ s.2 h3 ((hx k hlt).pre (hr.pre.trans rb.pre)) rb.nd (hr.nd.pre rb.pre)) ?_
  rintro _ _ ⟨μ4,hn4,rfl,rfl⟩
  refine⟨rfl,?_⟩
  refine zvf ?_
  refine hK9 _ _ (hK7 _ _ ?_)
  refine za1 hp zah hc rfl fun K10 hK10=>?_
  refine zxs ?_
  refine hK10 _ _ ⟨_,_,_,?_,⟨k+1,μ4,⟨by omega,by rw[hsu];exact hn4⟩,rfl,rfl,rfl⟩,?_⟩
  ·first|omega|(simp only[List.length_cons];omega)|(dsimp only;omega)
  ·refine yg8 [0,1,2,3,4,5,6,7] ?_
   refine jxt ?_
   refine yg9 ?_;rw[hsu]
 ·have hkk:k=x.length:=by simp at ht;omega
  refine zau (hK3 _ _ ?_)
  refine zaf hp zah hc rfl fun K11 hK11=>?_
  refine zxs ?_
  refine jxu (bH e s.1 μ1) ([]) (zpf e s.1 μ1 s.2 h1 hr.nd) ?_
  rintro _ _ ⟨μ3,hn3,rfl,rfl⟩
  refine⟨rfl,?_⟩
  refine zxs ?_
  refine hK11 _ _ ?_
  refine zav hp (τ':=frL [(6,.d (iD (zdx (mE2 e) s.1 s.2).2))]) (H':=bH e (zdx (mE2 e) s.1 s.2).1 μ3) ?_ ?_
  ·refine yg8 [0,1,2,3,4,5,6,7] ?_
   refine jxt ?_
   exact yl5
  refine zaj ?_
  refine zap (t:=6) rfl ?_
  show ∃_,_
  rw[hke hkk];exact⟨μ3,hn3,rfl,rfl⟩
def jfy(e:BE)(X:zad)(r:Re)(x:AV)(S':zad):Prop:=∃μ,NdM (mE2 e) r.1 μ∧x= .d (iD r.2)∧S'=bH e r.1 μ++X
def bP:AObj:=.cells [.op 0 0]
theorem jk9{p q:Prop}(hq:q)(h:p=q:=by
 conv=>lhs;simp -dsimp -implicitDefEqProofs (disch:=first|assumption|omega|(simp only[r_z,zac,zab]<;>omega)|decide) only[r_r,↓reduceIte,Nat.reduceEqDiff,Nat.reduceAdd,D.fix,Int.reduceToNat,Nat.reduceMul,Nat.reduceBNe,Nat.reduceBEq,r_m,bH,bO,zar,za3,bP,List.cons_append,List.nil_append,qae]):p:=h.mpr hq
theorem yl6{P:Program}{sm:List Nat}{N:Nat}{τ:Fr}{H:zad}{f:FuncId}{args:List AV}{K0 KK:AV→zad→Prop}{ks:List Nat}(S T:zad)(h:ScS P ks f args S K0)(hK:∀x S',K0 x S'→S'.length=S.length∧KK x (S'++T))(hH:H=S++T:=by
 rfl) (hm:sm.all (okI ks S.length)=true:=by
 first|rfl|(simp[AV.allIs,AV.allI,zas,zal,zam,okI,ltI,zae,zaz,bH,bO,bP];done)|(intro o ho;simp at ho;done)) (hτ:∀t,(τ t).allI (okI ks S.length)=true:=by
 exact fun t=>zbi (by first|rfl|(simp[AV.allIs,AV.allI,zas,zal,zam,okI,ltI,zae,zaz,bH,bO,bP];done)|(intro o ho;simp at ho;done)) t) (ha:AV.allIs (ltI S.length) args=true:=by
 first|rfl|(simp[AV.allIs,AV.allI,zas,zal,zam,okI,ltI,zae,zaz,bH,bO,bP];done)|(intro o ho;simp at ho;done)) (hS:∀o∈S,o.allI (ltI S.length)=true:=by
 first|rfl|(simp[AV.allIs,AV.allI,zas,zal,zam,okI,ltI,zae,zaz,bH,bO,bP];done)|(intro o ho;simp at ho;done)) (hT:∀o∈T,o.allI (okI ks S.length)=true:=by
 first|rfl|(simp[AV.allIs,AV.allI,zas,zal,zam,okI,ltI,zae,zaz,bH,bO,bP];done)|(intro o ho;simp at ho;done)):kC P sm N H τ (.d (.val (.func (.func f) #[] #[]))) args true (tg KK):=zk7 h hH hm hτ ha hS hT hK
theorem yha(k:List Nat){m:List Nat}{τ τ1:Fr}{H H1:zad}(h:Rt m (fun t=>gcV k (τ t)) (gcH k H) τ1 H1)(a:∀i∈m,k[i]? =some i:=by decide)(b:k.Nodup:=by decide)(c:∀i∈k,i<H.length:=by
 simp[fzH,gcH]):Rt m τ H τ1 H1:=Rt.trans (Rt.gc a b c) h
theorem yfg{m:List Nat}{τ τ':Fr}{H H':zad}(h2:H=H')(h:zgk τ τ':=by
 repeat (first|exact zaq _|refine zak ?_ (by first|rfl|(simp[r_f,zac,zab];done)|simp[r_f,zac,zab, *]))):Rt m τ H τ' H':=Rt.end h h2
theorem yl7{p:Prop}(h:p:=by
 first|rfl|(simp only[r_g,Nat.reduceAdd,↓reduceIte,Nat.reduceEqDiff,r_m,bH,bO,zar,za3,bP,List.cons_append,List.nil_append];first|done|rfl)):p:=h
theorem jon(e:BE)(gs:Gs)(μ:Mp)(i x:Int)(h:BOk e gs μ)(hx:NdB (mE2 e) gs x):ScS prog [0,1,3,4,5,6,7,8] 181 [.d (iD i),.d (iD x),.op 8 0] (bH e gs μ++[bP]) (jfy e [bP] (zdx (mE2 e) gs x)):=by
 refine zbg (fn:=f181) (by kernel_rfl) func181 rfl (qaf rfl) fun c hc hp=>?_
 refine zf8 ?_
 unfold bH bP
 refine zaf hp zah hc rfl fun K1 hK1=>?_
 simp -dsimp -implicitDefEqProofs (disch:=first|assumption|omega|(simp only[r_z,zac,zab]<;>omega)|decide) only[r_r,↓reduceIte,Nat.reduceEqDiff,Nat.reduceAdd,D.fix,Int.reduceToNat,Nat.reduceMul,Nat.reduceBNe,Nat.reduceBEq,r_m,bH,bO,zar,za3,bP,List.cons_append,List.nil_append]
 refine hK1 _ _ ?_
 refine zaf hp zah hc rfl fun K2 hK2=>?_
 refine jk9 ?_
 refine yl6 (bH e gs μ) ([bP]) (zpf e gs μ x h hx) ?_
 rintro _ _ ⟨μ1,hn1,rfl,rfl⟩
 refine⟨rfl,?_⟩
 refine jk9 ?_
 refine hK2 _ _ ?_
 refine zav hp (τ':=frL [(5,.d (iD (zdx (mE2 e) gs x).2))]) (H':=bH e (zdx (mE2 e) gs x).1 μ1++[bP]) ?_ ?_
 ·refine yha [0,1,2,3,4,5,6,7,8] ?_
  refine yfg ?_
  exact yl7
 refine zaj ?_
 refine zap (t:=5) rfl ?_
 show ∃_,_
 exact⟨μ1,hn1,rfl,rfl⟩
def zhv(m:Nat)(gs:Gs)(x:List Int)(k:Nat):Gs × List Int:=zbu (fun gs i=>zdx m gs (nth x i)) gs k
theorem jla{m:Nat}{gs:Gs}{x:List Int}{k:Nat}:zhv m gs x (k+1)=((zdx m (zhv m gs x k).1 (nth x k)).1,(zhv m gs x k).2++[(zdx m (zhv m gs x k).1 (nth x k)).2]):=rfl
theorem jlb{m:Nat}{gs:Gs}{x:List Int}{n k:Nat}(h2:2≤m)(h:GI m gs)(hx:NdL m gs x n)(hk:k≤n):Bs m (1*k) k gs (zhv m gs x k):=zc3 h fun j hj gs' hp hg=>zer h2 hg ((hx j (by omega)).pre hp)
def joo(e:BE)(X:zad)(r:Gs × List Int)(x:AV)(S':zad):Prop:=∃μ,NdM (mE2 e) r.1 μ∧x= .d (intsD r.2)∧S'=bH e r.1 μ++X
theorem yfh{p q:Prop}(hq:q)(h:p=q:=by
 conv=>lhs;simp -dsimp -implicitDefEqProofs (disch:=first|assumption|omega|(simp only[r_z,zac,zab]<;>omega)|decide) only[r_r,↓reduceIte,Nat.reduceEqDiff,Nat.reduceAdd,D.fix,Int.reduceToNat,Nat.reduceMul,Nat.reduceBNe,Nat.reduceBEq,r_m,bH,bO,zar,za3,zcu,List.cons_append,List.nil_append,bP]):p:=h.mpr hq
theorem jfz{p q:Prop}(hq:q)(h:p=q:=by
 conv=>lhs;simp -dsimp -implicitDefEqProofs (disch:=first|assumption|omega|(simp only[r_z,zac,zab]<;>omega)|decide) only[r_r,↓reduceIte,Nat.reduceEqDiff,Nat.reduceAdd,D.fix,Int.reduceToNat,Nat.reduceMul,Nat.reduceBNe,Nat.reduceBEq,r_m,bH,bO,zar,za3,zcu,List.cons_append,List.nil_append,bP,qae]):p:=h.mpr hq
theorem yl8{p q:Prop}(hq:q)(h:p=q:=by
 conv=>lhs;simp only[r_g,Nat.reduceAdd,↓reduceIte,Nat.reduceEqDiff,r_m,bH,bO,zar,za3,zcu,List.cons_append,List.nil_append,bP]):p:=h.mpr hq
theorem jlc(e:BE)(gs:Gs)(μ:Mp)(x:List Int)(h:BOk e gs μ)(hx:NdL (mE2 e) gs x x.length)(hl:gs.length+x.length≤100000)(hxl:x.length≤1000):ScS prog [0,1,3,4,5,6,7,8] 138 [.d (intsD x),.clo (.func 181) [] [.op 8 0]] (bH e gs μ++[bP]) (joo e [bP] (zhv (mE2 e) gs x x.length)):=by
 refine zbg (fn:=f138) (by kernel_rfl) func138 rfl (qaf rfl) fun c hc hp=>?_
 refine zdq ?_
 unfold bH bP
 refine szq (yfh ·) ?_
 refine szq (jfz ·) ?_
 refine zaa fun K3 hK3=>?_
 refine szq (jfz ·) ?_
 refine zag ?_
 refine zao hp (fun τ' H' mm=>∃(k:Nat) (μ1:Mp),(k≤x.length∧NdM (mE2 e) (zhv (mE2 e) gs x k).1 μ1)∧mm=x.length - k∧H'=bH e (zhv (mE2 e) gs x k).1 μ1++[bP,zcu (zhv (mE2 e) gs x k).2 x.length]∧τ'=frL [(1,.clo (.func 181) [] [.op 8 0]),(5,.os 1 9 0 x.length),(11,.d (intsD x)),(12,.d (iD x.length)),(13,.d (iD k))]) (x.length) ?_ ⟨0,μ,⟨qap _,h.n⟩,rfl,rfl,rfl⟩ ?_
 ·refine yfg ?_
  refine yl8 ?_;simp[zbu,zcu,bH,bO,zar,iD,avs,bP,zhv]
 rintro τ' H' mm ⟨k,μ1,⟨hk,hn1⟩,rfl,rfl,rfl⟩
 have hb:=jlb zg3 h.g hx hk
 have hsu:=@jla (mE2 e) gs x k
 have hke:k=x.length→zhv (mE2 e) gs x x.length=zhv (mE2 e) gs x k:=fun e=>by rw[←e]
 generalize zhv (mE2 e) gs x k=s at *
 have hw:=hb.wid
 have hbl:=hb.len
 have h1:BOk e s.1 μ1:=⟨hn1,hb.gi,h.i,by have:=h.l;omega⟩
 refine szq (jfz ·) ?_
 refine zaa fun K6 hK6=>?_
 refine zan rfl (fun ht=>?_) (fun ht=>?_)
 ·have hlt:k<x.length:=by simp at ht;omega
  have hst:=zgy hw hlt (zdx (mE2 e) s.1 (nth x k)).2
  refine zai (hK6 _ _ ?_)
  refine zaa fun K7 hK7=>?_
  refine zag ?_
  refine zaf hp zah hc rfl fun K8 hK8=>?_
  simp -dsimp -implicitDefEqProofs (disch:=first|assumption|omega|(simp only[r_z,zac,zab]<;>omega)|decide) only[r_r,↓reduceIte,Nat.reduceEqDiff,Nat.reduceAdd,D.fix,Int.reduceToNat,Nat.reduceMul,Nat.reduceBNe,Nat.reduceBEq,r_m,bH,bO,zar,za3,zcu,List.cons_append,List.nil_append,bP,za4,qae]
  refine hK8 _ _ ?_
  refine za1 hp zah hc rfl fun K9 hK9=>?_
  refine jfz ?_
  refine zow (S:=bH e s.1 μ1++[bP]) (T:=[zcu s.2 x.length]) (jon e s.1 μ1 k (nth x k) h1 ((hx k hlt).pre hb.pre)) rfl (by first|rfl|(simp[AV.allIs,AV.allI,zas,zal,zam,okI,ltI,zae,zaz,bH,bO,zcu,bP];done)|(intro o ho;simp at ho;done)) (fun t=>zbi (by first|rfl|(simp[AV.allIs,AV.allI,zas,zal,zam,okI,ltI,zae,zaz,bH,bO,zcu,bP];done)|(intro o ho;simp at ho;done)) t) (by first|rfl|(simp[AV.allIs,AV.allI,zas,zal,zam,okI,ltI,zae,zaz,bH,bO,zcu,bP];done)|(intro o ho;simp at ho;done)) (by first|rfl|(simp[AV.allIs,AV.allI,zas,zal,zam,okI,ltI,zae,zaz,bH,bO,zcu,bP];done)|(intro o ho;simp at ho;done)) (by first|rfl|(simp[AV.allIs,AV.allI,zas,zal,zam,okI,ltI,zae,zaz,bH,bO,zcu,bP];done)|(intro o ho;simp at ho;done)) ?_
  rintro _ _ ⟨μ2,hn2,rfl,rfl⟩
  refine⟨rfl,?_⟩
  refine jfz ?_
  refine hK9 _ _ (hK7 _ _ ?_)
  refine za1 hp zah hc rfl fun K10 hK10=>?_
  refine jfz ?_
  refine hK10 _ _ ⟨_,_,_,?_,⟨k+1,μ2,⟨by omega,by rw[hsu];exact hn2⟩,rfl,rfl,rfl⟩,?_⟩
  ·first|omega|(simp only[List.length_cons];omega)|(dsimp only;omega)
  ·refine yha [0,1,2,3,4,5,6,7,8,9] ?_
   refine yfg ?_
   refine yl8 ?_;rw[hsu];dsimp only;rw[←hst];simp[bH,bO,zar,avs,bP,zhv]
 ·have hkk:k=x.length:=by simp at ht;omega
  have hz:s.2++List.replicate (x.length - s.2.length) (0:Int)=s.2:=by rw[hw,hkk,Nat.sub_self];simp
  rw[hz]
  refine zau (hK3 _ _ ?_)
  refine szq (yfh ·) ?_
  refine zav hp (τ':=frL [(4,.d (.fs (s.2.map iD) x.length))]) (H':=bH e s.1 μ1++[bP]) ?_ ?_
  ·refine Rt.trans (Rt.fz (id:=9) (l:=(s.2.map iD)) rfl) ?_
   refine Rt.trans (Rt.slot 4 (zex (zba (by simp[hw,hkk])))) ?_
   refine yha [0,1,2,3,4,5,6,7,8] ?_
   refine yfg ?_
   first|rfl|(simp only[r_g,Nat.reduceAdd,↓reduceIte,Nat.reduceEqDiff,r_m,bH,bO,zar,za3,zcu,List.cons_append,List.nil_append,bP];first|done|rfl)
  refine zaj ?_
  refine zap (t:=4) rfl ?_
  show ∃_,_
  rw[hke hkk];exact⟨μ1,hn1,by show AV.d (.fs (s.2.map iD) x.length)= .d (.fs (s.2.map iD) s.2.length);rw[hw,hkk],rfl⟩
theorem jej(e:BE)(gs:Gs)(μ:Mp)(x:List Int)(h:BOk e gs μ)(hx:NdL (mE2 e) gs x x.length)(hl:gs.length+x.length≤100000)(hxl:x.length≤1000):ScS prog [0,1,3,4,5,6,7] 147 [.op 0 0,.d (intsD x)] (bH e gs μ) (ye0 e (zhv (mE2 e) gs x x.length)):=by
 refine zbg (fn:=f147) (by kernel_rfl) func147 rfl (qaf rfl) fun c hc hp=>?_
 refine zdq ?_
 refine szq (jk9 ·) ?_
 refine zaf hp zah hc rfl fun K2 hK2=>?_
 refine jk9 ?_
 refine yl6 (bH e gs μ++[bP]) ([]) (jlc e gs μ x h hx hl hxl) ?_
 rintro _ _ ⟨μ1,hn1,rfl,rfl⟩
 refine⟨rfl,?_⟩
 refine jk9 ?_
 refine hK2 _ _ ?_
 refine zav hp (τ':=frL [(4,.d (intsD (zhv (mE2 e) gs x x.length).2))]) (H':=bH e (zhv (mE2 e) gs x x.length).1 μ1) ?_ ?_
 ·refine yha [0,1,2,3,4,5,6,7] ?_
  refine yfg ?_
  exact yl7
 refine zaj ?_
 refine zap (t:=4) rfl ?_
 show ∃_,_
 exact⟨μ1,hn1,rfl,rfl⟩
def yfi(m:Nat)(x y:List Int)(k:Nat)(s:Sm):Sm:=
 let a:=zh0 m s.gs (nth x k) (nth y k)
 let b:=zh0 m a.1 a.2 s.c
 if k+1<x.length then(let d:=jdy m b.1 (nth x k) (nth y k) s.c;⟨d.1,d.2,s.l++[b.2]⟩)else⟨b.1,s.c,s.l++[b.2]⟩
theorem joq{m:Nat}{gs:Gs}{x y:List Int}{c:Int}{k:Nat}:zhm m gs x y c (k+1)=yfi m x y k (zhm m gs x y c k):=rfl
def yfj(m:Nat)(x y:List Int)(k:Nat)(s:Sm):Int:=(zh0 m (zh0 m s.gs (nth x k) (nth y k)).1 (zh0 m s.gs (nth x k) (nth y k)).2 s.c).2
theorem yfk{m:Nat}{x y:List Int}{k:Nat}{s:Sm}:(yfi m x y k s).l=s.l++[yfj m x y k s]:=by
 unfold yfi yfj;dsimp only;split<;>rfl
def smX(x y:List Int)(q:Int):zad:=[bP,.cells [.d (intsD x)],.cells [.d (intsD y)],.cells [.d (iD q)]]
def SmK(e:BE)(x y:List Int)(r:Sm)(v:Int)(z:AV)(S':zad):Prop:=∃μ,NdM (mE2 e) r.gs μ∧z= .d (iD v)∧S'=bH e r.gs μ++smX x y r.c
theorem jwc{p q:Prop}(hq:q)(h:p=q:=by
 conv=>lhs;simp -dsimp -implicitDefEqProofs (disch:=first|assumption|omega|(simp only[r_z,zac,zab]<;>omega)|decide) only[r_r,↓reduceIte,Nat.reduceEqDiff,Nat.reduceAdd,D.fix,Int.reduceToNat,Nat.reduceMul,Nat.reduceBNe,Nat.reduceBEq,r_m,bH,bO,zar,za3,bP,smX,List.cons_append,List.nil_append]):p:=h.mpr hq
theorem jld{p q:Prop}(hq:q)(h:p=q:=by
 conv=>lhs;simp -dsimp -implicitDefEqProofs (disch:=first|assumption|omega|(simp only[r_z,zac,zab]<;>omega)|decide) only[r_r,↓reduceIte,Nat.reduceEqDiff,Nat.reduceAdd,D.fix,Int.reduceToNat,Nat.reduceMul,Nat.reduceBNe,Nat.reduceBEq,r_w,r_m,bH,bO,zar,za3,bP,smX,List.cons_append,List.nil_append,za4,qae]):p:=h.mpr hq
theorem yjo{P:Program}{sm:List Nat}{N:Nat}{τ0 τ:Fr}{H:zad}{f:FuncId}{args:List AV}{K0 KK:AV→zad→Prop}{ks:List Nat}(S T:zad)(h:ScS P ks f args S K0)(hK:∀x S',K0 x S'→S'.length=S.length∧KK x (S'++T))(hH:H=S++T:=by
 rfl) (hN:S.length≤N:=by
 exact qaf rfl) (hm:sm.all (okI ks S.length)=true:=by
 first|rfl|(simp[AV.allIs,AV.allI,zas,zal,zam,okI,ltI,zae,zaz,bH,bO,bP,smX];done)|(intro o ho;simp at ho;done)) (hτ:∀t,(τ t).allI (okI ks S.length)=true:=by
 exact fun t=>zbi (by first|rfl|(simp[AV.allIs,AV.allI,zas,zal,zam,okI,ltI,zae,zaz,bH,bO,bP,smX];done)|(intro o ho;simp at ho;done)) t) (h0:∀t,(τ0 t).allI (okI ks S.length)=true:=by
 exact fun t=>zbi (by first|rfl|(simp[AV.allIs,AV.allI,zas,zal,zam,okI,ltI,zae,zaz,bH,bO,bP,smX];done)|(intro o ho;simp at ho;done)) t) (ha:AV.allIs (ltI S.length) args=true:=by
 first|rfl|(simp[AV.allIs,AV.allI,zas,zal,zam,okI,ltI,zae,zaz,bH,bO,bP,smX];done)|(intro o ho;simp at ho;done)) (hS:∀o∈S,o.allI (ltI S.length)=true:=by
 first|rfl|(simp[AV.allIs,AV.allI,zas,zal,zam,okI,ltI,zae,zaz,bH,bO,bP,smX];done)|(intro o ho;simp at ho;done)) (hT:∀o∈T,o.allI (okI ks S.length)=true:=by
 first|rfl|(simp[AV.allIs,AV.allI,zas,zal,zam,okI,ltI,zae,zaz,bH,bO,bP,smX];done)|(intro o ho;simp at ho;done)):kE P sm N τ0 τ H (.d (.val (.func (.func f) #[] #[]))) args (tg KK):=zpl h hH hN hm hτ h0 ha hS hT hK
theorem jor{p q:Prop}(hq:q)(h:p=q:=by
 conv=>lhs;simp -dsimp -implicitDefEqProofs (disch:=first|assumption|omega|(simp only[r_z,zac,zab]<;>omega)|decide) only[r_r,↓reduceIte,Nat.reduceEqDiff,Nat.reduceAdd,D.fix,Int.reduceToNat,Nat.reduceMul,Nat.reduceBNe,Nat.reduceBEq,r_m,bH,bO,zar,za3,bP,smX,List.cons_append,List.nil_append,qae]):p:=h.mpr hq
theorem yfl(k:List Nat){m:List Nat}{τ τ1:Fr}{H H1:zad}(h:Rt m (fun t=>gcV k (τ t)) (gcH k H) τ1 H1)(a:∀i∈m,k[i]? =some i:=by decide)(b:k.Nodup:=by decide)(c:∀i∈k,i<H.length:=by
 simp[fzH,gcH]):Rt m τ H τ1 H1:=Rt.trans (Rt.gc a b c) h
theorem jxv{m:List Nat}{τ τ':Fr}{H H':zad}(h2:H=H')(h:zgk τ τ':=by
 repeat (first|exact zaq _|refine zak ?_ (by first|rfl|(simp[r_f,zac,zab];done)|simp[r_f,zac,zab, *]))):Rt m τ H τ' H':=Rt.end h h2
theorem yjp{p:Prop}(h:p:=by
 first|rfl|(simp only[r_g,Nat.reduceAdd,↓reduceIte,Nat.reduceEqDiff,r_m,bH,bO,zar,za3,bP,smX,List.cons_append,List.nil_append];first|done|rfl)):p:=h
theorem jwd(e:BE)(μ:Mp)(x y:List Int)(k:Nat)(s:Sm)(h:BOk e s.gs μ)(hk:k<x.length)(hky:k<y.length)(hx:NdB (mE2 e) s.gs (nth x k))(hy:NdB (mE2 e) s.gs (nth y k))(hq:NdB (mE2 e) s.gs s.c)(hl:s.gs.length+3≤100000)(hxl:x.length≤1000):ScS prog [0,1,3,4,5,6,7,8,9,10,11] 182 [.d (iD k),.d (iD (nth x k)),.op 8 0,.op 10 0,.op 11 0,.op 9 0] (bH e s.gs μ++smX x y s.c) (SmK e x y (yfi (mE2 e) x y k s) (yfj (mE2 e) x y k s)):=by
 refine zbg (fn:=f182) (by kernel_rfl) func182 rfl (qaf rfl) fun c hc hp=>?_
 refine jv3 ?_
 unfold bH smX bP
 obtain⟨A,eA⟩:∃A,A=zh0 (mE2 e) s.gs (nth x k) (nth y k):=⟨_,rfl⟩
 obtain⟨B,eB⟩:∃B,B=zh0 (mE2 e) A.1 A.2 s.c:=⟨_,rfl⟩
 obtain⟨M,eM⟩:∃M,M=jdy (mE2 e) B.1 (nth x k) (nth y k) s.c:=⟨_,rfl⟩
 have hR:yfi (mE2 e) x y k s=if k+1<x.length then⟨M.1,M.2,s.l++[B.2]⟩else⟨B.1,s.c,s.l++[B.2]⟩:=by rw[eM,eB,eA];rfl
 have hV:yfj (mE2 e) x y k s=B.2:=by rw[eB,eA];rfl
 have c1:=jei e s.gs μ (nth x k) (nth y k) h hx hy
 have r1:=zjr zg3 h.g hx hy
 rw[←eA]at c1 r1
 have l1:=r1.len
 refine szq (jwc ·) ?_
 refine zbc zah hp hc mixed rfl [(0,[]),(1,[]),(2,[]),(3,[]),(4,[]),(5,[]),(6,[]),(8,[]),(7,[0,8]),(9,[]),(10,[])] [[],[],[],[],[],[3,4],[3,4,5],[1,2,3,4,5,6],[],[0,1,2,3,4,5,6,7,8],[0,1,2,3,4,5,6,7,8,9]] 0 (by kernel_rfl) fun K2 hK2=>?_
 refine jld ?_
 refine yjo (bH e s.gs μ) (smX x y s.c) (c1) ?_
 rintro _ _ ⟨μ1,hn1,rfl,rfl⟩
 refine⟨rfl,?_⟩
 have h1:=h.next r1 hn1 (by omega)
 have c2:=jei e A.1 μ1 A.2 s.c h1 r1.nd (hq.pre r1.pre)
 have r2:=zjr zg3 h1.g r1.nd (hq.pre r1.pre)
 rw[←eB]at c2 r2
 have l2:=r2.len
 refine jld ?_
 refine yjo (bH e A.1 μ1) (smX x y s.c) (c2) ?_
 rintro _ _ ⟨μ2,hn2,rfl,rfl⟩
 refine⟨rfl,?_⟩
 have h2:=h1.next r2 hn2 (by omega)
 have hpp:=r1.pre.trans r2.pre
 refine jld ?_
 refine hK2 _ _ ?_
 refine zaa fun K3 hK3=>?_
 refine szq (jor ·) ?_
 refine zan rfl (fun ht=>?_) (fun ht=>?_)
 ·have hlt:k+1<x.length:=by simp at ht;omega
  have c3:=jtd e B.1 μ2 (nth x k) (nth y k) s.c h2 (hx.pre hpp) (hy.pre hpp) (hq.pre hpp)
  rw[←eM]at c3
  refine zmu zah hp hc mixed rfl [(0,[]),(1,[]),(2,[]),(3,[]),(4,[]),(5,[]),(6,[]),(7,[]),(8,[])] [[],[],[],[],[2,3],[2,3,4],[],[0,1,2,3,4,5,6],[0,1,2,3,4,5,6,7]] 0 (by kernel_rfl) fun K5 hK5=>?_
  refine jld ?_
  refine yjo (bH e B.1 μ2) (smX x y s.c) (c3) ?_
  rintro _ _ ⟨μ3,hn3,rfl,rfl⟩
  refine⟨rfl,?_⟩
  refine jld ?_
  refine hK5 _ _ (hK3 _ _ ?_)
  refine szq (jwc ·) ?_
  refine zav hp (τ':=frL [(8,.d (iD B.2))]) (H':=bH e M.1 μ3++smX x y M.2) ?_ ?_
  ·refine yfl [0,1,2,3,4,5,6,7,8,9,10,11] ?_
   refine jxv ?_
   exact yjp
  refine zaj ?_
  refine zap (t:=8) rfl ?_
  show ∃_,_
  rw[hR,hV,if_pos hlt];exact⟨μ3,hn3,rfl,rfl⟩
 ·have hlt:¬k+1<x.length:=by simp at ht;omega
  refine zai (hK3 _ _ ?_)
  refine szq (jwc ·) ?_
  refine zav hp (τ':=frL [(8,.d (iD B.2))]) (H':=bH e B.1 μ2++smX x y s.c) ?_ ?_
  ·refine yfl [0,1,2,3,4,5,6,7,8,9,10,11] ?_
   refine jxv ?_
   exact yjp
  refine zaj ?_
  refine zap (t:=8) rfl ?_
  show ∃_,_
  rw[hR,hV,if_neg hlt];exact⟨μ2,hn2,rfl,rfl⟩
theorem yjq{m:Nat}{gs:Gs}{x y:List Int}{c:Int}{n k:Nat}(h2:2≤m)(h:GI m gs)(hn:n=x.length)(hx:NdL m gs x n)(hy:NdL m gs y n)(hc:NdB m gs c)(hk:k≤n):Ss m (3*k) k gs (zhm m gs x y c k):=by
 subst hn;exact zw1 h2 h hx hy hc k hk
def SmX(e:BE)(x y:List Int)(r:Sm)(z:AV)(S':zad):Prop:=∃μ,NdM (mE2 e) r.gs μ∧z= .d (intsD r.l)∧S'=bH e r.gs μ++smX x y r.c
theorem yfm{p q:Prop}(hq:q)(h:p=q:=by
 conv=>lhs;simp -dsimp -implicitDefEqProofs (disch:=first|assumption|omega|(simp only[r_z,zac,zab]<;>omega)|decide) only[r_r,↓reduceIte,Nat.reduceEqDiff,Nat.reduceAdd,D.fix,Int.reduceToNat,Nat.reduceMul,Nat.reduceBNe,Nat.reduceBEq,r_m,bH,bO,zar,za3,zcu,List.cons_append,List.nil_append,bP,smX]):p:=h.mpr hq
theorem jf0{p q:Prop}(hq:q)(h:p=q:=by
 conv=>lhs;simp -dsimp -implicitDefEqProofs (disch:=first|assumption|omega|(simp only[r_z,zac,zab]<;>omega)|decide) only[r_r,↓reduceIte,Nat.reduceEqDiff,Nat.reduceAdd,D.fix,Int.reduceToNat,Nat.reduceMul,Nat.reduceBNe,Nat.reduceBEq,r_m,bH,bO,zar,za3,zcu,List.cons_append,List.nil_append,bP,smX,qae]):p:=h.mpr hq
theorem yl9{p q:Prop}(hq:q)(h:p=q:=by
 conv=>lhs;simp only[r_g,Nat.reduceAdd,↓reduceIte,Nat.reduceEqDiff,r_m,bH,bO,zar,za3,zcu,List.cons_append,List.nil_append,bP,smX]):p:=h.mpr hq
theorem jos(e:BE)(gs:Gs)(μ:Mp)(x y:List Int)(q:Int)(h:BOk e gs μ)(hx:NdL (mE2 e) gs x x.length)(hy:NdL (mE2 e) gs y x.length)(hxy:y.length=x.length)(hq:NdB (mE2 e) gs q)(hl:gs.length+3*x.length≤99990)(hxl:x.length≤1000):ScS prog [0,1,3,4,5,6,7,8,9,10,11] 138 [.d (intsD x),.clo (.func 182) [] [.op 8 0,.op 10 0,.op 11 0,.op 9 0]] (bH e gs μ++smX x y q) (SmX e x y (zhm (mE2 e) gs x y q x.length)):=by
 refine zbg (fn:=f138) (by kernel_rfl) func138 rfl (qaf rfl) fun c hc hp=>?_
 refine zdq ?_
 unfold bH smX bP
 refine szq (yfm ·) ?_
 refine szq (jf0 ·) ?_
 refine zaa fun K3 hK3=>?_
 refine szq (jf0 ·) ?_
 refine zag ?_
 refine zao hp (fun τ' H' mm=>∃(k:Nat) (μ1:Mp),(k≤x.length∧NdM (mE2 e) (zhm (mE2 e) gs x y q k).gs μ1)∧mm=x.length - k∧H'=bH e (zhm (mE2 e) gs x y q k).gs μ1++[bP,.cells [.d (intsD x)],.cells [.d (intsD y)],.cells [.d (iD (zhm (mE2 e) gs x y q k).c)],zcu (zhm (mE2 e) gs x y q k).l x.length]∧τ'=frL [(1,.clo (.func 182) [] [.op 8 0,.op 10 0,.op 11 0,.op 9 0]),(5,.os 1 12 0 x.length),(11,.d (intsD x)),(12,.d (iD x.length)),(13,.d (iD k))]) (x.length) ?_ ⟨0,μ,⟨qap _,h.n⟩,rfl,rfl,rfl⟩ ?_
 ·refine jxv ?_
  refine yl9 ?_;simp[zhm,zcu,bH,bO,zar,iD,avs,smX,bP]
 rintro τ' H' mm ⟨k,μ1,⟨hk,hn1⟩,rfl,rfl,rfl⟩
 have hb:=yjq zg3 h.g rfl hx hy hq hk
 have hsu:=@joq (mE2 e) gs x y q k
 have hke:k=x.length→zhm (mE2 e) gs x y q x.length=zhm (mE2 e) gs x y q k:=fun e=>by rw[←e]
 generalize zhm (mE2 e) gs x y q k=s at *
 have hw:s.l.length=k:=hb.bs.wid
 have hbl:s.gs.length≤gs.length+3*k:=hb.bs.len
 have h1:BOk e s.gs μ1:=⟨hn1,hb.bs.gi,h.i,by have:=h.l;omega⟩
 refine szq (jf0 ·) ?_
 refine zaa fun K6 hK6=>?_
 refine zan rfl (fun ht=>?_) (fun ht=>?_)
 ·have hlt:k<x.length:=by simp at ht;omega
  have hst:=zgy hw hlt (yfj (mE2 e) x y k s)
  have hR:=@yfk (mE2 e) x y k s
  refine zai (hK6 _ _ ?_)
  refine zaa fun K7 hK7=>?_
  refine zag ?_
  refine zaf hp zah hc rfl fun K8 hK8=>?_
  simp -dsimp -implicitDefEqProofs (disch:=first|assumption|omega|(simp only[r_z,zac,zab]<;>omega)|decide) only[r_r,↓reduceIte,Nat.reduceEqDiff,Nat.reduceAdd,D.fix,Int.reduceToNat,Nat.reduceMul,Nat.reduceBNe,Nat.reduceBEq,r_m,bH,bO,zar,za3,zcu,List.cons_append,List.nil_append,bP,smX,za4,qae]
  refine hK8 _ _ ?_
  refine za1 hp zah hc rfl fun K9 hK9=>?_
  refine jf0 ?_
  refine zow (S:=bH e s.gs μ1++smX x y s.c) (T:=[zcu s.l x.length]) (jwd e μ1 x y k s h1 hlt (by omega) ((hx k hlt).pre hb.bs.pre) ((hy k hlt).pre hb.bs.pre) hb.c (by omega) hxl) rfl (by first|rfl|(simp[AV.allIs,AV.allI,zas,zal,zam,okI,ltI,zae,zaz,bH,bO,zcu,bP,smX];done)|(intro o ho;simp at ho;done)) (fun t=>zbi (by first|rfl|(simp[AV.allIs,AV.allI,zas,zal,zam,okI,ltI,zae,zaz,bH,bO,zcu,bP,smX];done)|(intro o ho;simp at ho;done)) t) (by first|rfl|(simp[AV.allIs,AV.allI,zas,zal,zam,okI,ltI,zae,zaz,bH,bO,zcu,bP,smX];done)|(intro o ho;simp at ho;done)) (by first|rfl|(simp[AV.allIs,AV.allI,zas,zal,zam,okI,ltI,zae,zaz,bH,bO,zcu,bP,smX];done)|(intro o ho;simp at ho;done)) (by first|rfl|(simp[AV.allIs,AV.allI,zas,zal,zam,okI,ltI,zae,zaz,bH,bO,zcu,bP,smX];done)|(intro o ho;simp at ho;done)) ?_
  rintro _ _ ⟨μ2,hn2,rfl,rfl⟩
  refine⟨rfl,?_⟩
  refine jf0 ?_
  refine hK9 _ _ (hK7 _ _ ?_)
  refine za1 hp zah hc rfl fun K10 hK10=>?_
  refine jf0 ?_
  refine hK10 _ _ ⟨_,_,_,?_,⟨k+1,μ2,⟨by omega,by rw[hsu];exact hn2⟩,rfl,rfl,rfl⟩,?_⟩
  ·first|omega|(simp only[List.length_cons];omega)|(dsimp only;omega)
  ·refine yfl [0,1,2,3,4,5,6,7,8,9,10,11,12] ?_
   refine jxv ?_
   refine yl9 ?_;rw[hsu,hR,←hst];simp[bH,bO,zar,avs,bP,smX,iD]
 ·have hkk:k=x.length:=by simp at ht;omega
  have hz:s.l++List.replicate (x.length - s.l.length) (0:Int)=s.l:=by rw[hw,hkk,Nat.sub_self];simp
  rw[hz]
  refine zau (hK3 _ _ ?_)
  refine szq (yfm ·) ?_
  refine zav hp (τ':=frL [(4,.d (.fs (s.l.map iD) x.length))]) (H':=bH e s.gs μ1++smX x y s.c) ?_ ?_
  ·refine Rt.trans (Rt.fz (id:=12) (l:=(s.l.map iD)) rfl) ?_
   refine Rt.trans (Rt.slot 4 (zex (zba (by simp[hw,hkk])))) ?_
   refine yfl [0,1,2,3,4,5,6,7,8,9,10,11] ?_
   refine jxv ?_
   first|rfl|(simp only[r_g,Nat.reduceAdd,↓reduceIte,Nat.reduceEqDiff,r_m,bH,bO,zar,za3,zcu,List.cons_append,List.nil_append,bP,smX];first|done|rfl)
  refine zaj ?_
  refine zap (t:=4) rfl ?_
  show ∃_,_
  rw[hke hkk];exact⟨μ1,hn1,by show AV.d (.fs (s.l.map iD) x.length)= .d (.fs (s.l.map iD) s.l.length);rw[hw,hkk],rfl⟩
theorem jte(e:BE)(gs:Gs)(μ:Mp)(x y:List Int)(q:Int)(h:BOk e gs μ)(hx:NdL (mE2 e) gs x x.length)(hy:NdL (mE2 e) gs y x.length)(hxy:y.length=x.length)(hq:NdB (mE2 e) gs q)(hl:gs.length+3*x.length≤99990)(hxl:x.length≤1000):ScS prog [0,1,3,4,5,6,7] 148 [.op 0 0,.d (intsD x),.d (intsD y),.d (iD q)] (bH e gs μ) (ye0 e ((zhm (mE2 e) gs x y q x.length).gs,(zhm (mE2 e) gs x y q x.length).l)):=by
 refine zbg (fn:=f148) (by kernel_rfl) func148 rfl (qaf rfl) fun c hc hp=>?_
 refine zl1 ?_
 refine szq (jor ·) ?_
 refine zaf hp zah hc rfl fun K2 hK2=>?_
 refine jor ?_
 refine zk7 (S:=bH e gs μ++smX x y q) (T:=[]) (jos e gs μ x y q h hx hy hxy hq hl hxl) rfl (by first|rfl|(simp[AV.allIs,AV.allI,zas,zal,zam,okI,ltI,zae,zaz,bH,bO,bP,smX];done)|(intro o ho;simp at ho;done)) (fun t=>zbi (by first|rfl|(simp[AV.allIs,AV.allI,zas,zal,zam,okI,ltI,zae,zaz,bH,bO,bP,smX];done)|(intro o ho;simp at ho;done)) t) (by first|rfl|(simp[AV.allIs,AV.allI,zas,zal,zam,okI,ltI,zae,zaz,bH,bO,bP,smX];done)|(intro o ho;simp at ho;done)) (by first|rfl|(simp[AV.allIs,AV.allI,zas,zal,zam,okI,ltI,zae,zaz,bH,bO,bP,smX];done)|(intro o ho;simp at ho;done)) (by first|rfl|(simp[AV.allIs,AV.allI,zas,zal,zam,okI,ltI,zae,zaz,bH,bO,bP,smX];done)|(intro o ho;simp at ho;done)) ?_
 rintro _ _ ⟨μ1,hn1,rfl,rfl⟩
 refine⟨rfl,?_⟩
 refine jor ?_
 refine hK2 _ _ ?_
 refine zav hp (τ':=frL [(8,.d (intsD (zhm (mE2 e) gs x y q x.length).l))]) (H':=bH e (zhm (mE2 e) gs x y q x.length).gs μ1) ?_ ?_
 ·refine yfl [0,1,2,3,4,5,6,7] ?_
  refine jxv ?_
  exact yjp
 refine zaj ?_
 refine zap (t:=8) rfl ?_
 show ∃_,_
 exact⟨μ1,hn1,rfl,rfl⟩
end Go.Proofs.YtapjobndmmkanaaGreat
