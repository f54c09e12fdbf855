/- netlist's builder: multiplexers. -/
import Derived.Test.YtapjobndmmkanaaGreatQr
import Derived.Test.YtapjobndmmkanaaGreatYd
import Derived.Test.YtapjobndmmkanaaGreatOe
set_option linter.unusedVariables false
set_option linter.unusedSimpArgs false
set_option maxRecDepth 100000
set_option maxHeartbeats 4000000
namespace Go.Proofs.YtapjobndmmkanaaGreat
open Go.Proofs.Tryz
open Go Go.RowKit
theorem jok{p q:Prop}(hq:q)(h:p=q:=by
 conv=>lhs;simp -dsimp -implicitDefEqProofs (disch:=first|assumption|omega|(simp only[r_z,zac,zab]<;>omega)|decide) only[r_r,↓reduceIte,Nat.reduceEqDiff,Nat.reduceAdd,D.fix,Int.reduceToNat,Nat.reduceMul,Nat.reduceBNe,Nat.reduceBEq,r_m,bH,bO,zar,za3]):p:=h.mpr hq
theorem zj4{p q:Prop}(hq:q)(h:p=q:=by
 conv=>lhs;simp -dsimp -implicitDefEqProofs (disch:=first|assumption|omega|(simp only[r_z,zac,zab]<;>omega)|decide) only[r_r,↓reduceIte,Nat.reduceEqDiff,Nat.reduceAdd,D.fix,Int.reduceToNat,Nat.reduceMul,Nat.reduceBNe,Nat.reduceBEq,r_m,bH,bO,zar,za3,qae]):p:=h.mpr hq
theorem js9(k:List Nat){m:List Nat}{τ τ1:Fr}{H H1:zad}(h:Rt m (fun t=>gcV k (τ t)) (gcH k H) τ1 H1)(a:∀i∈m,k[i]? =some i:=by decide)(b:k.Nodup:=by decide)(c:∀i∈k,i<H.length:=by
 simp[fzH,gcH]):Rt m τ H τ1 H1:=Rt.trans (Rt.gc a b c) h
theorem jta{m:List Nat}{τ τ':Fr}{H H':zad}(h2:H=H')(h:zgk τ τ':=by
 repeat (first|exact zaq _|refine zak ?_ (by first|rfl|(simp[r_f,zac,zab];done)|simp[r_f,zac,zab, *]))):Rt m τ H τ' H':=Rt.end h h2
theorem jv6{p q r:Prop}(e:r)(hq:q)(h:r→p=q:=by
 intro hY
 conv=>lhs;simp -dsimp -implicitDefEqProofs (disch:=first|assumption|omega|(simp only[r_z,zac,zab]<;>omega)|decide) only[r_r,↓reduceIte,Nat.reduceEqDiff,Nat.reduceAdd,D.fix,Int.reduceToNat,Nat.reduceMul,Nat.reduceBNe,Nat.reduceBEq,r_m,bH,bO,zar,za3,qae,hY]):p:=(h e).mpr hq
theorem jv7{P:Program}{sm:List Nat}{N:Nat}{τ:Fr}{H:zad}{f:FuncId}{args:List AV}{K0 KK:AV→zad→Prop}{ks:List Nat}(S T:zad)(h:ScS P ks f args S K0)(hK:∀x S',K0 x S'→S'.length=S.length∧KK x (S'++T))(hH:H=S++T:=by
 rfl) (hm:sm.all (okI ks S.length)=true:=by
 first|rfl|(simp[AV.allIs,AV.allI,zas,zal,zam,okI,ltI,zae,zaz,bH,bO];done)|(intro o ho;simp at ho;done)) (hτ:∀t,(τ t).allI (okI ks S.length)=true:=by
 exact fun t=>zbi (by first|rfl|(simp[AV.allIs,AV.allI,zas,zal,zam,okI,ltI,zae,zaz,bH,bO];done)|(intro o ho;simp at ho;done)) t) (ha:AV.allIs (ltI S.length) args=true:=by
 first|rfl|(simp[AV.allIs,AV.allI,zas,zal,zam,okI,ltI,zae,zaz,bH,bO];done)|(intro o ho;simp at ho;done)) (hS:∀o∈S,o.allI (ltI S.length)=true:=by
 first|rfl|(simp[AV.allIs,AV.allI,zas,zal,zam,okI,ltI,zae,zaz,bH,bO];done)|(intro o ho;simp at ho;done)) (hT:∀o∈T,o.allI (okI ks S.length)=true:=by
 first|rfl|(simp[AV.allIs,AV.allI,zas,zal,zam,okI,ltI,zae,zaz,bH,bO];done)|(intro o ho;simp at ho;done)):kC P sm N H τ (.d (.val (.func (.func f) #[] #[]))) args true (tg KK):=zk7 h hH hm hτ ha hS hT hK
theorem jtb{p:Prop}(h:p:=by
 first|rfl|(simp only[r_g,Nat.reduceAdd,↓reduceIte,Nat.reduceEqDiff,r_m,bH,bO,zar,za3];first|done|rfl)):p:=h
theorem jtc(e:BE)(gs:Gs)(μ:Mp)(x y z:Int)(h:BOk e gs μ)(hx:NdB (mE2 e) gs x)(hy:NdB (mE2 e) gs y)(hz:NdB (mE2 e) gs z)(hl:gs.length+2≤100000):ScS prog [0,1,3,4,5,6,7] 94 [.op 0 0,.d (iD x),.d (iD y),.d (iD z)] (bH e gs μ) (jog e (zlf (mE2 e) gs x y z)):=by
 refine zbg (fn:=f94) (by kernel_rfl) func94 rfl (qaf rfl) fun c hc hp=>?_
 refine zl1 ?_
 have hd:zlf (mE2 e) gs x y z=if x=0 then(gs,z)else if x=1∨y=z then(gs,y)else if y=1 then orB (mE2 e) gs x z else if z=0 then zdn (mE2 e) gs x y else if y=0 then zdn (mE2 e) (zdx (mE2 e) gs x).1 (zdx (mE2 e) gs x).2 z else if z=1 then orB (mE2 e) (zdx (mE2 e) gs x).1 (zdx (mE2 e) gs x).2 y else zc8 (mE2 e) gs ⟨5,x,y,z,0⟩:=rfl
 have x0:=hx.1;have x1:=hx.2;have y0:=hy.1;have y1:=hy.2;have z0:=hz.1;have z1:=hz.2;have i1:=h.i;have l1:=h.l
 unfold mE2 at x1 y1 z1
 have hnr:=zer zg3 h.g hx
 refine szq (jok ·) ?_
 refine zaa fun K2 hK2=>?_
 refine zag ?_
 refine szq (zj4 ·) ?_
 refine zan rfl (fun ht=>?_) (fun ht=>?_)
 ·have q:x=0:=by simpa using ht
  refine szq (jok ·) ?_
  refine zav hp (τ':=frL [(8,.d (iD z))]) (H':=bH e gs μ) ?_ ?_
  ·refine js9 [0,1,2,3,4,5,6,7] ?_
   refine jta ?_
   exact jtb
  refine zaj ?_
  refine zap (t:=8) rfl ?_
  show ∃_,_
  rw[hd,if_pos q];exact⟨μ,h.n,rfl,rfl⟩
 ·have q:x≠0:=by simpa using ht
  refine zaf hp zah hc rfl fun K5 hK5=>?_
  rcases(show x=1∨(x≠1∧y=z)∨(x≠1∧y≠z) by omega)with r|⟨r,s⟩|⟨r,s⟩
  ·have q1:=zsq r
   have q2:=q1
   refine jv6 (sza q1 q2) ?_
   refine hK5 _ _ ?_
   refine szt ?_
   refine szq (jok ·) ?_
   refine zav hp (τ':=frL [(8,.d (iD y))]) (H':=bH e gs μ) ?_ ?_
   ·refine js9 [0,1,2,3,4,5,6,7] ?_
    refine jta ?_
    exact jtb
   refine zaj ?_
   refine zap (t:=8) rfl ?_
   show ∃_,_
   rw[hd,if_neg q,if_pos (.inl r)];exact⟨μ,h.n,rfl,rfl⟩
  ·have q1:=zh8 r
   have q2:=zsq s
   refine jv6 (sza q1 q2) ?_
   refine hK5 _ _ ?_
   refine szt ?_
   refine szq (jok ·) ?_
   refine zav hp (τ':=frL [(8,.d (iD y))]) (H':=bH e gs μ) ?_ ?_
   ·refine js9 [0,1,2,3,4,5,6,7] ?_
    refine jta ?_
    exact jtb
   refine zaj ?_
   refine zap (t:=8) rfl ?_
   show ∃_,_
   rw[hd,if_neg q,if_pos (.inr s)];exact⟨μ,h.n,rfl,rfl⟩
  ·have q1:=zh8 r
   have q2:=zh8 s
   refine jv6 (sza q1 q2) ?_
   refine hK5 _ _ ?_
   refine szf ?_
   have rs:¬(x=1∨y=z):=by omega
   refine szq (zj4 ·) ?_
   refine zan rfl (fun ht=>?_) (fun ht=>?_)
   ·have u:y=1:=by simpa using ht
    refine zaf hp zah hc rfl fun K9 hK9=>?_
    refine zj4 ?_
    refine jv7 (bH e gs μ) ([]) (jk7 e gs μ x z h hx hz) ?_
    rintro _ _ ⟨μ1,hn1,rfl,rfl⟩
    refine⟨rfl,?_⟩
    refine zj4 ?_
    refine hK9 _ _ ?_
    refine zav hp (τ':=frL [(8,.d (iD (orB (mE2 e) gs x z).2))]) (H':=bH e (orB (mE2 e) gs x z).1 μ1) ?_ ?_
    ·refine js9 [0,1,2,3,4,5,6,7] ?_
     refine jta ?_
     exact jtb
    refine zaj ?_
    refine zap (t:=8) rfl ?_
    show ∃_,_
    rw[hd,if_neg q,if_neg rs,if_pos u];exact⟨μ1,hn1,rfl,rfl⟩
   ·have u:y≠1:=by simpa using ht
    refine szq (zj4 ·) ?_
    refine zan rfl (fun ht=>?_) (fun ht=>?_)
    ·have v:z=0:=by simpa using ht
     refine zaf hp zah hc rfl fun K11 hK11=>?_
     refine zj4 ?_
     refine jv7 (bH e gs μ) ([]) (zj3 e gs μ x y h hx hy) ?_
     rintro _ _ ⟨μ1,hn1,rfl,rfl⟩
     refine⟨rfl,?_⟩
     refine zj4 ?_
     refine hK11 _ _ ?_
     refine zav hp (τ':=frL [(8,.d (iD (zdn (mE2 e) gs x y).2))]) (H':=bH e (zdn (mE2 e) gs x y).1 μ1) ?_ ?_
     ·refine js9 [0,1,2,3,4,5,6,7] ?_
      refine jta ?_
      exact jtb
     refine zaj ?_
     refine zap (t:=8) rfl ?_
     show ∃_,_
     rw[hd,if_neg q,if_neg rs,if_neg u,if_pos v];exact⟨μ1,hn1,rfl,rfl⟩
    ·have v:z≠0:=by simpa using ht
     refine szq (zj4 ·) ?_
     refine zan rfl (fun ht=>?_) (fun ht=>?_)
     ·have w:y=0:=by simpa using ht
      refine zaf hp zah hc rfl fun K13 hK13=>?_
      refine zj4 ?_
      refine jv7 (bH e gs μ) ([]) (zpf e gs μ x h hx) ?_
      rintro _ _ ⟨μ1,hn1,rfl,rfl⟩
      refine⟨rfl,?_⟩
      have h1:=h.next hnr hn1 (by omega)
      refine zj4 ?_
      refine jv7 (bH e (zdx (mE2 e) gs x).1 μ1) ([]) (zj3 e (zdx (mE2 e) gs x).1 μ1 (zdx (mE2 e) gs x).2 z h1 hnr.nd (hz.pre hnr.pre)) ?_
      rintro _ _ ⟨μ2,hn2,rfl,rfl⟩
      refine⟨rfl,?_⟩
      refine zj4 ?_
      refine hK13 _ _ ?_
      refine zav hp (τ':=frL [(8,.d (iD (zdn (mE2 e) (zdx (mE2 e) gs x).1 (zdx (mE2 e) gs x).2 z).2))]) (H':=bH e (zdn (mE2 e) (zdx (mE2 e) gs x).1 (zdx (mE2 e) gs x).2 z).1 μ2) ?_ ?_
      ·refine js9 [0,1,2,3,4,5,6,7] ?_
       refine jta ?_
       exact jtb
      refine zaj ?_
      refine zap (t:=8) rfl ?_
      show ∃_,_
      rw[hd,if_neg q,if_neg rs,if_neg u,if_neg v,if_pos w];exact⟨μ2,hn2,rfl,rfl⟩
     ·have w:y≠0:=by simpa using ht
      refine szq (zj4 ·) ?_
      refine zan rfl (fun ht=>?_) (fun ht=>?_)
      ·have k:z=1:=by simpa using ht
       refine zaf hp zah hc rfl fun K15 hK15=>?_
       refine zj4 ?_
       refine jv7 (bH e gs μ) ([]) (zpf e gs μ x h hx) ?_
       rintro _ _ ⟨μ1,hn1,rfl,rfl⟩
       refine⟨rfl,?_⟩
       have h1:=h.next hnr hn1 (by omega)
       refine zj4 ?_
       refine jv7 (bH e (zdx (mE2 e) gs x).1 μ1) ([]) (jk7 e (zdx (mE2 e) gs x).1 μ1 (zdx (mE2 e) gs x).2 y h1 hnr.nd (hy.pre hnr.pre)) ?_
       rintro _ _ ⟨μ2,hn2,rfl,rfl⟩
       refine⟨rfl,?_⟩
       refine zj4 ?_
       refine hK15 _ _ ?_
       refine zav hp (τ':=frL [(8,.d (iD (orB (mE2 e) (zdx (mE2 e) gs x).1 (zdx (mE2 e) gs x).2 y).2))]) (H':=bH e (orB (mE2 e) (zdx (mE2 e) gs x).1 (zdx (mE2 e) gs x).2 y).1 μ2) ?_ ?_
       ·refine js9 [0,1,2,3,4,5,6,7] ?_
        refine jta ?_
        exact jtb
       refine zaj ?_
       refine zap (t:=8) rfl ?_
       show ∃_,_
       rw[hd,if_neg q,if_neg rs,if_neg u,if_neg v,if_neg w,if_pos k];exact⟨μ2,hn2,rfl,rfl⟩
      ·have k:z≠1:=by simpa using ht
       refine zai (hK2 _ _ ?_)
       refine zaf hp zah hc rfl fun K16 hK16=>?_
       refine zj4 ?_
       refine jv7 (bH e gs μ) ([]) (zl9 e gs μ ⟨5,x,y,z,0⟩ h.n (h.g64 (by decide) (by decide) hx hy hz) h.i h.l) ?_
       rintro _ _ ⟨μ2,hn2,rfl,rfl⟩
       refine⟨rfl,?_⟩
       refine zj4 ?_
       refine hK16 _ _ ?_
       refine zav hp (τ':=frL [(8,.d (iD (zc8 (mE2 e) gs ⟨5,x,y,z,0⟩).2))]) (H':=bH e (zc8 (mE2 e) gs ⟨5,x,y,z,0⟩).1 μ2) ?_ ?_
       ·refine js9 [0,1,2,3,4,5,6,7] ?_
        refine jta ?_
        exact jtb
       refine zaj ?_
       refine zap (t:=8) rfl ?_
       show ∃_,_
       rw[hd,if_neg q,if_neg rs,if_neg u,if_neg v,if_neg w,if_neg k];exact⟨μ2,hn2,rfl,rfl⟩
theorem jol{x y z a b c:Int}(hab:a≤b)(hbc:b≤c)(hp:[x,y,z].Perm [a,b,c]):zsn [x,y,z]=[a,b,c]:=by
 refine List.Perm.eq_of_pairwise (le:=fun a b=>leI a b=true) (fun a b _ _ h1 h2=>?_) (List.pairwise_mergeSort ybf ybg _) ?_ ((List.mergeSort_perm _ leI).trans hp)
 ·simp only[leI,qax]at h1 h2;omega
 ·simp[leI];omega
theorem yjm{x y z a b c:Int}(h:(a=x∧b=y∧c=z)∨(a=x∧b=z∧c=y)∨(a=y∧b=x∧c=z)∨(a=y∧b=z∧c=x)∨(a=z∧b=x∧c=y)∨(a=z∧b=y∧c=x)):[x,y,z].Perm [a,b,c]:=by
 have sw:∀u v w:Int,[u,v,w].Perm [v,u,w]:=fun u v w=>.swap _ _ _
 have sr:∀u v w:Int,[u,v,w].Perm [u,w,v]:=fun u v w=>.cons _ (.swap _ _ _)
 rcases h with⟨rfl,rfl,rfl⟩|⟨rfl,rfl,rfl⟩|⟨rfl,rfl,rfl⟩|⟨rfl,rfl,rfl⟩|⟨rfl,rfl,rfl⟩|⟨rfl,rfl,rfl⟩
 ·exact .refl _
 ·exact sr _ _ _
 ·exact sw _ _ _
 ·exact(sw _ _ _).trans (sr _ _ _)
 ·exact(sr _ _ _).trans (sw _ _ _)
 ·exact((sw _ _ _).trans (sr _ _ _)).trans (sw _ _ _)
theorem yfa{P:Program}{sm:List Nat}{N:Nat}{τ:Fr}{H:zad}{f:FuncId}{args:List AV}{x:AV}{H1:zad}{KK:AV→zad→Prop}(h:IcS P f args H fun x' H'=>x'=x∧H'=H1)(hK:KK x H1):kC P sm N H τ (.d (.val (.func (.func f) #[] #[]))) args true (tg KK):=
 jpz h fun _ _ ⟨a,b⟩=>by rw[a,b];exact hK
theorem yfb{H:zad}{x y z a b c:Int}(hs:zsn [x,y,z]=[a,b,c]){id:Nat}(hid:H[id]? =some (.cells [.d (iD x),.d (iD y),.d (iD z)])):IcS prog 203 [.os 1 id 0 3] H fun x H'=>x= .tup []∧H'=H.set id (.cells [.d (iD a),.d (iD b),.d (iD c)]):=by
 have:=jum (H:=H) (id:=id) (l:=[x,y,z]) hid (by simp) (by simp)
 rw[hs]at this
 exact this
theorem zzx{p q:Prop}(hq:q)(h:p=q:=by
 conv=>lhs;simp -dsimp -implicitDefEqProofs (disch:=first|assumption|omega|(simp only[r_z,zac,zab]<;>omega)|decide) only[r_r,↓reduceIte,Nat.reduceEqDiff,Nat.reduceAdd,D.fix,Int.reduceToNat,Nat.reduceMul,Nat.reduceBNe,Nat.reduceBEq,r_m,bH,bO,zar,za3,qae]):p:=h.mpr hq
theorem jfx{p q:Prop}(hq:q)(h:p=q:=by
 conv=>lhs;simp -dsimp -implicitDefEqProofs (disch:=first|assumption|omega|(simp only[r_z,zac,zab]<;>omega)|decide) only[r_r,↓reduceIte,Nat.reduceEqDiff,Nat.reduceAdd,D.fix,Int.reduceToNat,Nat.reduceMul,Nat.reduceBNe,Nat.reduceBEq,r_w,r_m,bH,bO,zar,za3,qae]):p:=h.mpr hq
theorem yjn{P:Program}{sm:List Nat}{N:Nat}{τ0 τ:Fr}{H:zad}{f:FuncId}{args:List AV}{K0 KK:AV→zad→Prop}{ks:List Nat}(S T:zad)(h:ScS P ks f args S K0)(hK:∀x S',K0 x S'→S'.length=S.length∧KK x (S'++T))(hH:H=S++T:=by
 rfl) (hN:S.length≤N:=by
 exact qaf rfl) (hm:sm.all (okI ks S.length)=true:=by
 first|rfl|(simp[AV.allIs,AV.allI,zas,zal,zam,okI,ltI,zae,zaz,bH,bO];done)|(intro o ho;simp at ho;done)) (hτ:∀t,(τ t).allI (okI ks S.length)=true:=by
 exact fun t=>zbi (by first|rfl|(simp[AV.allIs,AV.allI,zas,zal,zam,okI,ltI,zae,zaz,bH,bO];done)|(intro o ho;simp at ho;done)) t) (h0:∀t,(τ0 t).allI (okI ks S.length)=true:=by
 exact fun t=>zbi (by first|rfl|(simp[AV.allIs,AV.allI,zas,zal,zam,okI,ltI,zae,zaz,bH,bO];done)|(intro o ho;simp at ho;done)) t) (ha:AV.allIs (ltI S.length) args=true:=by
 first|rfl|(simp[AV.allIs,AV.allI,zas,zal,zam,okI,ltI,zae,zaz,bH,bO];done)|(intro o ho;simp at ho;done)) (hS:∀o∈S,o.allI (ltI S.length)=true:=by
 first|rfl|(simp[AV.allIs,AV.allI,zas,zal,zam,okI,ltI,zae,zaz,bH,bO];done)|(intro o ho;simp at ho;done)) (hT:∀o∈T,o.allI (okI ks S.length)=true:=by
 first|rfl|(simp[AV.allIs,AV.allI,zas,zal,zam,okI,ltI,zae,zaz,bH,bO];done)|(intro o ho;simp at ho;done)):kE P sm N τ0 τ H (.d (.val (.func (.func f) #[] #[]))) args (tg KK):=zpl h hH hN hm hτ h0 ha hS hT hK
theorem yfc(k:List Nat){m:List Nat}{τ τ1:Fr}{H H1:zad}(h:Rt m (fun t=>gcV k (τ t)) (gcH k H) τ1 H1)(a:∀i∈m,k[i]? =some i:=by decide)(b:k.Nodup:=by decide)(c:∀i∈k,i<H.length:=by
 simp[fzH,gcH]):Rt m τ H τ1 H1:=Rt.trans (Rt.gc a b c) h
theorem yfd{m:List Nat}{τ τ':Fr}{H H':zad}(h2:H=H')(h:zgk τ τ':=by
 repeat (first|exact zaq _|refine zak ?_ (by first|rfl|(simp[r_f,zac,zab];done)|simp[r_f,zac,zab, *]))):Rt m τ H τ' H':=Rt.end h h2
theorem jv9{p q r:Prop}(e:r)(hq:q)(h:r→p=q:=by
 intro hY
 conv=>lhs;simp -dsimp -implicitDefEqProofs (disch:=first|assumption|omega|(simp only[r_z,zac,zab]<;>omega)|decide) only[r_r,↓reduceIte,Nat.reduceEqDiff,Nat.reduceAdd,D.fix,Int.reduceToNat,Nat.reduceMul,Nat.reduceBNe,Nat.reduceBEq,r_m,bH,bO,zar,za3,qae,hY]):p:=(h e).mpr hq
theorem yfe{p:Prop}(h:p:=by
 first|rfl|(simp only[r_g,Nat.reduceAdd,↓reduceIte,Nat.reduceEqDiff,r_m,bH,bO,zar,za3];first|done|rfl)):p:=h
theorem jtd(e:BE)(gs:Gs)(μ:Mp)(x y z:Int)(h:BOk e gs μ)(hx:NdB (mE2 e) gs x)(hy:NdB (mE2 e) gs y)(hz:NdB (mE2 e) gs z):ScS prog [0,1,3,4,5,6,7] 183 [.op 0 0,.d (iD x),.d (iD y),.d (iD z)] (bH e gs μ) (jog e (jdy (mE2 e) gs x y z)):=by
 refine zbg (fn:=f183) (by kernel_rfl) func183 rfl (qaf rfl) fun c hc hp=>?_
 refine zl1 ?_
 obtain⟨a,b,d,e1,e2,e3,ab,bd,hh⟩:=juh x y z
 have hs:=jol ab bd (yjm hh)
 have hA:NdB (mE2 e) gs a:=by rcases hh with⟨rfl,rfl,rfl⟩|⟨rfl,rfl,rfl⟩|⟨rfl,rfl,rfl⟩|⟨rfl,rfl,rfl⟩|⟨rfl,rfl,rfl⟩|⟨rfl,rfl,rfl⟩<;>assumption
 have hB:NdB (mE2 e) gs b:=by rcases hh with⟨rfl,rfl,rfl⟩|⟨rfl,rfl,rfl⟩|⟨rfl,rfl,rfl⟩|⟨rfl,rfl,rfl⟩|⟨rfl,rfl,rfl⟩|⟨rfl,rfl,rfl⟩<;>assumption
 have hD:NdB (mE2 e) gs d:=by rcases hh with⟨rfl,rfl,rfl⟩|⟨rfl,rfl,rfl⟩|⟨rfl,rfl,rfl⟩|⟨rfl,rfl,rfl⟩|⟨rfl,rfl,rfl⟩|⟨rfl,rfl,rfl⟩<;>assumption
 have hd:jdy (mE2 e) gs x y z=if a=0 then zdn (mE2 e) gs b d else if a=1 then orB (mE2 e) gs b d else if a=b∨b=d then(gs,b)else zc8 (mE2 e) gs ⟨6,a,b,d,0⟩:=by unfold jdy jug;rw[e2,e1,e3]
 clear e1 e2 e3
 refine zaf hp zah hc rfl fun K1 hK1=>?_
 simp -dsimp -implicitDefEqProofs (disch:=first|assumption|omega|(simp only[r_z,zac,zab]<;>omega)|decide) only[r_r,↓reduceIte,Nat.reduceEqDiff,Nat.reduceAdd,D.fix,Int.reduceToNat,Nat.reduceMul,Nat.reduceBNe,Nat.reduceBEq,r_m,bH,bO,zar,za3]
 refine hK1 _ _ ?_
 refine szq (zzx ·) ?_
 refine zaf hp zah hc rfl fun K3 hK3=>?_
 refine zzx ?_
 refine yfa (yfb hs rfl) ?_
 refine zzx ?_
 refine hK3 _ _ ?_
 refine zaa fun K4 hK4=>?_
 refine zag ?_
 refine szq (zzx ·) ?_
 refine zan rfl (fun ht=>?_) (fun ht=>?_)
 ·have q:a=0:=by simpa using ht
  refine zbc zah hp hc mixed rfl [(0,[]),(1,[]),(2,[]),(3,[]),(4,[]),(5,[]),(6,[]),(7,[]),(8,[])] [[],[],[1],[1,2],[],[4],[4,5],[0,1,2,3,4,5,6],[0,1,2,3,4,5,6,7]] 0 (by kernel_rfl) fun K6 hK6=>?_
  refine jfx ?_
  refine yjn (bH e gs μ) ([.cells [.d (iD a),.d (iD b),.d (iD d)]]) (zj3 e gs μ b d h hB hD) ?_
  rintro _ _ ⟨μ1,hn1,rfl,rfl⟩
  refine⟨rfl,?_⟩
  refine jfx ?_
  refine hK6 _ _ ?_
  refine zav hp (τ':=frL [(8,.d (iD (zdn (mE2 e) gs b d).2))]) (H':=bH e (zdn (mE2 e) gs b d).1 μ1) ?_ ?_
  ·refine yfc [0,1,2,3,4,5,6,7] ?_
   refine yfd ?_
   exact yfe
  refine zaj ?_
  refine zap (t:=8) rfl ?_
  show ∃_,_
  rw[hd,if_pos q];exact⟨μ1,hn1,rfl,rfl⟩
 ·have q:a≠0:=by simpa using ht
  refine szq (zzx ·) ?_
  refine zan rfl (fun ht=>?_) (fun ht=>?_)
  ·have r:a=1:=by simpa using ht
   refine zbc zah hp hc mixed rfl [(0,[]),(1,[]),(2,[]),(3,[]),(4,[]),(5,[]),(6,[]),(7,[]),(8,[])] [[],[],[1],[1,2],[],[4],[4,5],[0,1,2,3,4,5,6],[0,1,2,3,4,5,6,7]] 0 (by kernel_rfl) fun K8 hK8=>?_
   refine jfx ?_
   refine yjn (bH e gs μ) ([.cells [.d (iD a),.d (iD b),.d (iD d)]]) (jk7 e gs μ b d h hB hD) ?_
   rintro _ _ ⟨μ1,hn1,rfl,rfl⟩
   refine⟨rfl,?_⟩
   refine jfx ?_
   refine hK8 _ _ ?_
   refine zav hp (τ':=frL [(8,.d (iD (orB (mE2 e) gs b d).2))]) (H':=bH e (orB (mE2 e) gs b d).1 μ1) ?_ ?_
   ·refine yfc [0,1,2,3,4,5,6,7] ?_
    refine yfd ?_
    exact yfe
   refine zaj ?_
   refine zap (t:=8) rfl ?_
   show ∃_,_
   rw[hd,if_neg q,if_pos r];exact⟨μ1,hn1,rfl,rfl⟩
  ·have r:a≠1:=by simpa using ht
   refine zay zah hc mixed rfl (q:=0) (by kernel_rfl) (by kernel_rfl) fun K9 hK9=>?_
   rcases(show a=b∨(a≠b∧b=d)∨(a≠b∧b≠d) by omega)with s|⟨s,u⟩|⟨s,u⟩
   ·have q1:=zsq s
    have q2:=q1
    refine jv9 (sza q1 q2) ?_
    refine hK9 _ _ ?_
    refine szt ?_
    refine szq (zzx ·) ?_
    refine zav hp (τ':=frL [(8,.d (iD b))]) (H':=bH e gs μ) ?_ ?_
    ·refine yfc [0,1,2,3,4,5,6,7] ?_
     refine yfd ?_
     exact yfe
    refine zaj ?_
    refine zap (t:=8) rfl ?_
    show ∃_,_
    rw[hd,if_neg q,if_neg r,if_pos (.inl s)];exact⟨μ,h.n,rfl,rfl⟩
   ·have q1:=zh8 s
    have q2:=zsq u
    refine jv9 (sza q1 q2) ?_
    refine hK9 _ _ ?_
    refine szt ?_
    refine szq (zzx ·) ?_
    refine zav hp (τ':=frL [(8,.d (iD b))]) (H':=bH e gs μ) ?_ ?_
    ·refine yfc [0,1,2,3,4,5,6,7] ?_
     refine yfd ?_
     exact yfe
    refine zaj ?_
    refine zap (t:=8) rfl ?_
    show ∃_,_
    rw[hd,if_neg q,if_neg r,if_pos (.inr u)];exact⟨μ,h.n,rfl,rfl⟩
   ·have q1:=zh8 s
    have q2:=zh8 u
    refine jv9 (sza q1 q2) ?_
    refine hK9 _ _ ?_
    refine szf ?_
    refine zai (hK4 _ _ ?_)
    refine zbc zah hp hc mixed rfl [(0,[]),(1,[]),(2,[]),(3,[]),(4,[]),(5,[]),(6,[]),(7,[]),(8,[]),(9,[]),(10,[]),(11,[]),(12,[])] [[],[],[1],[1,2],[],[4],[4,5],[],[7],[7,8],[1,2,3,4,5,6,7,8,9],[0,1,2,3,4,5,6,7,8,9,10],[0,1,2,3,4,5,6,7,8,9,10,11]] 0 (by kernel_rfl) fun K12 hK12=>?_
    refine jfx ?_
    refine yjn (bH e gs μ) ([.cells [.d (iD a),.d (iD b),.d (iD d)]]) (zl9 e gs μ ⟨6,a,b,d,0⟩ h.n (h.g64 (by decide) (by decide) hA hB hD) h.i h.l) ?_
    rintro _ _ ⟨μ2,hn2,rfl,rfl⟩
    refine⟨rfl,?_⟩
    refine jfx ?_
    refine hK12 _ _ ?_
    refine zav hp (τ':=frL [(8,.d (iD (zc8 (mE2 e) gs ⟨6,a,b,d,0⟩).2))]) (H':=bH e (zc8 (mE2 e) gs ⟨6,a,b,d,0⟩).1 μ2) ?_ ?_
    ·refine yfc [0,1,2,3,4,5,6,7] ?_
     refine yfd ?_
     exact yfe
    refine zaj ?_
    refine zap (t:=8) rfl ?_
    show ∃_,_
    rw[hd,if_neg q,if_neg r,if_neg (fun hh=>by rcases hh with hh|hh;exact s hh;exact u hh)];exact⟨μ2,hn2,rfl,rfl⟩
end Go.Proofs.YtapjobndmmkanaaGreat
