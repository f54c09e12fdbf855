/- netlist's builder: operands, complements, pairs. -/
import Derived.Test.YtapjobndmmkanaaGreatQr
import Derived.Test.YtapjobndmmkanaaGreatYb
set_option linter.unusedVariables false
set_option linter.unusedSimpArgs false
set_option maxRecDepth 100000
set_option maxHeartbeats 4000000
namespace Go.Proofs.YtapjobndmmkanaaGreat
open Go.Proofs.Tryz
open Go Go.RowKit
section
section
variable {e:BE} {gs:Gs} {μ:Mp}
theorem BOk.nd64(h:BOk e gs μ){x:Int}(hx:NdB (mE2 e) gs x):I64 x:=by
 have h1:=hx.1;have h2:=hx.2;have h3:=h.i;have h4:=h.l
 unfold mE2 at h2
 exact zh2 (by omega) (by omega)
theorem BOk.g64(h:BOk e gs μ){o x y z:Int}(o0:0≤o)(o1:o≤10)(hx:NdB (mE2 e) gs x)(hy:NdB (mE2 e) gs y)(hz:NdB (mE2 e) gs z):G64 ⟨o,x,y,z,0⟩:=
 ⟨zh2 (by simp only;omega) (by simp only;omega),h.nd64 hx,h.nd64 hy,h.nd64 hz,(zh2 (by decide) (by decide):I64 0)⟩
theorem BOk.z(h:BOk e gs μ):NdB (mE2 e) gs 0:=⟨by omega,by unfold mE2;omega⟩
theorem zg3:2≤mE2 e:=by unfold mE2;omega
theorem BOk.next(h:BOk e gs μ){n:Nat}{r:Re}(hr:Rs (mE2 e) n gs r){μ':Mp}(hn:NdM (mE2 e) r.1 μ')(hl:gs.length+n≤100000):BOk e r.1 μ':=⟨hn,hr.gi,h.i,by have:=hr.len;omega⟩
end
def yl4(e:BE)(gs:Gs)(μ:Mp)(y x:AV)(S':zad):Prop:=∃z,z=y∧x=z∧S'=bH e gs μ
theorem joj{p q:Prop}(hq:q)(h:p=q:=by
 conv=>lhs;simp -dsimp -implicitDefEqProofs (disch:=first|assumption|omega|(simp only[r_z,zac,zab]<;>omega)|decide) only[r_r,↓reduceIte,Nat.reduceEqDiff,Nat.reduceAdd,D.fix,Int.reduceToNat,Nat.reduceMul,Nat.reduceBNe,Nat.reduceBEq,r_m,bH,bO,zar]):p:=h.mpr hq
theorem jv4{p q r:Prop}(e:r)(hq:q)(h:r→p=q:=by
 intro hY
 conv=>lhs;simp -dsimp -implicitDefEqProofs (disch:=first|assumption|omega|(simp only[r_z,zac,zab]<;>omega)|decide) only[r_r,↓reduceIte,Nat.reduceEqDiff,Nat.reduceAdd,D.fix,Int.reduceToNat,Nat.reduceMul,Nat.reduceBNe,Nat.reduceBEq,r_m,bH,bO,zar,zl0,yax,qae,hY]):p:=(h e).mpr hq
theorem js7(k:List Nat){m:List Nat}{τ τ1:Fr}{H H1:zad}(h:Rt m (fun t=>gcV k (τ t)) (gcH k H) τ1 H1)(a:∀i∈m,k[i]? =some i:=by decide)(b:k.Nodup:=by decide)(c:∀i∈k,i<H.length:=by
 simp[fzH,gcH]):Rt m τ H τ1 H1:=Rt.trans (Rt.gc a b c) h
theorem js8{m:List Nat}{τ τ':Fr}{H H':zad}(h2:H=H')(h:zgk τ τ':=by
 repeat (first|exact zaq _|refine zak ?_ (by first|rfl|(simp[r_f,zac,zab];done)|simp[r_f,zac,zab, *]))):Rt m τ H τ' H':=Rt.end h h2
theorem ye3{p:Prop}(h:p:=by
 first|rfl|(simp only[r_g,Nat.reduceAdd,↓reduceIte,Nat.reduceEqDiff,r_m,bH,bO,zar];first|done|rfl)):p:=h
theorem zve(e:BE)(gs:Gs)(μ:Mp)(x:Int)(h:BOk e gs μ)(hx:NdB (mE2 e) gs x):ScS prog [0,1,2,3,4,5,6,7] 180 [.op 0 0,.d (iD x)] (bH e gs μ) (yl4 e gs μ (.d (iD (zig (mE2 e) gs x)))):=by
 refine zbg (fn:=f180) (by kernel_rfl) func180 rfl (qaf rfl) fun c hc hp=>?_
 refine zdq ?_
 have x0:=hx.1;have x1:=hx.2;have i1:=h.i;have l1:=h.l
 have hm:((mE2 e:Nat):Int)=2+e.ins.length:=by unfold mE2;omega
 rw[hm]at x1
 refine szq (joj ·) ?_
 refine zaa fun K2 hK2=>?_
 refine zaf hp zah hc rfl fun K3 hK3=>?_
 simp -dsimp -implicitDefEqProofs (disch:=first|assumption|omega|(simp only[r_z,zac,zab]<;>omega)|decide) only[r_r,↓reduceIte,Nat.reduceEqDiff,Nat.reduceAdd,D.fix,Int.reduceToNat,Nat.reduceMul,Nat.reduceBNe,Nat.reduceBEq,r_m,bH,bO,zar,qae]
 refine hK3 _ _ ?_
 refine zaf hp zah hc rfl fun K4 hK4=>?_
 rcases(show ¬(0≤x - 2 - (e.ins.length:Int))∨(0≤x - 2 - (e.ins.length:Int)∧(nth gs (x - 2 - (e.ins.length:Int)).toNat).op=1)∨(0≤x - 2 - (e.ins.length:Int)∧(nth gs (x - 2 - (e.ins.length:Int)).toNat).op≠1) by omega)with q|⟨q,q'⟩|⟨q,q'⟩
 ·have q1:decide (0≤x - 2 - (e.ins.length:Int))=false:=decide_eq_false q
  have q2:=q1
  have hin:zig (mE2 e) gs x= -1:=by unfold zig;rw[if_neg (fun hh=>q (by have:=hh.1;omega))]
  refine jv4 (sza q1 q2) ?_
  refine hK4 _ _ ?_
  refine szf ?_
  refine zai (hK2 _ _ ?_)
  refine szq (joj ·) ?_
  refine zav hp (τ':=frL [(4,.d (iD (-1)))]) (H':=bH e gs μ) ?_ ?_
  ·refine js7 [0,1,2,3,4,5,6,7] ?_
   refine js8 ?_
   exact ye3
  refine zaj ?_
  refine zap (t:=4) rfl ?_
  show ∃_,_
  exact⟨_,rfl,by rw[hin];rfl,rfl⟩
 ·have q1:decide (0≤x - 2 - (e.ins.length:Int))=true:=decide_eq_true q
  have q2:((nth gs (x - 2 - (e.ins.length:Int)).toNat).op==1)=true:=by simpa using q'
  have hk:(x - 2 - (e.ins.length:Int)).toNat<gs.length:=by omega
  have hin:zig (mE2 e) gs x=(nth gs (x - 2 - (e.ins.length:Int)).toNat).a:=by unfold zig;rw[hm,show x - (2+(e.ins.length:Int))=x - 2 - e.ins.length by omega,if_pos ⟨by omega,q'⟩]
  refine jv4 (sza q1 q2) ?_
  refine hK4 _ _ ?_
  refine szt ?_
  refine zaf hp zah hc rfl fun K6 hK6=>?_
  simp -dsimp -implicitDefEqProofs (disch:=first|assumption|omega|(simp only[r_z,zac,zab]<;>omega)|decide) only[r_r,↓reduceIte,Nat.reduceEqDiff,Nat.reduceAdd,D.fix,Int.reduceToNat,Nat.reduceMul,Nat.reduceBNe,Nat.reduceBEq,r_m,bH,bO,zar,zl0,yay,qae]
  refine hK6 _ _ ?_
  refine zav hp (τ':=frL [(4,.d (iD (nth gs (x - 2 - (e.ins.length:Int)).toNat).a))]) (H':=bH e gs μ) ?_ ?_
  ·refine js7 [0,1,2,3,4,5,6,7] ?_
   refine js8 ?_
   exact ye3
  refine zaj ?_
  refine zap (t:=4) rfl ?_
  show ∃_,_
  exact⟨_,rfl,by rw[hin];rfl,rfl⟩
 ·have q1:decide (0≤x - 2 - (e.ins.length:Int))=true:=decide_eq_true q
  have q2:((nth gs (x - 2 - (e.ins.length:Int)).toNat).op==1)=false:=by simpa using q'
  have hk:(x - 2 - (e.ins.length:Int)).toNat<gs.length:=by omega
  have hin:zig (mE2 e) gs x= -1:=by unfold zig;rw[hm,show x - (2+(e.ins.length:Int))=x - 2 - e.ins.length by omega,if_neg (fun hh=>q' hh.2)]
  refine jv4 (sza q1 q2) ?_
  refine hK4 _ _ ?_
  refine szf ?_
  refine zai (hK2 _ _ ?_)
  refine szq (joj ·) ?_
  refine zav hp (τ':=frL [(4,.d (iD (-1)))]) (H':=bH e gs μ) ?_ ?_
  ·refine js7 [0,1,2,3,4,5,6,7] ?_
   refine js8 ?_
   exact ye3
  refine zaj ?_
  refine zap (t:=4) rfl ?_
  show ∃_,_
  exact⟨_,rfl,by rw[hin];rfl,rfl⟩
theorem ye4{p q:Prop}(hq:q)(h:p=q:=by
 conv=>lhs;simp -dsimp -implicitDefEqProofs (disch:=first|assumption|omega|(simp only[r_z,zac,zab]<;>omega)|decide) only[r_r,↓reduceIte,Nat.reduceEqDiff,Nat.reduceAdd,D.fix,Int.reduceToNat,Nat.reduceMul,Nat.reduceBNe,Nat.reduceBEq,r_m,bH,bO,zar,za3]):p:=h.mpr hq
theorem zzt{p q:Prop}(hq:q)(h:p=q:=by
 conv=>lhs;simp -dsimp -implicitDefEqProofs (disch:=first|assumption|omega|(simp only[r_z,zac,zab]<;>omega)|decide) only[r_r,↓reduceIte,Nat.reduceEqDiff,Nat.reduceAdd,D.fix,Int.reduceToNat,Nat.reduceMul,Nat.reduceBNe,Nat.reduceBEq,r_m,bH,bO,zar,za3,qae]):p:=h.mpr hq
theorem ye5{P:Program}{sm:List Nat}{N:Nat}{τ:Fr}{H:zad}{f:FuncId}{args:List AV}{K0 KK:AV→zad→Prop}{ks:List Nat}(S T:zad)(h:ScS P ks f args S K0)(hK:∀x S',K0 x S'→S'.length=S.length∧KK x (S'++T))(hH:H=S++T:=by
 rfl) (hm:sm.all (okI ks S.length)=true:=by
 first|rfl|(simp[AV.allIs,AV.allI,zas,zal,zam,okI,ltI,zae,zaz,bH,bO];done)|(intro o ho;simp at ho;done)) (hτ:∀t,(τ t).allI (okI ks S.length)=true:=by
 exact fun t=>zbi (by first|rfl|(simp[AV.allIs,AV.allI,zas,zal,zam,okI,ltI,zae,zaz,bH,bO];done)|(intro o ho;simp at ho;done)) t) (ha:AV.allIs (ltI S.length) args=true:=by
 first|rfl|(simp[AV.allIs,AV.allI,zas,zal,zam,okI,ltI,zae,zaz,bH,bO];done)|(intro o ho;simp at ho;done)) (hS:∀o∈S,o.allI (ltI S.length)=true:=by
 first|rfl|(simp[AV.allIs,AV.allI,zas,zal,zam,okI,ltI,zae,zaz,bH,bO];done)|(intro o ho;simp at ho;done)) (hT:∀o∈T,o.allI (okI ks S.length)=true:=by
 first|rfl|(simp[AV.allIs,AV.allI,zas,zal,zam,okI,ltI,zae,zaz,bH,bO];done)|(intro o ho;simp at ho;done)):kC P sm N H τ (.d (.val (.func (.func f) #[] #[]))) args true (tg KK):=zk7 h hH hm hτ ha hS hT hK
theorem yjk{p:Prop}(h:p:=by
 first|rfl|(simp only[r_g,Nat.reduceAdd,↓reduceIte,Nat.reduceEqDiff,r_m,bH,bO,zar,za3];first|done|rfl)):p:=h
theorem zpf(e:BE)(gs:Gs)(μ:Mp)(x:Int)(h:BOk e gs μ)(hx:NdB (mE2 e) gs x):ScS prog [0,1,3,4,5,6,7] 142 [.op 0 0,.d (iD x)] (bH e gs μ) (jog e (zdx (mE2 e) gs x)):=by
 refine zbg (fn:=f142) (by kernel_rfl) func142 rfl (qaf rfl) fun c hc hp=>?_
 refine zdq ?_
 have x0:=hx.1;have x1:=hx.2;have i1:=h.i;have l1:=h.l
 unfold mE2 at x1
 refine szq (ye4 ·) ?_
 refine zaa fun K2 hK2=>?_
 refine szq (zzt ·) ?_
 refine zan rfl (fun ht=>?_) (fun ht=>?_)
 ·have hlt:x<2:=by simpa using ht
  refine szq (zzt ·) ?_
  refine zav hp (τ':=frL [(4,.d (iD (1 - x)))]) (H':=bH e gs μ) ?_ ?_
  ·refine js7 [0,1,2,3,4,5,6,7] ?_
   refine js8 ?_
   exact yjk
  refine zaj ?_
  refine zap (t:=4) rfl ?_
  show ∃_,_
  exact⟨μ,by unfold zdx;rw[if_pos hlt];exact h.n,by unfold zdx;rw[if_pos hlt];rfl,by unfold zdx;rw[if_pos hlt]⟩
 ·have hlt:¬x<2:=by simpa using ht
  refine zai (hK2 _ _ ?_)
  refine zaa fun K5 hK5=>?_
  refine zaf hp zah hc rfl fun K6 hK6=>?_
  refine zzt ?_
  refine ye5 (bH e gs μ) ([]) (zve e gs μ x h hx) ?_
  rintro _ _ ⟨_,rfl,rfl,rfl⟩
  refine⟨rfl,?_⟩
  refine zzt ?_
  refine hK6 _ _ ?_
  refine szq (zzt ·) ?_
  refine zan rfl (fun ht=>?_) (fun ht=>?_)
  ·have hin:0≤zig (mE2 e) gs x:=by simpa using ht
   refine szq (ye4 ·) ?_
   refine zav hp (τ':=frL [(4,.d (iD (zig (mE2 e) gs x)))]) (H':=bH e gs μ) ?_ ?_
   ·refine js7 [0,1,2,3,4,5,6,7] ?_
    refine js8 ?_
    exact yjk
   refine zaj ?_
   refine zap (t:=4) rfl ?_
   show ∃_,_
   exact⟨μ,by unfold zdx;rw[if_neg hlt,if_pos hin];exact h.n,by unfold zdx;rw[if_neg hlt,if_pos hin];rfl,by unfold zdx;rw[if_neg hlt,if_pos hin]⟩
  ·have hin:¬0≤zig (mE2 e) gs x:=by simpa using ht
   refine zai (hK5 _ _ ?_)
   refine zaf hp zah hc rfl fun K9 hK9=>?_
   refine zzt ?_
   refine ye5 (bH e gs μ) ([]) (zl9 e gs μ ⟨1,x,0,0,0⟩ h.n (h.g64 (by decide) (by decide) hx h.z h.z) h.i h.l) ?_
   rintro _ _ ⟨μ2,hn2,rfl,rfl⟩
   refine⟨rfl,?_⟩
   refine zzt ?_
   refine hK9 _ _ ?_
   refine zav hp (τ':=frL [(4,.d (iD (zc8 (mE2 e) gs ⟨1,x,0,0,0⟩).2))]) (H':=bH e (zc8 (mE2 e) gs ⟨1,x,0,0,0⟩).1 μ2) ?_ ?_
   ·refine js7 [0,1,2,3,4,5,6,7] ?_
    refine js8 ?_
    exact yjk
   refine zaj ?_
   refine zap (t:=4) rfl ?_
   show ∃_,_
   exact⟨μ2,by unfold zdx;rw[if_neg hlt,if_neg hin];exact hn2,by unfold zdx;rw[if_neg hlt,if_neg hin];rfl,by unfold zdx;rw[if_neg hlt,if_neg hin]⟩
theorem jk4{p q r:Prop}(e:r)(hq:q)(h:r→p=q:=by
 intro hY
 conv=>lhs;simp -dsimp -implicitDefEqProofs (disch:=first|assumption|omega|(simp only[r_z,zac,zab]<;>omega)|decide) only[r_r,↓reduceIte,Nat.reduceEqDiff,Nat.reduceAdd,D.fix,Int.reduceToNat,Nat.reduceMul,Nat.reduceBNe,Nat.reduceBEq,r_m,bH,bO,zar,qae,hY]):p:=(h e).mpr hq
theorem jk5(e:BE)(gs:Gs)(μ:Mp)(x y:Int)(h:BOk e gs μ)(hx:NdB (mE2 e) gs x)(hy:NdB (mE2 e) gs y):ScS prog [0,1,2,3,4,5,6,7] 155 [.op 0 0,.d (iD x),.d (iD y)] (bH e gs μ) (yl4 e gs μ (.tup [.d (iD (min x y)),.d (iD (max x y)),.d (oD (zod (mE2 e) gs x y))])):=by
 refine zbg (fn:=f155) (by kernel_rfl) func155 rfl (qaf rfl) fun c hc hp=>?_
 refine zf8 ?_
 refine szq (joj ·) ?_
 refine zaf hp zah hc rfl fun K2 hK2=>?_
 by_cases q:zig (mE2 e) gs x=y
 ·have q1:(zig (mE2 e) gs x==y)=true:=by simpa using q
  have ho:zod (mE2 e) gs x y=true:=by unfold zod;rw[decide_eq_true q];rfl
  refine jk4 q1 ?_
  refine ye5 (bH e gs μ) ([]) (zve e gs μ x h hx) ?_
  rintro _ _ ⟨_,rfl,rfl,rfl⟩
  refine⟨rfl,?_⟩
  refine jk4 q1 ?_
  refine hK2 _ _ ?_
  refine zav hp (τ':=frL [(6,.d (iD (min x y))),(7,.d (iD (max x y))),(8,.d (oD true))]) (H':=bH e gs μ) ?_ ?_
  ·refine js7 [0,1,2,3,4,5,6,7] ?_
   refine js8 ?_
   exact ye3
  refine zaj ?_
  try dsimp only[zcg,za5]
  refine zh3 rfl ?_
  refine zix ?_
  refine zix ?_
  refine zix ?_
  show ∃_,_
  exact⟨_,rfl,by rw[ho];rfl,rfl⟩
 ·have q1:(zig (mE2 e) gs x==y)=false:=by simpa using q
  have ho:zod (mE2 e) gs x y=(zig (mE2 e) gs y==x):=by unfold zod;rw[decide_eq_false q,Bool.false_or];cases hd:decide (zig (mE2 e) gs y=x)<;>simp_all
  refine jk4 q1 ?_
  refine ye5 (bH e gs μ) ([]) (zve e gs μ x h hx) ?_
  rintro _ _ ⟨_,rfl,rfl,rfl⟩
  refine⟨rfl,?_⟩
  refine jk4 q1 ?_
  refine ye5 (bH e gs μ) ([]) (zve e gs μ y h hy) ?_
  rintro _ _ ⟨_,rfl,rfl,rfl⟩
  refine⟨rfl,?_⟩
  refine jk4 q1 ?_
  refine hK2 _ _ ?_
  refine zav hp (τ':=frL [(6,.d (iD (min x y))),(7,.d (iD (max x y))),(8,.d (oD (zig (mE2 e) gs y==x)))]) (H':=bH e gs μ) ?_ ?_
  ·refine js7 [0,1,2,3,4,5,6,7] ?_
   refine js8 ?_
   exact ye3
  refine zaj ?_
  try dsimp only[zcg,za5]
  refine zh3 rfl ?_
  refine zix ?_
  refine zix ?_
  refine zix ?_
  show ∃_,_
  exact⟨_,rfl,by rw[ho];rfl,rfl⟩
end
theorem jk6(m:Nat)(gs:Gs)(x y:Int):zod m gs (min x y) (max x y)=zod m gs x y:=by
 rcases Int.le_total x y with h|h
 ·rw[Int.min_eq_left h,Int.max_eq_right h]
 ·rw[Int.min_eq_right h,Int.max_eq_left h];unfold zod;rw[Bool.or_comm]
theorem ye7(m:Nat)(gs:Gs)(x y:Int):zdn m gs x y=if min x y=0∨zod m gs x y=true then(gs,0)else if min x y=1∨min x y=max x y then(gs,max x y)else zc8 m gs ⟨2,min x y,max x y,0,0⟩:=by
 unfold zdn jue;rw[jk6]
theorem yjl(m:Nat)(gs:Gs)(x y:Int):orB m gs x y=if min x y=1∨zod m gs x y=true then(gs,1)else if min x y=0∨min x y=max x y then(gs,max x y)else zc8 m gs ⟨3,min x y,max x y,0,0⟩:=by
 unfold orB orS;rw[jk6]
theorem ye8(m:Nat)(gs:Gs)(x y:Int):zh0 m gs x y=if min x y=0 then(gs,max x y)else if min x y=1 then zdx m gs (max x y)else if min x y=max x y then(gs,0)else if zod m gs x y=true then(gs,1)else zc8 m gs ⟨4,min x y,max x y,0,0⟩:=by
 unfold zh0 juf;rw[jk6]
theorem zsq{a b:Int}(h:a=b):(a==b)=true:=by simpa using h
theorem zh8{a b:Int}(h:a≠b):(a==b)=false:=by simpa using h
theorem zma{p q:Prop}(hq:q)(h:p=q:=by
 conv=>lhs;simp -dsimp -implicitDefEqProofs (disch:=first|assumption|omega|(simp only[r_z,zac,zab]<;>omega)|decide) only[r_r,↓reduceIte,Nat.reduceEqDiff,Nat.reduceAdd,D.fix,Int.reduceToNat,Nat.reduceMul,Nat.reduceBNe,Nat.reduceBEq,r_m,bH,bO,zar,za3]):p:=h.mpr hq
theorem zj2{p q:Prop}(hq:q)(h:p=q:=by
 conv=>lhs;simp -dsimp -implicitDefEqProofs (disch:=first|assumption|omega|(simp only[r_z,zac,zab]<;>omega)|decide) only[r_r,↓reduceIte,Nat.reduceEqDiff,Nat.reduceAdd,D.fix,Int.reduceToNat,Nat.reduceMul,Nat.reduceBNe,Nat.reduceBEq,r_m,bH,bO,zar,za3,qae]):p:=h.mpr hq
theorem jv5{P:Program}{sm:List Nat}{N:Nat}{τ:Fr}{H:zad}{f:FuncId}{args:List AV}{K0 KK:AV→zad→Prop}{ks:List Nat}(S T:zad)(h:ScS P ks f args S K0)(hK:∀x S',K0 x S'→S'.length=S.length∧KK x (S'++T))(hH:H=S++T:=by
 rfl) (hm:sm.all (okI ks S.length)=true:=by
 first|rfl|(simp[AV.allIs,AV.allI,zas,zal,zam,okI,ltI,zae,zaz,bH,bO];done)|(intro o ho;simp at ho;done)) (hτ:∀t,(τ t).allI (okI ks S.length)=true:=by
 exact fun t=>zbi (by first|rfl|(simp[AV.allIs,AV.allI,zas,zal,zam,okI,ltI,zae,zaz,bH,bO];done)|(intro o ho;simp at ho;done)) t) (ha:AV.allIs (ltI S.length) args=true:=by
 first|rfl|(simp[AV.allIs,AV.allI,zas,zal,zam,okI,ltI,zae,zaz,bH,bO];done)|(intro o ho;simp at ho;done)) (hS:∀o∈S,o.allI (ltI S.length)=true:=by
 first|rfl|(simp[AV.allIs,AV.allI,zas,zal,zam,okI,ltI,zae,zaz,bH,bO];done)|(intro o ho;simp at ho;done)) (hT:∀o∈T,o.allI (okI ks S.length)=true:=by
 first|rfl|(simp[AV.allIs,AV.allI,zas,zal,zam,okI,ltI,zae,zaz,bH,bO];done)|(intro o ho;simp at ho;done)):kC P sm N H τ (.d (.val (.func (.func f) #[] #[]))) args true (tg KK):=zk7 h hH hm hτ ha hS hT hK
theorem zlh{p q r:Prop}(e:r)(hq:q)(h:r→p=q:=by
 intro hY
 conv=>lhs;simp -dsimp -implicitDefEqProofs (disch:=first|assumption|omega|(simp only[r_z,zac,zab]<;>omega)|decide) only[r_r,↓reduceIte,Nat.reduceEqDiff,Nat.reduceAdd,D.fix,Int.reduceToNat,Nat.reduceMul,Nat.reduceBNe,Nat.reduceBEq,r_m,bH,bO,zar,za3,qae,hY]):p:=(h e).mpr hq
theorem zzu(k:List Nat){m:List Nat}{τ τ1:Fr}{H H1:zad}(h:Rt m (fun t=>gcV k (τ t)) (gcH k H) τ1 H1)(a:∀i∈m,k[i]? =some i:=by decide)(b:k.Nodup:=by decide)(c:∀i∈k,i<H.length:=by
 simp[fzH,gcH]):Rt m τ H τ1 H1:=Rt.trans (Rt.gc a b c) h
theorem zzv{m:List Nat}{τ τ':Fr}{H H':zad}(h2:H=H')(h:zgk τ τ':=by
 repeat (first|exact zaq _|refine zak ?_ (by first|rfl|(simp[r_f,zac,zab];done)|simp[r_f,zac,zab, *]))):Rt m τ H τ' H':=Rt.end h h2
theorem zzw{p:Prop}(h:p:=by
 first|rfl|(simp only[r_g,Nat.reduceAdd,↓reduceIte,Nat.reduceEqDiff,r_m,bH,bO,zar,za3];first|done|rfl)):p:=h
theorem zj3(e:BE)(gs:Gs)(μ:Mp)(x y:Int)(h:BOk e gs μ)(hx:NdB (mE2 e) gs x)(hy:NdB (mE2 e) gs y):ScS prog [0,1,3,4,5,6,7] 95 [.op 0 0,.d (iD x),.d (iD y)] (bH e gs μ) (jog e (zdn (mE2 e) gs x y)):=by
 refine zbg (fn:=f95) (by kernel_rfl) func95 rfl (qaf rfl) fun c hc hp=>?_
 refine zf8 ?_
 have hd:=ye7 (mE2 e) gs x y
 have hX:=zm6 hx hy;have hY:=zm7 hx hy
 have hs:=jk5 e gs μ x y h hx hy
 obtain⟨X,eX⟩:∃X,X=min x y:=⟨_,rfl⟩
 obtain⟨Y,eY⟩:∃Y,Y=max x y:=⟨_,rfl⟩
 obtain⟨O,eO⟩:∃O,O=zod (mE2 e) gs x y:=⟨_,rfl⟩
 rw[←eX,←eY,←eO]at hs
 simp only[←eX,←eY,←eO]at hd
 rw[←eX]at hX
 rw[←eY]at hY
 have x0:=hX.1;have x1:=hX.2;have y0:=hY.1;have y1:=hY.2;have i1:=h.i;have l1:=h.l
 unfold mE2 at x1 y1
 refine szq (zma ·) ?_
 refine zaf hp zah hc rfl fun K2 hK2=>?_
 refine zj2 ?_
 refine jv5 (bH e gs μ) ([]) (hs) ?_
 rintro _ _ ⟨_,rfl,rfl,rfl⟩
 refine⟨rfl,?_⟩
 refine zj2 ?_
 refine hK2 _ _ ?_
 refine zaa fun K3 hK3=>?_
 refine zag ?_
 refine zaf hp zah hc rfl fun K4 hK4=>?_
 rcases(show X=0∨(X≠0∧O=true)∨(X≠0∧O=false∧X=1)∨(X≠0∧O=false∧X≠1∧X=Y)∨(X≠0∧O=false∧X≠1∧X≠Y) by cases O<;>simp<;>omega)with q|⟨q,o⟩|⟨q,o,r⟩|⟨q,o,r,s⟩|⟨q,o,r,s⟩
 ·have q1:=zsq q
  have o:=q1
  refine zlh (sza q1 o) ?_
  refine hK4 _ _ ?_
  refine szt ?_
  refine szq (zma ·) ?_
  refine zav hp (τ':=frL [(6,.d (iD 0))]) (H':=bH e gs μ) ?_ ?_
  ·refine zzu [0,1,2,3,4,5,6,7] ?_
   refine zzv ?_
   exact zzw
  refine zaj ?_
  refine zap (t:=6) rfl ?_
  show ∃_,_
  rw[hd,if_pos (.inl q)];exact⟨μ,h.n,rfl,rfl⟩
 ·have q1:=zh8 q
  refine zlh (sza q1 o) ?_
  refine hK4 _ _ ?_
  refine szt ?_
  refine szq (zma ·) ?_
  refine zav hp (τ':=frL [(6,.d (iD 0))]) (H':=bH e gs μ) ?_ ?_
  ·refine zzu [0,1,2,3,4,5,6,7] ?_
   refine zzv ?_
   exact zzw
  refine zaj ?_
  refine zap (t:=6) rfl ?_
  show ∃_,_
  rw[hd,if_pos (.inr o)];exact⟨μ,h.n,rfl,rfl⟩
 ·have q1:=zh8 q
  have q2:=zsq r
  have q3:=q2
  refine zlh (sza q1 o) ?_
  refine hK4 _ _ ?_
  refine szf ?_
  refine szq (zlh (sza q2 q3) ·) ?_
  refine szt ?_
  refine szq (zma ·) ?_
  refine zav hp (τ':=frL [(6,.d (iD Y))]) (H':=bH e gs μ) ?_ ?_
  ·refine zzu [0,1,2,3,4,5,6,7] ?_
   refine zzv ?_
   exact zzw
  refine zaj ?_
  refine zap (t:=6) rfl ?_
  show ∃_,_
  rw[hd,if_neg (by rw[o];simpa using q),if_pos (.inl r)];exact⟨μ,h.n,rfl,rfl⟩
 ·have q1:=zh8 q
  have q2:=zh8 r
  have q3:=zsq s
  refine zlh (sza q1 o) ?_
  refine hK4 _ _ ?_
  refine szf ?_
  refine szq (zlh (sza q2 q3) ·) ?_
  refine szt ?_
  refine szq (zma ·) ?_
  refine zav hp (τ':=frL [(6,.d (iD Y))]) (H':=bH e gs μ) ?_ ?_
  ·refine zzu [0,1,2,3,4,5,6,7] ?_
   refine zzv ?_
   exact zzw
  refine zaj ?_
  refine zap (t:=6) rfl ?_
  show ∃_,_
  rw[hd,if_neg (by rw[o];simpa using q),if_pos (.inr s)];exact⟨μ,h.n,rfl,rfl⟩
 ·have q1:=zh8 q
  have q2:=zh8 r
  have q3:=zh8 s
  refine zlh (sza q1 o) ?_
  refine hK4 _ _ ?_
  refine szf ?_
  refine szq (zlh (sza q2 q3) ·) ?_
  refine szf ?_
  refine zai (hK3 _ _ ?_)
  refine zaf hp zah hc rfl fun K12 hK12=>?_
  refine zj2 ?_
  refine jv5 (bH e gs μ) ([]) (zl9 e gs μ ⟨2,X,Y,0,0⟩ h.n (h.g64 (by decide) (by decide) hX hY h.z) h.i h.l) ?_
  rintro _ _ ⟨μ2,hn2,rfl,rfl⟩
  refine⟨rfl,?_⟩
  refine zj2 ?_
  refine hK12 _ _ ?_
  refine zav hp (τ':=frL [(6,.d (iD (zc8 (mE2 e) gs ⟨2,X,Y,0,0⟩).2))]) (H':=bH e (zc8 (mE2 e) gs ⟨2,X,Y,0,0⟩).1 μ2) ?_ ?_
  ·refine zzu [0,1,2,3,4,5,6,7] ?_
   refine zzv ?_
   exact zzw
  refine zaj ?_
  refine zap (t:=6) rfl ?_
  show ∃_,_
  rw[hd,if_neg (by rw[o];simpa using q),if_neg (fun hh=>by rcases hh with hh|hh;exact r hh;exact s hh)];exact⟨μ2,hn2,rfl,rfl⟩
theorem jk7(e:BE)(gs:Gs)(μ:Mp)(x y:Int)(h:BOk e gs μ)(hx:NdB (mE2 e) gs x)(hy:NdB (mE2 e) gs y):ScS prog [0,1,3,4,5,6,7] 141 [.op 0 0,.d (iD x),.d (iD y)] (bH e gs μ) (jog e (orB (mE2 e) gs x y)):=by
 refine zbg (fn:=f141) (by kernel_rfl) func141 rfl (qaf rfl) fun c hc hp=>?_
 refine zf8 ?_
 have hd:=yjl (mE2 e) gs x y
 have hX:=zm6 hx hy;have hY:=zm7 hx hy
 have hs:=jk5 e gs μ x y h hx hy
 obtain⟨X,eX⟩:∃X,X=min x y:=⟨_,rfl⟩
 obtain⟨Y,eY⟩:∃Y,Y=max x y:=⟨_,rfl⟩
 obtain⟨O,eO⟩:∃O,O=zod (mE2 e) gs x y:=⟨_,rfl⟩
 rw[←eX,←eY,←eO]at hs
 simp only[←eX,←eY,←eO]at hd
 rw[←eX]at hX
 rw[←eY]at hY
 have x0:=hX.1;have x1:=hX.2;have y0:=hY.1;have y1:=hY.2;have i1:=h.i;have l1:=h.l
 unfold mE2 at x1 y1
 refine szq (zma ·) ?_
 refine zaf hp zah hc rfl fun K2 hK2=>?_
 refine zj2 ?_
 refine jv5 (bH e gs μ) ([]) (hs) ?_
 rintro _ _ ⟨_,rfl,rfl,rfl⟩
 refine⟨rfl,?_⟩
 refine zj2 ?_
 refine hK2 _ _ ?_
 refine zaa fun K3 hK3=>?_
 refine zag ?_
 refine zaf hp zah hc rfl fun K4 hK4=>?_
 rcases(show X=1∨(X≠1∧O=true)∨(X≠1∧O=false∧X=0)∨(X≠1∧O=false∧X≠0∧X=Y)∨(X≠1∧O=false∧X≠0∧X≠Y) by cases O<;>simp<;>omega)with q|⟨q,o⟩|⟨q,o,r⟩|⟨q,o,r,s⟩|⟨q,o,r,s⟩
 ·have q1:=zsq q
  have o:=q1
  refine zlh (sza q1 o) ?_
  refine hK4 _ _ ?_
  refine szt ?_
  refine szq (zma ·) ?_
  refine zav hp (τ':=frL [(6,.d (iD 1))]) (H':=bH e gs μ) ?_ ?_
  ·refine zzu [0,1,2,3,4,5,6,7] ?_
   refine zzv ?_
   exact zzw
  refine zaj ?_
  refine zap (t:=6) rfl ?_
  show ∃_,_
  rw[hd,if_pos (.inl q)];exact⟨μ,h.n,rfl,rfl⟩
 ·have q1:=zh8 q
  refine zlh (sza q1 o) ?_
  refine hK4 _ _ ?_
  refine szt ?_
  refine szq (zma ·) ?_
  refine zav hp (τ':=frL [(6,.d (iD 1))]) (H':=bH e gs μ) ?_ ?_
  ·refine zzu [0,1,2,3,4,5,6,7] ?_
   refine zzv ?_
   exact zzw
  refine zaj ?_
  refine zap (t:=6) rfl ?_
  show ∃_,_
  rw[hd,if_pos (.inr o)];exact⟨μ,h.n,rfl,rfl⟩
 ·have q1:=zh8 q
  have q2:=zsq r
  have q3:=q2
  refine zlh (sza q1 o) ?_
  refine hK4 _ _ ?_
  refine szf ?_
  refine szq (zlh (sza q2 q3) ·) ?_
  refine szt ?_
  refine szq (zma ·) ?_
  refine zav hp (τ':=frL [(6,.d (iD Y))]) (H':=bH e gs μ) ?_ ?_
  ·refine zzu [0,1,2,3,4,5,6,7] ?_
   refine zzv ?_
   exact zzw
  refine zaj ?_
  refine zap (t:=6) rfl ?_
  show ∃_,_
  rw[hd,if_neg (by rw[o];simpa using q),if_pos (.inl r)];exact⟨μ,h.n,rfl,rfl⟩
 ·have q1:=zh8 q
  have q2:=zh8 r
  have q3:=zsq s
  refine zlh (sza q1 o) ?_
  refine hK4 _ _ ?_
  refine szf ?_
  refine szq (zlh (sza q2 q3) ·) ?_
  refine szt ?_
  refine szq (zma ·) ?_
  refine zav hp (τ':=frL [(6,.d (iD Y))]) (H':=bH e gs μ) ?_ ?_
  ·refine zzu [0,1,2,3,4,5,6,7] ?_
   refine zzv ?_
   exact zzw
  refine zaj ?_
  refine zap (t:=6) rfl ?_
  show ∃_,_
  rw[hd,if_neg (by rw[o];simpa using q),if_pos (.inr s)];exact⟨μ,h.n,rfl,rfl⟩
 ·have q1:=zh8 q
  have q2:=zh8 r
  have q3:=zh8 s
  refine zlh (sza q1 o) ?_
  refine hK4 _ _ ?_
  refine szf ?_
  refine szq (zlh (sza q2 q3) ·) ?_
  refine szf ?_
  refine zai (hK3 _ _ ?_)
  refine zaf hp zah hc rfl fun K12 hK12=>?_
  refine zj2 ?_
  refine jv5 (bH e gs μ) ([]) (zl9 e gs μ ⟨3,X,Y,0,0⟩ h.n (h.g64 (by decide) (by decide) hX hY h.z) h.i h.l) ?_
  rintro _ _ ⟨μ2,hn2,rfl,rfl⟩
  refine⟨rfl,?_⟩
  refine zj2 ?_
  refine hK12 _ _ ?_
  refine zav hp (τ':=frL [(6,.d (iD (zc8 (mE2 e) gs ⟨3,X,Y,0,0⟩).2))]) (H':=bH e (zc8 (mE2 e) gs ⟨3,X,Y,0,0⟩).1 μ2) ?_ ?_
  ·refine zzu [0,1,2,3,4,5,6,7] ?_
   refine zzv ?_
   exact zzw
  refine zaj ?_
  refine zap (t:=6) rfl ?_
  show ∃_,_
  rw[hd,if_neg (by rw[o];simpa using q),if_neg (fun hh=>by rcases hh with hh|hh;exact r hh;exact s hh)];exact⟨μ2,hn2,rfl,rfl⟩
theorem jei(e:BE)(gs:Gs)(μ:Mp)(x y:Int)(h:BOk e gs μ)(hx:NdB (mE2 e) gs x)(hy:NdB (mE2 e) gs y):ScS prog [0,1,3,4,5,6,7] 143 [.op 0 0,.d (iD x),.d (iD y)] (bH e gs μ) (jog e (zh0 (mE2 e) gs x y)):=by
 refine zbg (fn:=f143) (by kernel_rfl) func143 rfl (qaf rfl) fun c hc hp=>?_
 refine zf8 ?_
 have hd:=ye8 (mE2 e) gs x y
 have hX:=zm6 hx hy;have hY:=zm7 hx hy
 have hs:=jk5 e gs μ x y h hx hy
 obtain⟨X,eX⟩:∃X,X=min x y:=⟨_,rfl⟩
 obtain⟨Y,eY⟩:∃Y,Y=max x y:=⟨_,rfl⟩
 obtain⟨O,eO⟩:∃O,O=zod (mE2 e) gs x y:=⟨_,rfl⟩
 rw[←eX,←eY,←eO]at hs
 simp only[←eX,←eY,←eO]at hd
 rw[←eX]at hX
 rw[←eY]at hY
 have x0:=hX.1;have x1:=hX.2;have y0:=hY.1;have y1:=hY.2;have i1:=h.i;have l1:=h.l
 unfold mE2 at x1 y1
 refine szq (zma ·) ?_
 refine zaf hp zah hc rfl fun K2 hK2=>?_
 refine zj2 ?_
 refine jv5 (bH e gs μ) ([]) (hs) ?_
 rintro _ _ ⟨_,rfl,rfl,rfl⟩
 refine⟨rfl,?_⟩
 refine zj2 ?_
 refine hK2 _ _ ?_
 refine zaa fun K3 hK3=>?_
 refine zag ?_
 refine szq (zj2 ·) ?_
 refine zan rfl (fun ht=>?_) (fun ht=>?_)
 ·have q:X=0:=by simpa using ht
  refine szq (zma ·) ?_
  refine zav hp (τ':=frL [(6,.d (iD Y))]) (H':=bH e gs μ) ?_ ?_
  ·refine zzu [0,1,2,3,4,5,6,7] ?_
   refine zzv ?_
   exact zzw
  refine zaj ?_
  refine zap (t:=6) rfl ?_
  show ∃_,_
  rw[hd,if_pos q];exact⟨μ,h.n,rfl,rfl⟩
 ·have q:X≠0:=by simpa using ht
  refine szq (zj2 ·) ?_
  refine zan rfl (fun ht=>?_) (fun ht=>?_)
  ·have r:X=1:=by simpa using ht
   refine zaf hp zah hc rfl fun K7 hK7=>?_
   refine zj2 ?_
   refine jv5 (bH e gs μ) ([]) (zpf e gs μ Y h hY) ?_
   rintro _ _ ⟨μ1,hn1,rfl,rfl⟩
   refine⟨rfl,?_⟩
   refine zj2 ?_
   refine hK7 _ _ ?_
   refine zav hp (τ':=frL [(6,.d (iD (zdx (mE2 e) gs Y).2))]) (H':=bH e (zdx (mE2 e) gs Y).1 μ1) ?_ ?_
   ·refine zzu [0,1,2,3,4,5,6,7] ?_
    refine zzv ?_
    exact zzw
   refine zaj ?_
   refine zap (t:=6) rfl ?_
   show ∃_,_
   rw[hd,if_neg q,if_pos r];exact⟨μ1,hn1,rfl,rfl⟩
  ·have r:X≠1:=by simpa using ht
   refine szq (zj2 ·) ?_
   refine zan rfl (fun ht=>?_) (fun ht=>?_)
   ·have s:X=Y:=by simpa using ht
    refine szq (zma ·) ?_
    refine zav hp (τ':=frL [(6,.d (iD 0))]) (H':=bH e gs μ) ?_ ?_
    ·refine zzu [0,1,2,3,4,5,6,7] ?_
     refine zzv ?_
     exact zzw
    refine zaj ?_
    refine zap (t:=6) rfl ?_
    show ∃_,_
    rw[hd,if_neg q,if_neg r,if_pos s];exact⟨μ,h.n,rfl,rfl⟩
   ·have s:X≠Y:=by simpa using ht
    refine szq (zma ·) ?_
    refine zan rfl (fun ht=>?_) (fun ht=>?_)
    ·have o:O=true:=by simpa using ht
     refine szq (zma ·) ?_
     refine zav hp (τ':=frL [(6,.d (iD 1))]) (H':=bH e gs μ) ?_ ?_
     ·refine zzu [0,1,2,3,4,5,6,7] ?_
      refine zzv ?_
      exact zzw
     refine zaj ?_
     refine zap (t:=6) rfl ?_
     show ∃_,_
     rw[hd,if_neg q,if_neg r,if_neg s,if_pos o];exact⟨μ,h.n,rfl,rfl⟩
    ·have o:¬O=true:=by simpa using ht
     refine zai (hK3 _ _ ?_)
     refine zaf hp zah hc rfl fun K12 hK12=>?_
     refine zj2 ?_
     refine jv5 (bH e gs μ) ([]) (zl9 e gs μ ⟨4,X,Y,0,0⟩ h.n (h.g64 (by decide) (by decide) hX hY h.z) h.i h.l) ?_
     rintro _ _ ⟨μ2,hn2,rfl,rfl⟩
     refine⟨rfl,?_⟩
     refine zj2 ?_
     refine hK12 _ _ ?_
     refine zav hp (τ':=frL [(6,.d (iD (zc8 (mE2 e) gs ⟨4,X,Y,0,0⟩).2))]) (H':=bH e (zc8 (mE2 e) gs ⟨4,X,Y,0,0⟩).1 μ2) ?_ ?_
     ·refine zzu [0,1,2,3,4,5,6,7] ?_
      refine zzv ?_
      exact zzw
     refine zaj ?_
     refine zap (t:=6) rfl ?_
     show ∃_,_
     rw[hd,if_neg q,if_neg r,if_neg s,if_neg o];exact⟨μ2,hn2,rfl,rfl⟩
end Go.Proofs.YtapjobndmmkanaaGreat
