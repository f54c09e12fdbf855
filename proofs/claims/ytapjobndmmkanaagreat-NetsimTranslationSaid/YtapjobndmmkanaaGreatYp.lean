/- netlist's builder: input wires, outputs. -/
import Derived.Test.YtapjobndmmkanaaGreatQr
import Derived.Test.YtapjobndmmkanaaGreatYd
import Derived.Test.YtapjobndmmkanaaGreatPl
set_option linter.unusedVariables false
set_option linter.unusedSimpArgs false
set_option maxRecDepth 100000
set_option maxHeartbeats 4000000
namespace Go.Proofs.YtapjobndmmkanaaGreat
open Go.Proofs.Tryz
open Go Go.RowKit
theorem zr3{a b c:Int}:Value.agg #[.int .i64 a,.int .i64 b,.int .i64 c]=wV ⟨a,b,c⟩:=rfl
def WiK(e:BE)(gs:Gs)(μ:Mp)(ins:List Wire)(x:AV)(S':zad):Prop:=∃mi,InM ins mi∧x= .tup []∧S'=bH ⟨e.p,ins,mi,e.out,e.dr,e.dat⟩ gs μ
theorem zoo{kind i:Int}{n:Nat}{w:Wire}(h:w∈zcr kind i n):w.kind=kind∧w.i=i∧∃k:Nat,k<n∧w.bit=k:=by
 obtain⟨k,hk,rfl⟩:=qat.1 h
 exact⟨rfl,rfl,k,qaq.1 hk,rfl⟩
theorem yf1{p q:Prop}(hq:q)(h:p=q:=by
 conv=>lhs;simp -dsimp -implicitDefEqProofs (disch:=first|assumption|omega|(simp only[r_z,zac,zab,zb3]<;>omega)|decide) only[r_r,↓reduceIte,Nat.reduceEqDiff,Nat.reduceAdd,D.fix,Int.reduceToNat,Nat.reduceMul,Nat.reduceBNe,Nat.reduceBEq,r_m,bH,bO,zar,za3,zcp]):p:=h.mpr hq
theorem ymc{m:List Nat}{τ τ':Fr}{H H':zad}(h2:H=H')(h:zgk τ τ':=by
 repeat (first|exact zaq _|refine zak ?_ (by first|rfl|(simp[r_f,zac,zab,zb3];done)|simp[r_f,zac,zab,zb3, *]))):Rt m τ H τ' H':=Rt.end h h2
theorem jws{p q:Prop}(hq:q)(h:p=q:=by
 conv=>lhs;simp -dsimp -implicitDefEqProofs (disch:=first|assumption|omega|(simp only[r_z,zac,zab,zb3]<;>omega)|decide) only[r_r,↓reduceIte,Nat.reduceEqDiff,Nat.reduceAdd,D.fix,Int.reduceToNat,Nat.reduceMul,Nat.reduceBNe,Nat.reduceBEq,r_m,bH,bO,zar,za3,zcp,qae]):p:=h.mpr hq
theorem yj7{p q:Prop}(hq:q)(h:p=q:=by
 conv=>lhs;simp only[r_g,Nat.reduceAdd,↓reduceIte,Nat.reduceEqDiff,r_m,bH,bO,zar,za3,zcp]):p:=h.mpr hq
theorem zqt(e:BE)(gs:Gs)(μ:Mp)(kind i:Int)(w:Nat)(hm:InM e.ins e.mi)(hnew:∀k:Nat,¬(⟨kind,i,(k:Int)⟩:Wire)∈e.ins)(k0:0≤kind)(k1:kind≤100)(i0:0≤i)(i1:i≤1000)(hl:e.ins.length+w≤100000):ScS prog [0,2,3,4,5,6,7] 137 [.op 0 0,.d (iD kind),.d (iD i),.d (iD w)] (bH e gs μ) (WiK e gs μ (e.ins++zcr kind i w)):=by
 refine zbg (fn:=f137) (by kernel_rfl) func137 rfl (qaf rfl) fun c hc hp=>?_
 refine zl1 ?_
 refine zqr hp ?_
 refine szq (yf1 ·) ?_
 refine zag ?_
 refine zao hp (fun τ' H' mm=>∃(k:Nat) (mi:Mp),(k≤w∧InM (e.ins++zcr kind i k) mi)∧mm=w - k∧H'=bH ⟨e.p,e.ins++zcr kind i k,mi,e.out,e.dr,e.dat⟩ gs μ∧τ'=frL [(0,.op 0 0),(1,.d (iD kind)),(2,.d (iD i)),(10,.d (iD w)),(11,.d (iD k))]) (w) ?_ ⟨0,e.mi,⟨qap _,by simpa[zcr]using hm⟩,rfl,rfl,rfl⟩ ?_
 ·refine ymc ?_
  refine yj7 ?_;simp[bH,bO,zcr]
 rintro τ' H' mm ⟨k,mi,⟨hk,hm1⟩,rfl,rfl,rfl⟩
 refine szq (jws ·) ?_
 refine zaa fun K3 hK3=>?_
 refine zan rfl (fun ht=>?_) (fun ht=>?_)
 ·have hlt:k<w:=by simp at ht;omega
  have hlk:(e.ins++zcr kind i k).length=e.ins.length+k:=by rw[List.length_append,zb3]
  have hkey:zk8 prog tWm (wV ⟨kind,i,(k:Int)⟩):=zw4 (a:=kind) (b:=i) (c:=(k:Int)) (zh2 (by omega) (by omega)) (zh2 (by omega) (by omega)) (zh2 (by omega) (by omega))
  have hno:¬(⟨kind,i,(k:Int)⟩:Wire)∈e.ins++zcr kind i k:=fun hh=>by
   rcases qas.1 hh with hh|hh
   ·exact hnew k hh
   ·obtain⟨_,_,j,hj,he⟩:=zoo hh
    simp only at he;omega
  have hadd:=hm1.add hkey hno
  have hws:e.ins++zcr kind i (k+1)=(e.ins++zcr kind i k)++[⟨kind,i,(k:Int)⟩]:=by rw[zk3,List.append_assoc]
  rw[←hws]at hadd
  have hcv:((2+(e.ins++zcr kind i k).length:Nat):Int)=2+(e.ins++zcr kind i k).length:=by omega
  rw[hcv]at hadd
  generalize hI:e.ins++zcr kind i k=I at *
  refine zai (hK3 _ _ ?_)
  refine zaa fun K4 hK4=>?_
  refine zag ?_
  refine szq (yf1 ·) ?_
  refine szq (jws ·) ?_
  refine zbc zah hp hc mixed rfl [(0,[]),(1,[]),(2,[]),(3,[]),(4,[]),(5,[]),(6,[]),(7,[]),(8,[]),(9,[]),(10,[]),(11,[]),(12,[])] [[],[0],[0,1],[0,1,2],[],[],[5],[5,6],[5,6,7],[5,6,7,8],[5,6,7,8,9],[5,6,7,8,9,10],[0,1,2,3,4,5,6,7,8,9,10,11]] 0 (by kernel_rfl) fun K7 hK7=>?_
  simp -dsimp -implicitDefEqProofs (disch:=first|assumption|omega|(simp only[r_z,zac,zab,zb3]<;>omega)|decide) only[r_r,↓reduceIte,Nat.reduceEqDiff,Nat.reduceAdd,D.fix,Int.reduceToNat,Nat.reduceMul,Nat.reduceBNe,Nat.reduceBEq,r_w,r_m,bH,bO,zar,za3,zcp,zr3,je6 yg7 hkey hm1.ok,qae]
  refine hK7 _ _ ?_
  refine zmu zah hp hc mixed rfl [(0,[]),(1,[]),(2,[]),(3,[]),(4,[]),(5,[]),(6,[]),(7,[]),(8,[]),(9,[]),(10,[]),(11,[]),(12,[])] [[],[],[1],[1,2],[1,2,3],[1,2,3,4],[],[6],[1,2,3,4,5,6,7],[0,1,2,3,4,5,6,7,8],[0,1,2,3,4,5,6,7,8,9],[0,1,2,3,4,5,6,7,8,9,10],[0,1,2,3,4,5,6,7,8,9,10,11]] 1 (by kernel_rfl) fun K8 hK8=>?_
  simp -dsimp -implicitDefEqProofs (disch:=first|assumption|omega|(simp only[r_z,zac,zab,zb3]<;>omega)|decide) only[r_r,↓reduceIte,Nat.reduceEqDiff,Nat.reduceAdd,D.fix,Int.reduceToNat,Nat.reduceMul,Nat.reduceBNe,Nat.reduceBEq,r_w,r_m,bH,bO,zar,za3,zcp,qae]
  refine hK8 _ _ (hK4 _ _ ?_)
  refine za1 hp zah hc rfl fun K9 hK9=>?_
  refine jws ?_
  refine hK9 _ _ ⟨_,_,_,?_,⟨k+1,_,⟨by omega,hadd⟩,rfl,rfl,rfl⟩,?_⟩
  ·first|omega|(simp only[List.length_cons];omega)|(dsimp only;omega)
  ·refine Rt.trans (Rt.gc (keep:=[0,10,2,3,4,5,6,7]) (by decide) (by decide) (by simp[fzH,gcH])) ?_
   refine ymc ?_
   refine yj7 ?_;rw[hws];simp[bH,bO,zar,zcp,avs,iD]
 ·have hkk:k=w:=by simp at ht;omega
  refine zau ?_
  try dsimp only[zcg,za5]
  refine⟨frL [],bH ⟨e.p,e.ins++zcr kind i k,mi,e.out,e.dr,e.dat⟩ gs μ,?_,?_⟩
  ·refine Rt.trans (Rt.gc (keep:=[0,1,2,3,4,5,6,7]) (by decide) (by decide) (by simp[fzH,gcH])) ?_
   refine Rt.end (zaq _) ?_
   first|rfl|(simp only[r_g,Nat.reduceAdd,↓reduceIte,Nat.reduceEqDiff,r_m,bH,bO,zar,za3,zcp];first|done|rfl)
  refine zno rfl ?_
  show ∃_,_
  subst hkk;exact⟨mi,hm1,rfl,rfl⟩
def DrK(e:BE)(gs:Gs)(μ:Mp)(w:Wire)(n:Int)(x:AV)(S':zad):Prop:=∃z:Unit,x= .tup []∧S'=bH ⟨e.p,e.ins,e.mi,e.out++[w],e.dr++[n],e.dat⟩ gs μ
theorem yf2{p q:Prop}(hq:q)(h:p=q:=by
 conv=>lhs;simp -dsimp -implicitDefEqProofs (disch:=first|assumption|omega|(simp only[r_z,zac,zab]<;>omega)|decide) only[r_r,↓reduceIte,Nat.reduceEqDiff,Nat.reduceAdd,D.fix,Int.reduceToNat,Nat.reduceMul,Nat.reduceBNe,Nat.reduceBEq,r_m,bH,bO,zar,za3,zcp,qae]):p:=h.mpr hq
theorem ziq(e:BE)(gs:Gs)(μ:Mp)(kind i b n:Int)(ho:e.out.length≤100000)(hd:e.dr.length≤100000):ScS prog [0,1,2,5,6,7] 93 [.op 0 0,.d (iD kind),.d (iD i),.d (iD b),.d (iD n)] (bH e gs μ) (DrK e gs μ ⟨kind,i,b⟩ n):=by
 refine zbg (fn:=f93) (by kernel_rfl) func93 rfl (qaf rfl) fun c hc hp=>?_
 refine zn1 ?_
 refine zqr hp ?_
 refine szq (yf2 ·) ?_
 refine szs (yf2 ·) ?_
 try dsimp only[zcg,za5]
 refine⟨frL [],bH ⟨e.p,e.ins,e.mi,e.out++[⟨kind,i,b⟩],e.dr++[n],e.dat⟩ gs μ,?_,?_⟩
 ·refine Rt.trans (Rt.gc (keep:=[0,1,2,9,11,5,6,7]) (by decide) (by decide) (by simp[fzH,gcH])) ?_
  refine Rt.end (zaq _) ?_
  refine yj7 ?_;simp[bH,bO,zar,zcp,avs,iD]
 refine zno rfl ?_
 show ∃_,_
 exact⟨(),rfl,rfl⟩
theorem yj9{p:Pr}:∀{n:Nat} {w:Wire},w∈zns p n→w.kind=1∧w.i<n
  |0,w,h=>by simp[zns]at h
  |n+1,w,h=>by
    rw[zns]at h
    rcases qas.1 h with h|h
    · have:=yj9 h;exact⟨this.1,by omega⟩
    · have:=zoo h;exact⟨this.1,by rw[this.2.1];omega⟩
theorem yhf{p:Pr}:∀{n:Nat} {w:Wire},w∈zlg p n→w.kind=1∨((w.kind=2∨w.kind=3)∧w.i<n)
  |0,w,h=>.inl (yj9 h).1
  |n+1,w,h=>by
    rw[zlg]at h
    rcases qas.1 h with h|h
    · rcases qas.1 h with h|h
      · rcases yhf h with h|h
        · exact .inl h
        · exact .inr ⟨h.1,by omega⟩
      · have:=zoo h;exact .inr ⟨.inl this.1,by rw[this.2.1];omega⟩
    · have:=zoo h;exact .inr ⟨.inr this.1,by rw[this.2.1];omega⟩
theorem ymd{p:Pr}:∀{n:Nat} {w:Wire},w∈zpa p n→w.kind≤3∨(w.kind=4∧w.i<n)
  |0,w,h=>by
    rcases yhf h with h|h
    · left;omega
    · left;have:=h.1;omega
  |n+1,w,h=>by
    rw[zpa]at h
    rcases qas.1 h with h|h
    · rcases ymd h with h|h
      · exact .inl h
      · exact .inr ⟨h.1,by omega⟩
    · have:=zoo h;exact .inr ⟨this.1,by rw[this.2.1];omega⟩
theorem yka{p:Pr}:∀{n:Nat},(zns p n).length≤(zns p (n+1)).length:=by intro n;rw[zns];simp
theorem jlk{p:Pr}:∀{k n:Nat},k≤n→(zns p k).length≤(zns p n).length
  | k, 0, h => by have : k = 0 := by omega
                  subst this;exact qao _
  |k,n+1,h=>by
    by_cases e:k=n+1
    · subst e;exact qao _
    · exact Nat.le_trans (jlk (n:=n) (by omega)) yka
theorem zz1{p:Pr}:∀{k n:Nat},k≤n→(zlg p k).length≤(zlg p n).length
  | k, 0, h => by have : k = 0 := by omega
                  subst this;exact qao _
  |k,n+1,h=>by
    by_cases e:k=n+1
    · subst e;exact qao _
    · refine Nat.le_trans (zz1 (n:=n) (by omega)) ?_
      rw[zlg];simp only[List.length_append];omega
theorem zz2{p:Pr}:∀{k n:Nat},k≤n→(zpa p k).length≤(zpa p n).length
  | k, 0, h => by have : k = 0 := by omega
                  subst this;exact qao _
  |k,n+1,h=>by
    by_cases e:k=n+1
    · subst e;exact qao _
    · refine Nat.le_trans (zz2 (n:=n) (by omega)) ?_
      rw[zpa];simp only[List.length_append];omega
def InK(p:Pr)(gs:Gs)(μ:Mp)(out:List Wire)(dr:List Int)(dat:List (List Int))(x:AV)(S':zad):Prop:=∃mi,InM (zh9 p) mi∧x= .tup []∧S'=bH ⟨p,zh9 p,mi,out,dr,dat⟩ gs μ
theorem zir{p q:Prop}(hq:q)(h:p=q:=by
  conv=>lhs;simp -dsimp -implicitDefEqProofs (disch:=first|assumption|omega|(simp only[r_z,zac,zab,zb3,zbt,zbr,zbs]<;>omega)|decide) only[r_r,↓reduceIte,Nat.reduceEqDiff,Nat.reduceAdd,D.fix,Int.reduceToNat,Nat.reduceMul,Nat.reduceBNe,Nat.reduceBEq,r_m,bH,bO,zar,za3,zda,zdm,zpz,zsb,prS,ptS,nS,sD,qae]):p:=h.mpr hq
theorem jx1{m:List Nat}{τ τ':Fr}{H H':zad}(h2:H=H')(h:zgk τ τ':=by
  repeat (first|exact zaq _|refine zak ?_ (by first|rfl|(simp[r_f,zac,zab,zb3,zbt,zbr,zbs];done)|simp[r_f,zac,zab,zb3,zbt,zbr,zbs, *]))):Rt m τ H τ' H':=Rt.end h h2
theorem yhg{P:Program}{sm:List Nat}{N:Nat}{τ:Fr}{H:zad}{f:FuncId}{args:List AV}{K0 KK:AV→zad→Prop}{ks:List Nat}(S T:zad)(h:ScS P ks f args S K0)(hK:∀x S',K0 x S'→S'.length=S.length∧KK x (S'++T))(hH:H=S++T:=by
  rfl) (hm:sm.all (okI ks S.length)=true:=by
  first|rfl|(simp[AV.allIs,AV.allI,zas,zal,zam,okI,ltI,zae,zaz,bH,bO,prS,ptS];done)|(intro o ho;simp at ho;done)) (hτ:∀t,(τ t).allI (okI ks S.length)=true:=by
  exact fun t=>zbi (by first|rfl|(simp[AV.allIs,AV.allI,zas,zal,zam,okI,ltI,zae,zaz,bH,bO,prS,ptS];done)|(intro o ho;simp at ho;done)) t) (ha:AV.allIs (ltI S.length) args=true:=by
  first|rfl|(simp[AV.allIs,AV.allI,zas,zal,zam,okI,ltI,zae,zaz,bH,bO,prS,ptS];done)|(intro o ho;simp at ho;done)) (hS:∀o∈S,o.allI (ltI S.length)=true:=by
  first|rfl|(simp[AV.allIs,AV.allI,zas,zal,zam,okI,ltI,zae,zaz,bH,bO,prS,ptS];done)|(intro o ho;simp at ho;done)) (hT:∀o∈T,o.allI (okI ks S.length)=true:=by
  first|rfl|(simp[AV.allIs,AV.allI,zas,zal,zam,okI,ltI,zae,zaz,bH,bO,prS,ptS];done)|(intro o ho;simp at ho;done)):kC P sm N H τ (.d (.val (.func (.func f) #[] #[]))) args true (tg KK):=zk7 h hH hm hτ ha hS hT hK
theorem yhh(k:List Nat){m:List Nat}{τ τ1:Fr}{H H1:zad}(h:Rt m (fun t=>gcV k (τ t)) (gcH k H) τ1 H1)(a:∀i∈m,k[i]? =some i:=by decide)(b:k.Nodup:=by decide)(c:∀i∈k,i<H.length:=by
  simp[fzH,gcH]):Rt m τ H τ1 H1:=Rt.trans (Rt.gc a b c) h
theorem jwt{p q:Prop}(hq:q)(h:p=q:=by
  conv=>lhs;simp only[r_g,Nat.reduceAdd,↓reduceIte,Nat.reduceEqDiff,r_m,bH,bO,zar,za3,zda,zdm,zpz,zsb,prS,ptS,nS,sD]):p:=h.mpr hq
theorem jll(p:Pr)(gs:Gs)(μ:Mp)(out:List Wire)(dr:List Int)(dat:List (List Int))(hil:(zh9 p).length≤1000)(hr:p.regs.length≤100)(htk:p.takes.length≤100)(hq:p.puts.length≤100):ScS prog [0,2,3,4,5,6,7] 90 [.op 0 0] (bH ⟨p,[],([],0),out,dr,dat⟩ gs μ) (InK p gs μ out dr dat):=by
  refine zbg (fn:=f90) (by kernel_rfl) func90 rfl (qaf rfl) fun c hc hp=>?_
  refine zrg ?_
  refine zqr hp ?_
  have hq0:=zz2 (p:=p) (qap p.puts.length)
  have ht0:=zz1 (p:=p) (qap p.takes.length)
  rw[zpa]at hq0
  rw[zlg]at ht0
  unfold zh9 at hil
  refine zaa fun K1 hK1=>?_
  refine szq (zir ·) ?_
  refine zag ?_
  refine zao hp (fun τ' H' mm=>∃(k:Nat) (mi:Mp),(k≤p.regs.length∧InM (zns p k) mi)∧mm=p.regs.length - k∧H'=bH ⟨p,zns p k,mi,out,dr,dat⟩ gs μ∧τ'=frL [(0,.op 0 0),(11,.d (.fs (p.regs.flatMap prC) p.regs.length)),(12,.d (iD p.regs.length)),(13,.d (iD k))]) (p.regs.length) ?_ ⟨0,([],0),⟨qap _,InM.nil⟩,rfl,rfl,rfl⟩ ?_
  · refine jx1 ?_
    refine jwt ?_;simp[bH,bO,zns,zar]
  rintro τ' H' mm ⟨k,mi,⟨hk,hm1⟩,rfl,rfl,rfl⟩
  refine szq (zir ·) ?_
  refine zaa fun K4 hK4=>?_
  refine zan rfl (fun ht=>?_) (fun ht=>?_)
  · have hlt:k<p.regs.length:=by simp at ht;omega
    have hmo:=jlk (p:=p) (show k+1≤p.regs.length by omega)
    have hsu:zns p (k+1)=zns p k++zcr 1 k (nth p.regs k).w:=rfl
    have hsl:(zns p (k+1)).length=(zns p k).length+(nth p.regs k).w:=by rw[hsu,List.length_append,zb3]
    refine zai (hK4 _ _ ?_)
    refine zaa fun K5 hK5=>?_
    refine zag ?_
    refine szq (zir ·) ?_
    refine za1 hp zah hc rfl fun K7 hK7=>?_
    refine zir ?_
    refine yhg (bH ⟨p,zns p k,mi,out,dr,dat⟩ gs μ) ([.cells (avs (prS (nth p.regs k)))]) (zqt ⟨p,zns p k,mi,out,dr,dat⟩ gs μ 1 k (nth p.regs k).w hm1 (fun j hh=>by have:=(yj9 hh).2;simp only at this;omega) (by omega) (by omega) (by omega) (by omega) (by simp only;omega)) ?_
    rintro _ _ ⟨mi2,hm2,rfl,rfl⟩
    refine⟨rfl,?_⟩
    refine zir ?_
    refine hK7 _ _ (hK5 _ _ ?_)
    refine za1 hp zah hc rfl fun K8 hK8=>?_
    refine zir ?_
    refine hK8 _ _ ⟨_,_,_,?_,⟨k+1,mi2,⟨by omega,by rw[hsu];exact hm2⟩,rfl,rfl,rfl⟩,?_⟩
    · first|omega|(simp only[List.length_cons];omega)|(dsimp only;omega)
    · refine yhh [0,1,2,3,4,5,6,7] ?_
      refine jx1 ?_
      refine jwt ?_;rw[hsu]
  · have hkk:k=p.regs.length:=by simp at ht;omega
    subst hkk
    refine zau (hK1 _ _ ?_)
    refine zaa fun K9 hK9=>?_
    refine szq (zir ·) ?_
    refine zag ?_
    refine zao hp (fun τ' H' mm=>∃(k:Nat) (mi:Mp),(k≤p.takes.length∧InM (zlg p k) mi)∧mm=p.takes.length - k∧H'=bH ⟨p,zlg p k,mi,out,dr,dat⟩ gs μ∧τ'=frL [(0,.op 0 0),(28,.d (.fs (p.takes.flatMap ptC) p.takes.length)),(29,.d (iD p.takes.length)),(30,.d (iD k))]) (p.takes.length) ?_ ⟨0,mi,⟨qap _,hm1⟩,rfl,rfl,rfl⟩ ?_
    · refine jx1 ?_
      refine jwt ?_;simp[bH,bO,zlg,zar]
    rintro τ' H' mm ⟨k,mi,⟨hk2,hm3⟩,rfl,rfl,rfl⟩
    refine szq (zir ·) ?_
    refine zaa fun K12 hK12=>?_
    refine zan rfl (fun ht=>?_) (fun ht=>?_)
    · have hlt:k<p.takes.length:=by simp at ht;omega
      have hmo:=zz1 (p:=p) (show k+1≤p.takes.length by omega)
      have hsu:zlg p (k+1)=(zlg p k++zcr 2 k (nth p.takes k).w)++zcr 3 k 1:=rfl
      have hsl:(zlg p (k+1)).length=(zlg p k).length+(nth p.takes k).w+1:=by rw[hsu,List.length_append,List.length_append,zb3,zb3]
      have hsl2:(zlg p k++zcr 2 k (nth p.takes k).w).length=(zlg p k).length+(nth p.takes k).w:=by rw[List.length_append,zb3]
      refine zai (hK12 _ _ ?_)
      refine zaa fun K13 hK13=>?_
      refine zag ?_
      refine szq (zir ·) ?_
      refine zaf hp zah hc rfl fun K15 hK15=>?_
      refine zir ?_
      refine yhg (bH ⟨p,zlg p k,mi,out,dr,dat⟩ gs μ) ([.cells (avs (ptS (nth p.takes k)))]) (zqt ⟨p,zlg p k,mi,out,dr,dat⟩ gs μ 2 k (nth p.takes k).w hm3 (fun j hh=>by have:=yhf hh;simp only at this;omega) (by omega) (by omega) (by omega) (by omega) (by simp only;omega)) ?_
      rintro _ _ ⟨mi2,hm4,rfl,rfl⟩
      refine⟨rfl,?_⟩
      refine zir ?_
      refine hK15 _ _ ?_
      refine za1 hp zah hc rfl fun K16 hK16=>?_
      refine zir ?_
      refine yhg (bH ⟨p,zlg p k++zcr 2 k (nth p.takes k).w,mi2,out,dr,dat⟩ gs μ) ([.cells (avs (ptS (nth p.takes k)))]) (zqt ⟨p,zlg p k++zcr 2 k (nth p.takes k).w,mi2,out,dr,dat⟩ gs μ 3 k 1 hm4 (fun j hh=>by rcases qas.1 hh with hh|hh;(have:=yhf hh;simp only at this;omega);(have:=(zoo hh).1;simp only at this;omega)) (by omega) (by omega) (by omega) (by omega) (by simp only;omega)) ?_
      rintro _ _ ⟨mi3,hm5,rfl,rfl⟩
      refine⟨rfl,?_⟩
      refine zir ?_
      refine hK16 _ _ (hK13 _ _ ?_)
      refine za1 hp zah hc rfl fun K17 hK17=>?_
      refine zir ?_
      refine hK17 _ _ ⟨_,_,_,?_,⟨k+1,mi3,⟨by omega,by rw[hsu];exact hm5⟩,rfl,rfl,rfl⟩,?_⟩
      · first|omega|(simp only[List.length_cons];omega)|(dsimp only;omega)
      · refine yhh [0,1,2,3,4,5,6,7] ?_
        refine jx1 ?_
        refine jwt ?_;rw[hsu]
    · have hkk:k=p.takes.length:=by simp at ht;omega
      subst hkk
      refine zau (hK9 _ _ ?_)
      refine szq (zir ·) ?_
      refine zag ?_
      refine zao hp (fun τ' H' mm=>∃(k:Nat) (mi:Mp),(k≤p.puts.length∧InM (zpa p k) mi)∧mm=p.puts.length - k∧H'=bH ⟨p,zpa p k,mi,out,dr,dat⟩ gs μ∧τ'=frL [(0,.op 0 0),(49,.d (iD p.puts.length)),(50,.d (iD k))]) (p.puts.length) ?_ ⟨0,mi,⟨qap _,hm3⟩,rfl,rfl,rfl⟩ ?_
      · refine jx1 ?_
        refine jwt ?_;simp[bH,bO,zpa,zar]
      rintro τ' H' mm ⟨k,mi,⟨hk3,hm6⟩,rfl,rfl,rfl⟩
      refine szq (zir ·) ?_
      refine zaa fun K20 hK20=>?_
      refine zan rfl (fun ht=>?_) (fun ht=>?_)
      · have hlt:k<p.puts.length:=by simp at ht;omega
        have hmo:=zz2 (p:=p) (show k+1≤p.puts.length by omega)
        have hsu:zpa p (k+1)=zpa p k++zcr 4 k 1:=rfl
        have hsl:(zpa p (k+1)).length=(zpa p k).length+1:=by rw[hsu,List.length_append,zb3]
        refine zai (hK20 _ _ ?_)
        refine zaa fun K21 hK21=>?_
        refine zag ?_
        refine zaf hp zah hc rfl fun K22 hK22=>?_
        simp -dsimp -implicitDefEqProofs (disch:=first|assumption|omega|(simp only[r_z,zac,zab,zb3,zbt,zbr,zbs]<;>omega)|decide) only[r_r,↓reduceIte,Nat.reduceEqDiff,Nat.reduceAdd,D.fix,Int.reduceToNat,Nat.reduceMul,Nat.reduceBNe,Nat.reduceBEq,r_m,bH,bO,zar,za3,zda,zdm,zpz,zsb,prS,ptS,nS,sD]
        refine hK22 _ _ ?_
        refine za1 hp zah hc rfl fun K23 hK23=>?_
        refine zir ?_
        refine yhg (bH ⟨p,zpa p k,mi,out,dr,dat⟩ gs μ) ([]) (zqt ⟨p,zpa p k,mi,out,dr,dat⟩ gs μ 4 k 1 hm6 (fun j hh=>by have:=ymd hh;simp only at this;omega) (by omega) (by omega) (by omega) (by omega) (by simp only;omega)) ?_
        rintro _ _ ⟨mi2,hm7,rfl,rfl⟩
        refine⟨rfl,?_⟩
        refine zir ?_
        refine hK23 _ _ (hK21 _ _ ?_)
        refine za1 hp zah hc rfl fun K24 hK24=>?_
        refine zir ?_
        refine hK24 _ _ ⟨_,_,_,?_,⟨k+1,mi2,⟨by omega,by rw[hsu];exact hm7⟩,rfl,rfl,rfl⟩,?_⟩
        · first|omega|(simp only[List.length_cons];omega)|(dsimp only;omega)
        · refine yhh [0,1,2,3,4,5,6,7] ?_
          refine jx1 ?_
          refine jwt ?_;rw[hsu]
      · have hkk:k=p.puts.length:=by simp at ht;omega
        subst hkk
        refine zau ?_
        try dsimp only[zcg,za5]
        refine⟨frL [],bH ⟨p,zh9 p,mi,out,dr,dat⟩ gs μ,?_,?_⟩
        · refine yhh [0,1,2,3,4,5,6,7] ?_
          refine Rt.end (zaq _) ?_
          refine jwt ?_;simp[bH,bO,zh9,zar,sD]
        refine zno rfl ?_
        show ∃_,_
        exact⟨mi,hm6,rfl,rfl⟩
end Go.Proofs.YtapjobndmmkanaaGreat
