/- Which nets are valid: both functions decide the same. -/
import Derived.Test.YtapjobndmmkanaaGreatQr
import Derived.Test.YtapjobndmmkanaaGreatLd
set_option linter.unusedVariables false
set_option linter.unusedSimpArgs false
set_option maxRecDepth 100000
set_option maxHeartbeats 4000000
namespace Go.Proofs.YtapjobndmmkanaaGreat
open Go.Proofs.Tryz
open Go Go.RowKit
def eK(u:Bool)(n m:Int):Bool:=if u then decide (0≤n)&&decide (n<m)else n==0
def kM(w:aT):Bool:=decide (0≤w.i)&&decide (0≤w.bit)&&decide (w.bit<8)
def ug(w:aT):Bool:=kM w&&(decide (1≤w.kind)&&decide (w.kind≤4))
def xO(w:aT):Bool:=decide (w.kind=1)||(decide (5≤w.kind)&&decide (w.kind≤10))
def vU(w:aT):Bool:=kM w&&xO w
def mN(m:Int)(g:Gate):Bool:=decide (1≤g.op)&&decide (g.op≤7)&&(eK true g.a m&&eK (decide ((1:Int)<jy g.op)) g.b m&&eK (decide ((2:Int)<jy g.op)) g.c m&&eK (g.op==7) g.n 64)
def qK(n:Net):Int:=2+n.ins.length+n.gates.length
structure zB (n:Net):Prop where
 len:qK n≤600
 d0:n.out.length=n.aP.length
 wi:∀k,k<n.ins.length→ug (nth n.ins k)=true
 g:∀k,k<n.gates.length→mN (2+n.ins.length+k) (nth n.gates k)=true
 wo:∀k,k<n.out.length→vU (nth n.out k)=true∧eK true (nth n.aP k) (qK n)=true
def oZ(n:Net):Bool:=decide (qK n≤600)&&decide (n.out.length=n.aP.length)&&(List.range n.ins.length).all (fun k=>ug (nth n.ins k))&&(List.range n.gates.length).all (fun k=>mN (2+n.ins.length+k) (nth n.gates k))&&(List.range n.out.length).all fun k=>vU (nth n.out k)&&eK true (nth n.aP k) (qK n)
theorem pa{n:Net}:oZ n=true↔zB n:=by
 unfold oZ
 simp only[fY,mZ,kB,tv]
 exact⟨fun⟨⟨⟨⟨h1,h2⟩,h3⟩,h4⟩,h5⟩=>⟨h1,h2,h3,h4,h5⟩,fun h=>⟨⟨⟨⟨h.len,h.d0⟩,h.wi⟩,h.g⟩,h.wo⟩⟩
theorem zL{n:Net}(h:¬zB n):oZ n=false:=Bool.eq_false_iff.2 fun e=>h (pa.1 e)
theorem Xl{n:Net}(h:zB n):oZ n=true:=pa.2 h
theorem AE{n:Net}{k:Nat}(hk:k<n.ins.length)(h:ug (nth n.ins k)=false):oZ n=false:=zL fun v=>by rw[v.wi k hk]at h;cases h
theorem yR{n:Net}{k:Nat}(hk:k<n.gates.length)(h:mN (2+n.ins.length+k) (nth n.gates k)=false):oZ n=false:=zL fun v=>by rw[v.g k hk]at h;cases h
theorem wg{n:Net}{k:Nat}(hk:k<n.out.length)(h:vU (nth n.out k)=false):oZ n=false:=zL fun v=>by rw[(v.wo k hk).1]at h;cases h
theorem DP{n:Net}{k:Nat}(hk:k<n.out.length)(h:eK true (nth n.aP k) (qK n)=false):oZ n=false:=zL fun v=>by rw[(v.wo k hk).2]at h;cases h
theorem An{P:Nat→Prop}{k:Nat}(h:∀j,j<k→P j)(hk:P k):∀j,j<k+1→P j:=fun j hj=>by
 by_cases e:j=k
 ·rw[e];exact hk
 ·exact h j (by omega)
theorem vZ{m x:Int}:eK true x m=false↔n8 m x=true:=by
 unfold eK n8
 simp only[if_true,Bool.and_eq_false_iff,decide_eq_false_iff_not,Bool.or_eq_true,mZ]
 omega
theorem fx{m x:Int}:eK true x m=true↔n8 m x=false:=by
 have:=vZ (m:=m) (x:=x)
 cases h:eK true x m<;>cases h2:n8 m x<;>simp[h,h2]at this ⊢
theorem jtg{m:Int}{g:Gate}(h1:1≤g.op)(h2:g.op≤7)(h:(gj g).any (n8 m)=true):mN m g=false:=by
 rw[←Bool.not_eq_true]
 intro hg
 simp only[mN,fY]at hg
 obtain⟨⟨_,_⟩,⟨⟨ha,hb⟩,hc⟩,_⟩:=hg
 unfold gj at h
 rcases xp h1 h2 with⟨k1,k2⟩|⟨k1,k3,k2⟩|⟨k1,k2⟩<;>rw[k2]at h hb hc<;>simp only[List.take,List.any_cons,List.any_nil,Bool.or_false,Bool.or_eq_true]at h
 ·rw[fx.1 ha]at h;cases h
 ·rw[show decide ((1:Int)<(2:Nat))=true from rfl]at hb
  rcases h with h|h
  ·rw[fx.1 ha]at h;cases h
  ·rw[fx.1 hb]at h;cases h
 ·rw[show decide ((1:Int)<(3:Nat))=true from rfl]at hb
  rw[show decide ((2:Int)<(3:Nat))=true from rfl]at hc
  rcases h with h|h|h
  ·rw[fx.1 ha]at h;cases h
  ·rw[fx.1 hb]at h;cases h
  ·rw[fx.1 hc]at h;cases h
theorem jth{m:Int}{g:Gate}(h1:1≤g.op)(h2:g.op≤7)(h:(o5 g).any (fun x=>x !=0)=true):mN m g=false:=by
 rw[←Bool.not_eq_true]
 intro hg
 simp only[mN,fY]at hg
 obtain⟨⟨_,_⟩,⟨⟨ha,hb⟩,hc⟩,_⟩:=hg
 unfold o5 at h
 rcases xp h1 h2 with⟨k1,k2⟩|⟨k1,k3,k2⟩|⟨k1,k2⟩<;>rw[k2]at h hb hc<;>simp only[List.drop,List.any_cons,List.any_nil,Bool.or_false,Bool.or_eq_true]at h
 ·rw[show decide ((1:Int)<(1:Nat))=false from rfl]at hb
  rw[show decide ((2:Int)<(1:Nat))=false from rfl]at hc
  simp[eK]at hb hc
  simp[hb,hc]at h
 ·rw[show decide ((2:Int)<(2:Nat))=false from rfl]at hc
  simp[eK]at hc
  simp[hc]at h
 ·cases h
theorem OK{m:Int}{g:Gate}(h:eK (g.op==7) g.n 64=false):mN m g=false:=by simp[mN,h]
theorem Xk{m:Int}{g:Gate}(h:¬(1≤g.op∧g.op≤7)):mN m g=false:=by
 unfold mN
 by_cases h1:1≤g.op
 ·have h2:¬g.op≤7:=fun e=>h ⟨h1,e⟩
  simp[h2]
 ·simp[h1]
theorem Xj{m:Int}{g:Gate}(h1:1≤g.op)(h2:g.op≤7)(hu:(gj g).any (n8 m)=false)(hr:(o5 g).any (fun x=>x !=0)=false)(hn:eK (g.op==7) g.n 64=true):mN m g=true:=by
 unfold mN
 rw[decide_eq_true h1,decide_eq_true h2,hn]
 unfold gj at hu
 unfold o5 at hr
 rcases xp h1 h2 with⟨k1,k2⟩|⟨k1,k3,k2⟩|⟨k1,k2⟩<;>rw[k2]at hu hr ⊢<;>simp only[List.take,List.drop,List.any_cons,List.any_nil,Bool.or_false,Bool.or_eq_false_iff]at hu hr
 ·rw[show decide ((1:Int)<(1:Nat))=false from rfl,show decide ((2:Int)<(1:Nat))=false from rfl,fx.2 hu]
  have e1:g.b=0:=by simpa using hr.1
  have e2:g.c=0:=by simpa using hr.2
  simp[eK,e1,e2]
 ·rw[show decide ((1:Int)<(2:Nat))=true from rfl,show decide ((2:Int)<(2:Nat))=false from rfl,fx.2 hu.1,fx.2 hu.2]
  have e2:g.c=0:=by simpa using hr
  simp[eK,e2]
 ·rw[show decide ((1:Int)<(3:Nat))=true from rfl,show decide ((2:Int)<(3:Nat))=true from rfl,fx.2 hu.1,fx.2 hu.2.1,fx.2 hu.2.2]
  rfl
theorem Ro{g:Gate}:(g.n<0∧eK (g.op==7) g.n 64=false)∨(0≤g.n∧63<g.n∧eK (g.op==7) g.n 64=false)∨(0≤g.n∧g.n≤63∧0<g.n∧g.op≠7∧eK (g.op==7) g.n 64=false)∨(0≤g.n∧g.n≤63∧0<g.n∧g.op=7∧eK (g.op==7) g.n 64=true)∨(g.n=0∧eK (g.op==7) g.n 64=true):=by
 unfold eK
 by_cases h7:g.op=7
 ·have e:(g.op==7)=true:=by rw[h7];rfl
  rw[e]
  simp only[if_true,Bool.and_eq_false_iff,fY,mZ,decide_eq_false_iff_not]
  omega
 ·have e:(g.op==7)=false:=by simpa using h7
  rw[e]
  simp only[Bool.false_eq_true,if_false,beq_iff_eq,beq_eq_false_iff_ne]
  omega
theorem LZ(w:aT):(¬0≤w.i∧kM w=false)∨(0≤w.i∧¬0≤w.bit∧kM w=false)∨(0≤w.i∧0≤w.bit∧w.bit<8∧kM w=true)∨(0≤w.i∧0≤w.bit∧¬w.bit<8∧kM w=false):=by
 unfold kM
 by_cases h1:0≤w.i
 ·by_cases h2:0≤w.bit
  ·by_cases h3:w.bit<8
   ·exact .inr (.inr (.inl ⟨h1,h2,h3,by simp[h1,h2,h3]⟩))
   ·exact .inr (.inr (.inr ⟨h1,h2,h3,by simp[h3]⟩))
  ·exact .inr (.inl ⟨h1,h2,by simp[h2]⟩)
 ·exact .inl ⟨h1,by simp[h1]⟩
theorem XA{w:aT}(h1:kM w=true)(h2:1≤w.kind)(h3:w.kind≤4):ug w=true:=by simp[ug,h1,h2,h3]
theorem Jt{w:aT}(h1:kM w=false):ug w=false:=by simp[ug,h1]
theorem VQ{w:aT}(h1:w.kind<1):ug w=false:=by rw[ug,decide_eq_false (show ¬1≤w.kind by omega)];simp
theorem VP{w:aT}(h1:4<w.kind):ug w=false:=by rw[ug,decide_eq_false (show ¬w.kind≤4 by omega)];simp
theorem jdb(w:aT):(w.kind=1∧xO w=true)∨(w.kind≠1∧w.kind<5∧xO w=false)∨(w.kind≠1∧5≤w.kind∧10<w.kind∧xO w=false)∨(w.kind≠1∧5≤w.kind∧w.kind≤10∧xO w=true):=by
 unfold xO
 by_cases h1:w.kind=1
 ·exact .inl ⟨h1,by simp[h1]⟩
 ·by_cases h2:5≤w.kind
  ·by_cases h3:w.kind≤10
   ·exact .inr (.inr (.inr ⟨h1,h2,h3,by simp[h2,h3]⟩))
   ·exact .inr (.inr (.inl ⟨h1,h2,by omega,by simp[h1,h3]⟩))
  ·exact .inr (.inl ⟨h1,by omega,by simp[h1,h2]⟩)
theorem JZ{w:aT}(h1:kM w=true)(h2:xO w=true):vU w=true:=by simp[vU,h1,h2]
theorem B9{w:aT}(h1:kM w=false):vU w=false:=by simp[vU,h1]
theorem Js{w:aT}(h1:xO w=false):vU w=false:=by simp[vU,h1]
theorem Kd{p q r:Prop}(e:r)(hq:q)(h:r→p=q:=by
 intro hY
 conv=>lhs;simp -dsimp -implicitDefEqProofs (disch:=first|assumption|omega|(simp only[aH]<;>omega)|decide) only[aN,↓reduceIte,Nat.reduceEqDiff,Nat.reduceAdd,D.fix,Int.reduceToNat,Nat.reduceMul,Nat.reduceBNe,Nat.reduceBEq,cr,bw,hY]):p:=(h e).mpr hq
theorem Jr{p q:Prop}(hq:q)(h:p=q:=by
 conv=>lhs;simp (disch:=first|assumption|omega|(simp only[aH]<;>omega)|decide) only[fA,Nat.reduceAdd,D.fix,↓reduceIte,Nat.reduceEqDiff,cr]):p:=h.mpr hq
theorem Zr(w:aT):dq prog 65 [.agg (cr w)] (.d (oD (kM w))):=by
 refine fh (fn:=f65) (by kernel_rfl) func65 rfl (cn rfl) fun c hc hp=>?_
 refine dY (τ':=aF [(0,.d (.agg (cr w)))]) (by repeat (first|exact cw _|refine cg ?_ (by first|rfl|(simp[aX];done)|simp[aX, *]))) ?_
 refine aZ hp ax hc rfl fun K1 nw=>?_
 simp -dsimp -implicitDefEqProofs (disch:=first|assumption|omega|(simp only[aH]<;>omega)|decide) only[aN,↓reduceIte,Nat.reduceEqDiff,Nat.reduceAdd,D.fix,Int.reduceToNat,Nat.reduceMul,Nat.reduceBNe,Nat.reduceBEq,cr,bw]
 refine nw _ _ ?_
 refine aZ hp ax hc rfl fun K2 bS=>?_
 rcases LZ w with⟨h1,hb⟩|⟨h1,h2,hb⟩|⟨h1,h2,h3,hb⟩|⟨h1,h2,h3,hb⟩
 ·have q0:decide (0≤w.i)=false:=decide_eq_false h1
  have q1:=q0
  have q2:=q0
  refine Kd (aw q0 (aw q1 q2)) ?_
  refine bS _ _ ?_
  refine aM ?_
  show ai _ _=_
  refine Jr ?_
  rw[hb]
 ·have q0:decide (0≤w.i)=true:=decide_eq_true h1
  have q1:decide (0≤w.bit)=false:=decide_eq_false h2
  have q2:=q1
  refine Kd (aw q0 (aw q1 q2)) ?_
  refine bS _ _ ?_
  refine aM ?_
  show ai _ _=_
  refine Jr ?_
  rw[hb]
 ·have q0:decide (0≤w.i)=true:=decide_eq_true h1
  have q1:decide (0≤w.bit)=true:=decide_eq_true h2
  have q2:decide (w.bit<8)=true:=decide_eq_true h3
  refine Kd (aw q0 (aw q1 q2)) ?_
  refine bS _ _ ?_
  refine aM ?_
  show ai _ _=_
  refine Jr ?_
  rw[hb]
 ·have q0:decide (0≤w.i)=true:=decide_eq_true h1
  have q1:decide (0≤w.bit)=true:=decide_eq_true h2
  have q2:decide (w.bit<8)=false:=decide_eq_false h3
  refine Kd (aw q0 (aw q1 q2)) ?_
  refine bS _ _ ?_
  refine aM ?_
  show ai _ _=_
  refine Jr ?_
  rw[hb]
theorem Gy{p q:Prop}(hq:q)(h:p=q:=by
 conv=>lhs;simp -dsimp -implicitDefEqProofs (disch:=first|assumption|omega|(simp only[aH]<;>omega)|decide) only[aN,↓reduceIte,Nat.reduceEqDiff,Nat.reduceAdd,D.fix,Int.reduceToNat,Nat.reduceMul,Nat.reduceBNe,Nat.reduceBEq]):p:=h.mpr hq
theorem yn{p q r:Prop}(e:r)(hq:q)(h:r→p=q:=by
 intro hY
 conv=>lhs;simp -dsimp -implicitDefEqProofs (disch:=first|assumption|omega|(simp only[aH]<;>omega)|decide) only[aN,↓reduceIte,Nat.reduceEqDiff,Nat.reduceAdd,D.fix,Int.reduceToNat,Nat.reduceMul,Nat.reduceBNe,Nat.reduceBEq,bw,hY]):p:=(h e).mpr hq
theorem MX{p q:Prop}(hq:q)(h:p=q:=by
 conv=>lhs;simp (disch:=first|assumption|omega|(simp only[aH]<;>omega)|decide) only[fA,Nat.reduceAdd,D.fix,↓reduceIte,Nat.reduceEqDiff]):p:=h.mpr hq
theorem og(u:Bool)(n m:Int):dq prog 71 [oD u,iD n,iD m] (.d (oD (eK u n m))):=by
 refine fh (fn:=f71) (by kernel_rfl) func71 rfl (cn rfl) fun c hc hp=>?_
 refine dY (τ':=aF [(0,.d (oD u)),(1,.d (iD n)),(2,.d (iD m))]) (by repeat (first|exact cw _|refine cg ?_ (by first|rfl|(simp[aX];done)|simp[aX, *]))) ?_
 refine ah (Gy ·) ?_
 refine aD fun K2 bS=>?_
 refine ah (Gy ·) ?_
 refine bf rfl (fun ht=>?_) (fun ht=>?_)
 ·have hu:u=true:=ht
  subst hu
  refine aZ hp ax hc rfl fun K4 dE=>?_
  by_cases q:0≤n
  ·have q0:decide (0≤n)=true:=decide_eq_true q
   refine yn q0 ?_
   refine dE _ _ ?_
   refine aM ?_
   show ai _ _=_
   refine MX ?_
   first
   |(simp[eK,q0];done)
   |(simp[eK])
  ·have q0:decide (0≤n)=false:=decide_eq_false q
   refine yn q0 ?_
   refine dE _ _ ?_
   refine aM ?_
   show ai _ _=_
   refine MX ?_
   first
   |(simp[eK,q0];done)
   |(simp[eK])
 ·have hu:u=false:=ht
  subst hu
  refine bg (bS _ _ ?_)
  refine aZ hp ax hc rfl fun K5 dx=>?_
  simp -dsimp -implicitDefEqProofs (disch:=first|assumption|omega|(simp only[aH]<;>omega)|decide) only[aN,↓reduceIte,Nat.reduceEqDiff,Nat.reduceAdd,D.fix,Int.reduceToNat,Nat.reduceMul,Nat.reduceBNe,Nat.reduceBEq,bw]
  refine dx _ _ ?_
  refine aM ?_
  show ai _ _=_
  refine MX ?_
  first
  |(simp[eK,q0];done)
  |(simp[eK])

theorem ykd{op:Int}(h:¬(1≤op∧op≤7))(hi:kJ op):yM prog KT 230 (some (.int .i64 op)) false (some [(.int .i64 1,0,.d (.val (.int .i64 1))),(.int .i64 2,1,.d (.val (.int .i64 2))),(.int .i64 3,2,.d (.val (.int .i64 2))),(.int .i64 4,3,.d (.val (.int .i64 2))),(.int .i64 5,4,.d (.val (.int .i64 3))),(.int .i64 6,5,.d (.val (.int .i64 3))),(.int .i64 7,6,.d (.val (.int .i64 3)))])=some (.d (iD 0)):=by
 have hf:∀k:Int,1≤k→k≤7→kA (.int .i64 k) (.int .i64 op)=false:=fun k h1 h2=>by
  have:k≠op:=fun e=>h ⟨by omega,by omega⟩
  simp[kA,vS,this]
 have hn:jS (.int .i64 op) [(.int .i64 1,0,.d (.val (.int .i64 1))),(.int .i64 2,1,.d (.val (.int .i64 2))),(.int .i64 3,2,.d (.val (.int .i64 2))),(.int .i64 4,3,.d (.val (.int .i64 2))),(.int .i64 5,4,.d (.val (.int .i64 3))),(.int .i64 6,5,.d (.val (.int .i64 3))),(.int .i64 7,6,.d (.val (.int .i64 3)))] 0=none:=by
  simp only[jS,hf 1 (by decide) (by decide),hf 2 (by decide) (by decide),hf 3 (by decide) (by decide),hf 4 (by decide) (by decide),hf 5 (by decide) (by decide),hf 6 (by decide) (by decide),hf 7 (by decide) (by decide),Bool.false_eq_true,if_false]
 unfold yM
 rw[show j5 prog 230=some (3,3) from by kernel_rfl]
 simp only
 rw[show w9 prog 3=some (.d (iD 0)) from by kernel_rfl]
 simp only
 rw[Rz (kt:=3) underlying3 hi,show(KT 3&&mr (.int .i64 op)&&true&&o8 prog 3 [(.int .i64 1,0,.d (.val (.int .i64 1))),(.int .i64 2,1,.d (.val (.int .i64 2))),(.int .i64 3,2,.d (.val (.int .i64 2))),(.int .i64 4,3,.d (.val (.int .i64 2))),(.int .i64 5,4,.d (.val (.int .i64 3))),(.int .i64 6,5,.d (.val (.int .i64 3))),(.int .i64 7,6,.d (.val (.int .i64 3)))])=true from by kernel_rfl,if_pos rfl,hn]
 rfl
theorem N2{p q:Prop}(hq:q)(h:p=q:=by
 conv=>lhs;simp -dsimp -implicitDefEqProofs (disch:=first|assumption|omega|(simp only[aH]<;>omega)|decide) only[aN,↓reduceIte,Nat.reduceEqDiff,Nat.reduceAdd,D.fix,Int.reduceToNat,Nat.reduceMul,Nat.reduceBNe,Nat.reduceBEq,aY,Ah,z6,zZ,C8,vK,De,bw]):p:=h.mpr hq
theorem jek(g:Gate)(h:¬(1≤g.op∧g.op≤7))(hi:kJ g.op):dq prog 66 [.agg (aY g)] (.dR [.d (ae []),.d (ae [g.a,g.b,g.c])]):=by
 have iA:=ykd h hi
 refine fh (fn:=f66) (by kernel_rfl) func66 rfl (cn rfl) fun c hc hp=>?_
 refine dY (τ':=aF [(0,.d (.agg (aY g)))]) (by repeat (first|exact cw _|refine cg ?_ (by first|rfl|(simp[aX];done)|simp[aX, *]))) ?_
 refine ah (N2 ·) ?_
 refine aZ hp ax hc rfl fun K2 bS=>?_
 simp -dsimp -implicitDefEqProofs (disch:=first|assumption|omega|(simp only[aH]<;>omega)|decide) only[aN,↓reduceIte,Nat.reduceEqDiff,Nat.reduceAdd,D.fix,Int.reduceToNat,Nat.reduceMul,Nat.reduceBNe,Nat.reduceBEq,aY,Ah,z6,zZ,C8,vK,De,iA,bw]
 refine bS _ _ ?_
 refine ah (N2 ·) ?_
 refine dO ax hc mixed rfl (q:=0) (by kernel_rfl) (by kernel_rfl) fun K4 dE=>?_
 refine N2 ?_
 refine dE _ _ ?_
 refine aM ?_
 show ai _ _=_
 simp (disch:=first|assumption|omega|(simp only[aH]<;>omega)|decide) only[fA,Nat.reduceAdd,D.fix,↓reduceIte,Nat.reduceEqDiff,aY,Ah,z6,zZ,C8,vK,De]
theorem jtk{o:Int}(h:¬(1≤o∧o≤7)):dq prog 70 [iD o] (.d (iD (-1))):=by
 have n1:(o==1)=false:=by simp;omega
 have n2:(o==2)=false:=by simp;omega
 have n3:(o==3)=false:=by simp;omega
 have n4:(o==4)=false:=by simp;omega
 have n5:(o==5)=false:=by simp;omega
 have n6:(o==6)=false:=by simp;omega
 have n7:(o==7)=false:=by simp;omega
 refine fh (fn:=f70) (by kernel_rfl) func70 rfl (cn rfl) fun c hc hp=>?_
 refine dY (τ':=aF [(0,.d (iD o))]) (by repeat (first|exact cw _|refine cg ?_ (by first|rfl|(simp[aX];done)|simp[aX, *]))) ?_
 refine ah (Gy ·) ?_
 refine aD fun K2 bS=>?_
 refine ah (Gy ·) ?_
 refine aW ?_
 refine ah (yn n1 ·) ?_
 refine bA ?_
 refine aD fun K5 dx=>?_
 refine ah (yn n2 ·) ?_
 refine bA ?_
 refine ah (yn n3 ·) ?_
 refine bA ?_
 refine fj (yn n4 ·) (dx _ _ ?_)
 refine bA ?_
 refine aD fun K9 cX=>?_
 refine ah (yn n5 ·) ?_
 refine bA ?_
 refine ah (yn n6 ·) ?_
 refine bA ?_
 refine fj (yn n7 ·) (cX _ _ ?_)
 refine bA ?_
 refine bg (bS _ _ ?_)
 refine ah (Gy ·) ?_
 refine aM ?_
 show ai _ _=_
 simp (disch:=first|assumption|omega|(simp only[aH]<;>omega)|decide) only[fA,Nat.reduceAdd,D.fix,↓reduceIte,Nat.reduceEqDiff]
theorem jmi(w:aT):(kM w=false)∨(kM w=true∧w.kind<1)∨(kM w=true∧¬w.kind<1∧4<w.kind)∨(kM w=true∧¬w.kind<1∧¬4<w.kind):=by
 cases kM w
 ·exact .inl rfl
 ·by_cases h1:w.kind<1
  ·exact .inr (.inl ⟨rfl,h1⟩)
  ·by_cases h2:4<w.kind
   ·exact .inr (.inr (.inl ⟨rfl,h1,h2⟩))
   ·exact .inr (.inr (.inr ⟨rfl,h1,h2⟩))
theorem jmj(m:Int)(g:Gate):(¬(1≤g.op∧g.op≤7))∨((1≤g.op∧g.op≤7)∧(gj g).any (n8 m)=true)∨((1≤g.op∧g.op≤7)∧(gj g).any (n8 m)=false∧(o5 g).any (fun x=>x !=0)=true)∨((1≤g.op∧g.op≤7)∧(gj g).any (n8 m)=false∧(o5 g).any (fun x=>x !=0)=false):=by
 by_cases h:1≤g.op∧g.op≤7
 ·cases h1:(gj g).any (n8 m)
  ·cases h2:(o5 g).any (fun x=>x !=0)
   ·exact .inr (.inr (.inr ⟨h,rfl,rfl⟩))
   ·exact .inr (.inr (.inl ⟨h,rfl,rfl⟩))
  ·exact .inr (.inl ⟨h,rfl⟩)
 ·exact .inl h
theorem jmk(m:Int)(g:Gate):(¬(1≤g.op∧g.op≤7))∨((1≤g.op∧g.op≤7)∧eK true g.a m=false)∨((1≤g.op∧g.op≤7)∧eK true g.a m=true∧eK (decide ((1:Int)<jy g.op)) g.b m=false)∨((1≤g.op∧g.op≤7)∧eK true g.a m=true∧eK (decide ((1:Int)<jy g.op)) g.b m=true∧eK (decide ((2:Int)<jy g.op)) g.c m=false)∨((1≤g.op∧g.op≤7)∧eK true g.a m=true∧eK (decide ((1:Int)<jy g.op)) g.b m=true∧eK (decide ((2:Int)<jy g.op)) g.c m=true∧eK (g.op==7) g.n 64=false)∨((1≤g.op∧g.op≤7)∧eK true g.a m=true∧eK (decide ((1:Int)<jy g.op)) g.b m=true∧eK (decide ((2:Int)<jy g.op)) g.c m=true∧eK (g.op==7) g.n 64=true):=by
 by_cases h:1≤g.op∧g.op≤7
 ·refine .inr ?_
  cases eK true g.a m<;>cases eK (decide ((1:Int)<jy g.op)) g.b m<;>cases eK (decide ((2:Int)<jy g.op)) g.c m<;>cases eK (g.op==7) g.n 64<;>simp[h]
 ·exact .inl h
theorem jml(w:aT)(x m:Int):(kM w=false)∨(kM w=true∧w.kind≠1∧w.kind<5)∨(kM w=true∧w.kind≠1∧¬w.kind<5∧10<w.kind)∨(kM w=true∧w.kind=1∧x<0)∨(kM w=true∧w.kind=1∧¬x<0∧m≤x)∨(kM w=true∧w.kind=1∧¬x<0∧¬m≤x)∨(kM w=true∧w.kind≠1∧¬w.kind<5∧¬10<w.kind∧x<0)∨(kM w=true∧w.kind≠1∧¬w.kind<5∧¬10<w.kind∧¬x<0∧m≤x)∨(kM w=true∧w.kind≠1∧¬w.kind<5∧¬10<w.kind∧¬x<0∧¬m≤x):=by
 cases kM w
 ·exact .inl rfl
 ·simp only[Bool.true_eq_false,false_or,true_and];omega
theorem jmm(w:aT)(u:Bool):(w.kind≠1∧w.kind<5)∨(w.kind≠1∧¬w.kind<5∧10<w.kind)∨(w.kind=1∧w.i<0)∨(w.kind=1∧¬w.i<0∧w.bit<0)∨(w.kind=1∧¬w.i<0∧¬w.bit<0∧7<w.bit)∨(w.kind=1∧¬w.i<0∧¬w.bit<0∧¬7<w.bit∧u=false)∨(w.kind=1∧¬w.i<0∧¬w.bit<0∧¬7<w.bit∧u=true)∨(w.kind≠1∧¬w.kind<5∧¬10<w.kind∧w.i<0)∨(w.kind≠1∧¬w.kind<5∧¬10<w.kind∧¬w.i<0∧w.bit<0)∨(w.kind≠1∧¬w.kind<5∧¬10<w.kind∧¬w.i<0∧¬w.bit<0∧7<w.bit)∨(w.kind≠1∧¬w.kind<5∧¬10<w.kind∧¬w.i<0∧¬w.bit<0∧¬7<w.bit∧u=false)∨(w.kind≠1∧¬w.kind<5∧¬10<w.kind∧¬w.i<0∧¬w.bit<0∧¬7<w.bit∧u=true):=by
 cases u<;>simp only[Bool.true_eq_false,Bool.false_eq_true,and_false,and_true,or_false,false_or]<;>omega
theorem jmn(w:aT):(w.kind<1)∨(¬w.kind<1∧4<w.kind)∨(¬w.kind<1∧¬4<w.kind∧w.i<0)∨(¬w.kind<1∧¬4<w.kind∧¬w.i<0∧w.bit<0)∨(¬w.kind<1∧¬4<w.kind∧¬w.i<0∧¬w.bit<0∧7<w.bit)∨(¬w.kind<1∧¬4<w.kind∧¬w.i<0∧¬w.bit<0∧¬7<w.bit):=by omega
theorem yQ{w:aT}(h:w.i<0∨w.bit<0∨7<w.bit):kM w=false:=by
 rcases LZ w with h|h|h|h
 ·exact h.2
 ·exact h.2.2
 ·omega
 ·exact h.2.2.2
theorem MW{w:aT}(h1:¬w.i<0)(h2:¬w.bit<0)(h3:¬7<w.bit):kM w=true:=by
 rcases LZ w with h|h|h|h
 ·omega
 ·omega
 ·exact h.2.2.2
 ·omega
theorem Jq{w:aT}(h1:w.kind≠1)(h:w.kind<5∨10<w.kind):xO w=false:=by
 rcases jdb w with h|h|h|h
 ·omega
 ·exact h.2.2
 ·exact h.2.2.2
 ·omega
theorem ru{w:aT}(h:w.kind=1∨(¬w.kind<5∧¬10<w.kind)):xO w=true:=by
 rcases jdb w with h|h|h|h
 ·exact h.2
 ·omega
 ·omega
 ·exact h.2.2.2
theorem KL{x m:Int}(h:x<0∨m≤x):eK true x m=false:=vZ.2 (by unfold n8;simp;omega)
theorem Zq{x m:Int}(h1:¬x<0)(h2:¬m≤x):eK true x m=true:=fx.2 (by unfold n8;simp;omega)
theorem iB{p q:Prop}(hq:q)(h:p=q:=by
 conv=>lhs;simp -dsimp -implicitDefEqProofs (disch:=first|assumption|omega|(simp only[aH,aQ,bc]<;>omega)|decide) only[aN,↓reduceIte,Nat.reduceEqDiff,Nat.reduceAdd,D.fix,Int.reduceToNat,Nat.reduceMul,Nat.reduceBNe,Nat.reduceBEq,dt,dp,bQ,bt,cr,aY,bw]):p:=h.mpr hq
theorem c6{p q r:Prop}(e:r)(hq:q)(h:r→p=q:=by
 intro hY
 conv=>lhs;simp -dsimp -implicitDefEqProofs (disch:=first|assumption|omega|(simp only[aH,aQ,bc]<;>omega)|decide) only[aN,↓reduceIte,Nat.reduceEqDiff,Nat.reduceAdd,D.fix,Int.reduceToNat,Nat.reduceMul,Nat.reduceBNe,Nat.reduceBEq,dt,dp,bQ,bt,cr,aY,bw,hY]):p:=(h e).mpr hq
theorem gh{p q:Prop}(hq:q)(h:p=q:=by
 conv=>lhs;simp -dsimp -implicitDefEqProofs (disch:=first|assumption|omega|(simp only[aH,aQ,bc]<;>omega)|decide) only[aN,↓reduceIte,Nat.reduceEqDiff,Nat.reduceAdd,D.fix,Int.reduceToNat,Nat.reduceMul,Nat.reduceBNe,Nat.reduceBEq,dt,dp,bQ,bt,cr,aY]):p:=h.mpr hq
theorem pJ(k:List Nat){m:List Nat}{τ τ1:Fr}{H H1:av}(h:Rt m (fun t=>du k (τ t)) (dg k H) τ1 H1)(a:∀i∈m,k[i]? =some i:=by decide)(b:k.Nodup:=by decide)(c:∀i∈k,i<H.length:=by
 simp[eJ,dg]):Rt m τ H τ1 H1:=Rt.trans (Rt.gc a b c) h
theorem oY{m:List Nat}{τ τ':Fr}{H H':av}(h2:H=H')(h:fw τ τ':=by
 repeat (first|exact cw _|refine cg ?_ (by first|rfl|(simp[aX,aQ,bc];done)|simp[aX,aQ,bc, *]))):Rt m τ H τ' H':=Rt.end h h2
theorem jmp{p q:Prop}(hq:q)(h:p=q:=by
 conv=>lhs;simp -dsimp -implicitDefEqProofs (disch:=first|assumption|omega|(simp only[aH,aQ,bc]<;>omega)|decide) only[aN,↓reduceIte,Nat.reduceEqDiff,Nat.reduceAdd,D.fix,Int.reduceToNat,Nat.reduceMul,Nat.reduceBNe,Nat.reduceBEq,dt,dp,bQ,bt,cr,aY,vd,rL,bw]):p:=h.mpr hq
theorem xe{p q:Prop}(hq:q)(h:p=q:=by
 conv=>lhs;simp -dsimp -implicitDefEqProofs (disch:=first|assumption|omega|(simp only[aH,aQ,bc]<;>omega)|decide) only[aN,↓reduceIte,Nat.reduceEqDiff,Nat.reduceAdd,D.fix,Int.reduceToNat,Nat.reduceMul,Nat.reduceBNe,Nat.reduceBEq,dt,dp,bQ,bt,cr,aY,ve,qA,bw]):p:=h.mpr hq
theorem iK{p q:Prop}(hq:q)(h:p=q:=by
 conv=>lhs;simp (disch:=first|assumption|omega|(simp only[aH,aQ,bc]<;>omega)|decide) only[fA,Nat.reduceAdd,D.fix,↓reduceIte,Nat.reduceEqDiff,dt,dp,bQ,bt,cr,aY]):p:=h.mpr hq
theorem oX{p:Prop}(h:p:=by
 first|rfl|(simp only[cP,Nat.reduceAdd,↓reduceIte,Nat.reduceEqDiff,dt,dp,bQ,bt,cr,aY];first|done|rfl)):p:=h
theorem Ni{p:Prop}(h:p:=by
 simp (disch:=first|assumption|omega|(simp only[aH,aQ,bc]<;>omega)|decide) only[fA,Nat.reduceAdd,D.fix,↓reduceIte,Nat.reduceEqDiff,dt,dp,bQ,bt,cr,aY]):p:=h
theorem yau(n:Net)(hI:∀k,k<n.gates.length→kJ (nth n.gates k).op)(h1:n.ins.length≤1000)(h2:n.gates.length≤1000)(h3:n.out.length≤1000)(h4:n.aP.length≤1000):dq prog 14 [dt n] (.d (oD (oZ n))):=by
 have m3:(1000:Nat)≤maxLen:=by unfold maxLen;decide
 refine fh (fn:=f14) (by kernel_rfl) func14 rfl (cn rfl) fun c hc hp=>?_
 refine dY (τ':=aF [(0,.d (dt n))]) (by repeat (first|exact cw _|refine cg ?_ (by first|rfl|(simp[aX,aQ,bc];done)|simp[aX,aQ,bc, *]))) ?_
 refine ah (iB ·) ?_
 refine ah (iB ·) ?_
 refine ah (iB ·) ?_
 refine aD fun K4 dE=>?_
 refine aZ hp ax hc rfl fun K5 dx=>?_
 rcases(show 600<2+(n.ins.length:Int)+n.gates.length∨(¬600<2+(n.ins.length:Int)+n.gates.length∧n.out.length≠n.aP.length)∨(¬600<2+(n.ins.length:Int)+n.gates.length∧n.out.length=n.aP.length) by omega)with e|⟨e,e2⟩|⟨e,e2⟩
 ·have hv:oZ n=false:=zL fun v=>by have:=v.len;unfold qK at this;omega
  have q0:decide ((600:Int)<2+n.ins.length+n.gates.length)=true:=decide_eq_true e
  have q1:=q0
  refine c6 (aw q0 q1) ?_
  refine dx _ _ ?_
  refine dh ?_
  refine ah (gh ·) ?_
  refine aM ?_
  show ai _ _=_
  refine iK ?_
  rw[hv]
 ·have hv:oZ n=false:=zL fun v=>e2 v.d0
  have q0:decide ((600:Int)<2+n.ins.length+n.gates.length)=false:=decide_eq_false e
  have q1:((n.out.length:Int) !=n.aP.length)=true:=by simp;omega
  refine c6 (aw q0 q1) ?_
  refine dx _ _ ?_
  refine dh ?_
  refine ah (gh ·) ?_
  refine aM ?_
  show ai _ _=_
  refine iK ?_
  rw[hv]
 ·have q0:decide ((600:Int)<2+n.ins.length+n.gates.length)=false:=decide_eq_false e
  have q1:((n.out.length:Int) !=n.aP.length)=false:=by simp;omega
  refine c6 (aw q0 q1) ?_
  refine dx _ _ ?_
  refine bA ?_
  refine bg (dE _ _ ?_)
  refine ah (gh ·) ?_
  refine aD fun K9 cX=>?_
  refine ah (iB ·) ?_
  refine aW ?_
  refine cU hp (fun τ' H' mm=>∃(k:Nat),(k≤n.ins.length∧∀j,j<k→ug (nth n.ins j)=true)∧mm=n.ins.length - k∧H'=[.cells (ak (dp n)),.cells [.d (iD (2+n.ins.length))]]∧τ'=aF [(1,.op 0 0),(3,.op 1 0),(4,.d (iD (2+n.ins.length+n.gates.length))),(5,.d (.val (.func (.func 65) #[] #[]))),(36,.d (bQ n.ins)),(37,.d (iD n.ins.length)),(38,.d (iD k))]) (n.ins.length) ?_ ⟨0,⟨cF _,fun j hj=>absurd hj (Nat.not_lt_zero _)⟩,rfl,rfl,rfl⟩ ?_
  ·refine pJ [0,1] ?_
   refine oY ?_
   exact oX
  rintro τ' H' mm ⟨k,⟨hk,l9⟩,rfl,rfl,rfl⟩
  refine ah (iB ·) ?_
  refine aD fun lK bN=>?_
  refine bf rfl (fun ht=>?_) (fun ht=>?_)
  ·have aA:k<n.ins.length:=by simp at ht;omega
   have lA:=Zr (nth n.ins k)
   refine bg (bN _ _ ?_)
   refine aD fun nV df=>?_
   refine aW ?_
   refine ah (jmp ·) ?_
   refine aZ hp ax hc rfl fun sY eG=>?_
   rcases jmi (nth n.ins k)with hb|⟨hb,e3⟩|⟨hb,e3,e4⟩|⟨hb,e3,e4⟩
   ·rw[hb]at lA
    have hv:=AE aA (Jt hb)
    have q2:=hb
    have q3:=hb
    refine c6 (aw q2 q3) ?_
    refine bx (lA) rfl ?_
    refine c6 (aw q2 q3) ?_
    refine eG _ _ ?_
    refine dh ?_
    refine ah (gh ·) ?_
    refine aM ?_
    show ai _ _=_
    refine iK ?_
    rw[hv]
   ·rw[hb]at lA
    have hv:=AE aA (VQ e3)
    have q2:decide ((nth n.ins k).kind<1)=true:=decide_eq_true (e3)
    have q3:=q2
    refine c6 (aw q2 q3) ?_
    refine bx (lA) rfl ?_
    refine c6 (aw q2 q3) ?_
    refine eG _ _ ?_
    refine dh ?_
    refine ah (gh ·) ?_
    refine aM ?_
    show ai _ _=_
    refine iK ?_
    rw[hv]
   ·rw[hb]at lA
    have hv:=AE aA (VP e4)
    have q2:decide ((nth n.ins k).kind<1)=false:=decide_eq_false (e3)
    have q3:decide (4<(nth n.ins k).kind)=true:=decide_eq_true (e4)
    refine c6 (aw q2 q3) ?_
    refine bx (lA) rfl ?_
    refine c6 (aw q2 q3) ?_
    refine eG _ _ ?_
    refine dh ?_
    refine ah (gh ·) ?_
    refine aM ?_
    show ai _ _=_
    refine iK ?_
    rw[hv]
   ·rw[hb]at lA
    have hw:=XA hb (show 1≤(nth n.ins k).kind by omega) (show(nth n.ins k).kind≤4 by omega)
    have q2:decide ((nth n.ins k).kind<1)=false:=decide_eq_false (e3)
    have q3:decide (4<(nth n.ins k).kind)=false:=decide_eq_false (e4)
    refine c6 (aw q2 q3) ?_
    refine bx (lA) rfl ?_
    refine c6 (aw q2 q3) ?_
    refine eG _ _ ?_
    refine bA ?_
    refine bg (df _ _ ?_)
    refine bT hp ax hc rfl fun rY eN=>?_
    refine iB ?_
    refine eN _ _ ⟨_,_,_,?_,⟨k+1,⟨by omega,An l9 hw⟩,rfl,rfl,rfl⟩,?_⟩
    ·first|omega|(simp only[List.length_cons];omega)|(dsimp only;omega)
    ·refine pJ [0,1] ?_
     refine oY ?_
     exact oX
  ·have bM:k=n.ins.length:=by simp at ht;omega
   subst bM
   clear hk
   have pe:=l9
   clear l9
   refine cJ (cX _ _ ?_)
   refine aD fun sX fa=>?_
   refine ah (iB ·) ?_
   refine aW ?_
   refine cU hp (fun τ' H' mm=>∃(k:Nat),(k≤n.gates.length∧∀j,j<k→mN (2+n.ins.length+j) (nth n.gates j)=true)∧mm=n.gates.length - k∧H'=[.cells (ak (dp n)),.cells [.d (iD (2+n.ins.length))]]∧τ'=aF [(1,.op 0 0),(3,.op 1 0),(4,.d (iD (2+n.ins.length+n.gates.length))),(5,.d (.val (.func (.func 65) #[] #[]))),(58,.d (bt n.gates)),(59,.d (iD n.gates.length)),(60,.d (iD k))]) (n.gates.length) ?_ ⟨0,⟨cF _,fun j hj=>absurd hj (Nat.not_lt_zero _)⟩,rfl,rfl,rfl⟩ ?_
   ·refine pJ [0,1] ?_
    refine oY ?_
    exact oX
   rintro τ' H' mm ⟨k,⟨hk,l9⟩,rfl,rfl,rfl⟩
   refine ah (iB ·) ?_
   refine aD fun vA fM=>?_
   refine bf rfl (fun ht=>?_) (fun ht=>?_)
   ·have aA:k<n.gates.length:=by simp at ht;omega
    have Em:(gj (nth n.gates k)).length≤maxLen:=by unfold gj;rw[List.length_take];simp;unfold maxLen;omega
    have Py:(o5 (nth n.gates k)).length≤maxLen:=by unfold o5;rw[List.length_drop];simp;unfold maxLen;omega
    have nQ:=Mo (gj (nth n.gates k)) (2+n.ins.length) k (by omega) (by omega) Em
    have CC:=SF (o5 (nth n.gates k)) Py
    refine bg (fM _ _ ?_)
    refine aD fun yh fG=>?_
    refine aW ?_
    refine aZ hp ax hc rfl fun C0 jY=>?_
    rcases jmj (2+(n.ins.length:Int)+(k:Int)) (nth n.gates k)with ho|⟨ho,hu⟩|⟨ho,hu,hr⟩|⟨ho,hu,hr⟩
    ·have hv:=yR aA (Xk ho)
     have k9:=jek (nth n.gates k) ho (hI k aA)
     have pg:(((0:Nat):Int)==0)=true:=rfl
     refine xe ?_
     refine jY _ _ ?_
     refine aZ hp ax hc rfl fun EJ lE=>?_
     refine iB ?_
     refine bx (k9) rfl ?_
     refine iB ?_
     refine lE _ _ ?_
     refine ah (gh ·) ?_
     refine aD fun Bk jX=>?_
     refine ah (c6 pg ·) ?_
     refine dh ?_
     refine ah (gh ·) ?_
     refine aM ?_
     show ai _ _=_
     refine iK ?_
     rw[hv]
    ·have hv:=yR aA (jtg ho.1 ho.2 hu)
     have k9:=Dp (nth n.gates k) ho.1 ho.2
     have pg:=Fa ho.1 ho.2
     rw[hu]at nQ
     refine xe ?_
     refine jY _ _ ?_
     refine aZ hp ax hc rfl fun zC ij=>?_
     refine iB ?_
     refine bx (k9) rfl ?_
     refine iB ?_
     refine ij _ _ ?_
     refine ah (gh ·) ?_
     refine aD fun EI lD=>?_
     refine aZ hp ax hc rfl fun Bi jD=>?_
     refine c6 pg ?_
     refine BB (nQ) ?_ ?_
     ·exact Ni
     refine c6 pg ?_
     refine jD _ _ ?_
     refine dh ?_
     refine ah (gh ·) ?_
     refine aM ?_
     show ai _ _=_
     refine iK ?_
     rw[hv]
    ·have hv:=yR aA (jth ho.1 ho.2 hr)
     have k9:=Dp (nth n.gates k) ho.1 ho.2
     have pg:=Fa ho.1 ho.2
     rw[hu]at nQ
     rw[hr]at CC
     refine xe ?_
     refine jY _ _ ?_
     refine aZ hp ax hc rfl fun K36 uO=>?_
     refine iB ?_
     refine bx (k9) rfl ?_
     refine iB ?_
     refine uO _ _ ?_
     refine ah (gh ·) ?_
     refine aD fun Iq ns=>?_
     refine aZ hp ax hc rfl fun QW sU=>?_
     refine c6 pg ?_
     refine BB (nQ) ?_ ?_
     ·exact Ni
     refine c6 pg ?_
     refine bx (CC) rfl ?_
     refine c6 pg ?_
     refine sU _ _ ?_
     refine dh ?_
     refine ah (gh ·) ?_
     refine aM ?_
     show ai _ _=_
     refine iK ?_
     rw[hv]
    ·have k9:=Dp (nth n.gates k) ho.1 ho.2
     have pg:=Fa ho.1 ho.2
     rw[hu]at nQ
     rw[hr]at CC
     refine xe ?_
     refine jY _ _ ?_
     refine aZ hp ax hc rfl fun Ip oz=>?_
     refine iB ?_
     refine bx (k9) rfl ?_
     refine iB ?_
     refine oz _ _ ?_
     refine ah (gh ·) ?_
     refine aD fun EH lC=>?_
     refine aZ hp ax hc rfl fun K44 wS=>?_
     refine c6 pg ?_
     refine BB (nQ) ?_ ?_
     ·exact Ni
     refine c6 pg ?_
     refine bx (CC) rfl ?_
     refine c6 pg ?_
     refine wS _ _ ?_
     refine bA ?_
     refine bg (lC _ _ ?_)
     refine aZ hp ax hc rfl fun Lo sQ=>?_
     have wT:∀τ' H',(∃τ1 H1,∃(b:Bool),((b=true→mN (2+n.ins.length+k) (nth n.gates k)=false)∧(b=false→mN (2+n.ins.length+k) (nth n.gates k)=true))∧H1=[.cells (ak (dp n)),.cells [.d (iD (2+n.ins.length))]]∧τ1=aF [(1,.op 0 0),(3,.op 1 0),(4,.d (iD (2+n.ins.length+n.gates.length))),(5,.d (.val (.func (.func 65) #[] #[]))),(58,.d (bt n.gates)),(59,.d (iD n.gates.length)),(60,.d (iD k)),(100,.d (oD b))]∧Rt [] τ' H' τ1 H1)→Lo τ' H':=by
      rintro τ' H' ⟨_,_,b,⟨CE,Hw⟩,rfl,rfl,qL⟩
      refine sQ _ _ (bC hp qL ?_)
      clear qL
      refine bf rfl (fun ht=>?_) (fun ht=>?_)
      ·have hv:=yR aA (CE ht)
       refine ah (gh ·) ?_
       refine aM ?_
       show ai _ _=_
       refine iK ?_
       rw[hv]
      ·have hw:=Hw ht
       refine bg (fG _ _ ?_)
       refine bT hp ax hc rfl fun CY jC=>?_
       refine iB ?_
       refine jC _ _ ⟨_,_,_,?_,⟨k+1,⟨by omega,An l9 hw⟩,rfl,rfl,rfl⟩,?_⟩
       ·first|omega|(simp only[List.length_cons];omega)|(dsimp only;omega)
       ·refine pJ [0,1] ?_
        refine oY ?_
        exact oX
     rcases Ro (g:=nth n.gates k)with⟨e3,hn⟩|⟨e3,e5,hn⟩|⟨e3,e5,e6,e4,hn⟩|⟨e3,e5,e6,e4,hn⟩|⟨e3,hn⟩
     ·have q4:decide ((nth n.gates k).n<0)=true:=decide_eq_true (by omega)
      have q5:=q4
      have q6:=q4
      have q9:=q4
      refine c6 (aw q4 (aw q5 (aw q6 q9))) ?_
      refine(wT _ _ ⟨_,_,true,⟨fun _=>OK hn,fun e=>by cases e⟩,rfl,rfl,?_⟩)
      refine pJ [0,1] ?_
      refine oY ?_
      exact oX
     ·have q4:decide ((nth n.gates k).n<0)=false:=decide_eq_false (by omega)
      have q5:decide (63<(nth n.gates k).n)=true:=decide_eq_true (by omega)
      have q6:=q5
      have q9:=q5
      refine c6 (aw q4 (aw q5 (aw q6 q9))) ?_
      refine(wT _ _ ⟨_,_,true,⟨fun _=>OK hn,fun e=>by cases e⟩,rfl,rfl,?_⟩)
      refine pJ [0,1] ?_
      refine oY ?_
      exact oX
     ·have q4:decide ((nth n.gates k).n<0)=false:=decide_eq_false (by omega)
      have q5:decide (63<(nth n.gates k).n)=false:=decide_eq_false (by omega)
      have q6:decide (0<(nth n.gates k).n)=true:=decide_eq_true (by omega)
      have q9:((nth n.gates k).op !=7)=true:=by simp[e4]
      refine c6 (aw q4 (aw q5 (aw q6 q9))) ?_
      refine(wT _ _ ⟨_,_,true,⟨fun _=>OK hn,fun e=>by cases e⟩,rfl,rfl,?_⟩)
      refine pJ [0,1] ?_
      refine oY ?_
      exact oX
     ·have q4:decide ((nth n.gates k).n<0)=false:=decide_eq_false (by omega)
      have q5:decide (63<(nth n.gates k).n)=false:=decide_eq_false (by omega)
      have q6:decide (0<(nth n.gates k).n)=true:=decide_eq_true (by omega)
      have q9:((nth n.gates k).op !=7)=false:=by simp[e4]
      refine c6 (aw q4 (aw q5 (aw q6 q9))) ?_
      refine(wT _ _ ⟨_,_,false,⟨fun e=>by(cases e),fun _=>Xj ho.1 ho.2 hu hr hn⟩,rfl,rfl,?_⟩)
      refine pJ [0,1] ?_
      refine oY ?_
      exact oX
     ·have q4:decide ((nth n.gates k).n<0)=false:=decide_eq_false (by omega)
      have q5:decide (63<(nth n.gates k).n)=false:=decide_eq_false (by omega)
      have q6:decide (0<(nth n.gates k).n)=false:=decide_eq_false (by omega)
      have q9:=q6
      refine c6 (aw q4 (aw q5 (aw q6 q9))) ?_
      refine(wT _ _ ⟨_,_,false,⟨fun e=>by(cases e),fun _=>Xj ho.1 ho.2 hu hr hn⟩,rfl,rfl,?_⟩)
      refine pJ [0,1] ?_
      refine oY ?_
      exact oX
   ·have bM:k=n.gates.length:=by simp at ht;omega
    subst bM
    clear hk
    have sL:=l9
    clear l9
    refine cJ (fa _ _ ?_)
    refine aD fun QU sP=>?_
    refine ah (iB ·) ?_
    refine aW ?_
    refine cU hp (fun τ' H' mm=>∃(k:Nat),(k≤n.out.length∧∀j,j<k→vU (nth n.out j)=true∧eK true (nth n.aP j) (qK n)=true)∧mm=n.out.length - k∧H'=[.cells (ak (dp n))]∧τ'=aF [(1,.op 0 0),(4,.d (iD (2+n.ins.length+n.gates.length))),(5,.d (.val (.func (.func 65) #[] #[]))),(103,.d (bQ n.out)),(104,.d (iD n.out.length)),(105,.d (iD k))]) (n.out.length) ?_ ⟨0,⟨cF _,fun j hj=>absurd hj (Nat.not_lt_zero _)⟩,rfl,rfl,rfl⟩ ?_
    ·refine pJ [0] ?_
     refine oY ?_
     exact oX
    rintro τ' H' mm ⟨k,⟨hk,l9⟩,rfl,rfl,rfl⟩
    refine ah (iB ·) ?_
    refine aD fun K51 wR=>?_
    refine bf rfl (fun ht=>?_) (fun ht=>?_)
    ·have aA:k<n.out.length:=by simp at ht;omega
     have lA:=Zr (nth n.out k)
     have gk:(n.aP.map iD)[k]? =some (iD (nth n.aP k)):=db (by omega)
     refine bg (wR _ _ ?_)
     refine aD fun K52 zt=>?_
     refine aW ?_
     refine ah (jmp ·) ?_
     refine aZ hp ax hc rfl fun K54 lB=>?_
     rcases jml (nth n.out k) (nth n.aP k) (qK n)with hb|⟨hb,e3,e4⟩|⟨hb,e3,e4,e5⟩|⟨hb,e3,e6⟩|⟨hb,e3,e6,e7⟩|⟨hb,e3,e6,e7⟩|⟨hb,e3,e4,e5,e6⟩|⟨hb,e3,e4,e5,e6,e7⟩|⟨hb,e3,e4,e5,e6,e7⟩
     ·rw[hb]at lA
      have hv:=wg aA (B9 hb)
      have q2:=hb
      have q3:=hb
      have q4:=hb
      have q5:=hb
      have q6:=hb
      refine c6 gk ?_
      refine bx (lA) rfl ?_
      refine c6 (aw gk (aw q2 (aw q3 (aw q4 (aw q5 (aw q6 gk)))))) ?_
      refine lB _ _ ?_
      refine dh ?_
      refine ah (gh ·) ?_
      refine aM ?_
      show ai _ _=_
      refine iK ?_
      rw[hv]
     ·rw[hb]at lA
      have hv:=wg aA (Js (Jq e3 (.inl e4)))
      have q6:((nth n.out k).kind !=1)=true:=by simp[e3]
      have q4:decide ((nth n.out k).kind<5)=true:=decide_eq_true (e4)
      have q5:=q4
      have q2:=q4
      have q3:=q4
      refine c6 gk ?_
      refine bx (lA) rfl ?_
      refine c6 (aw gk (aw q2 (aw q3 (aw q4 (aw q5 (aw q6 gk)))))) ?_
      refine lB _ _ ?_
      refine dh ?_
      refine ah (gh ·) ?_
      refine aM ?_
      show ai _ _=_
      refine iK ?_
      rw[hv]
     ·rw[hb]at lA
      have hv:=wg aA (Js (Jq e3 (.inr e5)))
      have q6:((nth n.out k).kind !=1)=true:=by simp[e3]
      have q4:decide ((nth n.out k).kind<5)=false:=decide_eq_false (e4)
      have q5:decide (10<(nth n.out k).kind)=true:=decide_eq_true (e5)
      have q2:=q4
      have q3:=q4
      refine c6 gk ?_
      refine bx (lA) rfl ?_
      refine c6 (aw gk (aw q2 (aw q3 (aw q4 (aw q5 (aw q6 gk)))))) ?_
      refine lB _ _ ?_
      refine dh ?_
      refine ah (gh ·) ?_
      refine aM ?_
      show ai _ _=_
      refine iK ?_
      rw[hv]
     ·rw[hb]at lA
      have pj:=ru (w:=nth n.out k) (.inl e3)
      have q6:((nth n.out k).kind !=1)=false:=by simp[e3]
      have q4:=q6
      have q5:=q6
      have hv:=DP aA (KL (.inl e6))
      have q2:decide (nth n.aP k<0)=true:=decide_eq_true (e6)
      have q3:=q2
      refine c6 gk ?_
      refine bx (lA) rfl ?_
      refine c6 (aw gk (aw q2 (aw q3 (aw q4 (aw q5 (aw q6 gk)))))) ?_
      refine lB _ _ ?_
      refine dh ?_
      refine ah (gh ·) ?_
      refine aM ?_
      show ai _ _=_
      refine iK ?_
      rw[hv]
     ·rw[hb]at lA
      have pj:=ru (w:=nth n.out k) (.inl e3)
      have q6:((nth n.out k).kind !=1)=false:=by simp[e3]
      have q4:=q6
      have q5:=q6
      have hv:=DP aA (KL (.inr e7))
      have q2:decide (nth n.aP k<0)=false:=decide_eq_false (e6)
      have q3:decide (2+(n.ins.length:Int)+n.gates.length≤nth n.aP k)=true:=decide_eq_true (e7)
      refine c6 gk ?_
      refine bx (lA) rfl ?_
      refine c6 (aw gk (aw q2 (aw q3 (aw q4 (aw q5 (aw q6 gk)))))) ?_
      refine lB _ _ ?_
      refine dh ?_
      refine ah (gh ·) ?_
      refine aM ?_
      show ai _ _=_
      refine iK ?_
      rw[hv]
     ·rw[hb]at lA
      have pj:=ru (w:=nth n.out k) (.inl e3)
      have q6:((nth n.out k).kind !=1)=false:=by simp[e3]
      have q4:=q6
      have q5:=q6
      have hw:=And.intro (JZ hb pj) (Zq (m:=qK n) e6 e7)
      have q2:decide (nth n.aP k<0)=false:=decide_eq_false (e6)
      have q3:decide (2+(n.ins.length:Int)+n.gates.length≤nth n.aP k)=false:=decide_eq_false (e7)
      refine c6 gk ?_
      refine bx (lA) rfl ?_
      refine c6 (aw gk (aw q2 (aw q3 (aw q4 (aw q5 (aw q6 gk)))))) ?_
      refine lB _ _ ?_
      refine bA ?_
      refine bg (zt _ _ ?_)
      refine bT hp ax hc rfl fun K60 wQ=>?_
      refine iB ?_
      refine wQ _ _ ⟨_,_,_,?_,⟨k+1,⟨by omega,An l9 hw⟩,rfl,rfl,rfl⟩,?_⟩
      ·first|omega|(simp only[List.length_cons];omega)|(dsimp only;omega)
      ·refine pJ [0] ?_
       refine oY ?_
       exact oX
     ·rw[hb]at lA
      have pj:=ru (w:=nth n.out k) (.inr ⟨e4,e5⟩)
      have q6:((nth n.out k).kind !=1)=true:=by simp[e3]
      have q4:decide ((nth n.out k).kind<5)=false:=decide_eq_false (e4)
      have q5:decide (10<(nth n.out k).kind)=false:=decide_eq_false (e5)
      have hv:=DP aA (KL (.inl e6))
      have q2:decide (nth n.aP k<0)=true:=decide_eq_true (e6)
      have q3:=q2
      refine c6 gk ?_
      refine bx (lA) rfl ?_
      refine c6 (aw gk (aw q2 (aw q3 (aw q4 (aw q5 (aw q6 gk)))))) ?_
      refine lB _ _ ?_
      refine dh ?_
      refine ah (gh ·) ?_
      refine aM ?_
      show ai _ _=_
      refine iK ?_
      rw[hv]
     ·rw[hb]at lA
      have pj:=ru (w:=nth n.out k) (.inr ⟨e4,e5⟩)
      have q6:((nth n.out k).kind !=1)=true:=by simp[e3]
      have q4:decide ((nth n.out k).kind<5)=false:=decide_eq_false (e4)
      have q5:decide (10<(nth n.out k).kind)=false:=decide_eq_false (e5)
      have hv:=DP aA (KL (.inr e7))
      have q2:decide (nth n.aP k<0)=false:=decide_eq_false (e6)
      have q3:decide (2+(n.ins.length:Int)+n.gates.length≤nth n.aP k)=true:=decide_eq_true (e7)
      refine c6 gk ?_
      refine bx (lA) rfl ?_
      refine c6 (aw gk (aw q2 (aw q3 (aw q4 (aw q5 (aw q6 gk)))))) ?_
      refine lB _ _ ?_
      refine dh ?_
      refine ah (gh ·) ?_
      refine aM ?_
      show ai _ _=_
      refine iK ?_
      rw[hv]
     ·rw[hb]at lA
      have pj:=ru (w:=nth n.out k) (.inr ⟨e4,e5⟩)
      have q6:((nth n.out k).kind !=1)=true:=by simp[e3]
      have q4:decide ((nth n.out k).kind<5)=false:=decide_eq_false (e4)
      have q5:decide (10<(nth n.out k).kind)=false:=decide_eq_false (e5)
      have hw:=And.intro (JZ hb pj) (Zq (m:=qK n) e6 e7)
      have q2:decide (nth n.aP k<0)=false:=decide_eq_false (e6)
      have q3:decide (2+(n.ins.length:Int)+n.gates.length≤nth n.aP k)=false:=decide_eq_false (e7)
      refine c6 gk ?_
      refine bx (lA) rfl ?_
      refine c6 (aw gk (aw q2 (aw q3 (aw q4 (aw q5 (aw q6 gk)))))) ?_
      refine lB _ _ ?_
      refine bA ?_
      refine bg (zt _ _ ?_)
      refine bT hp ax hc rfl fun K63 wP=>?_
      refine iB ?_
      refine wP _ _ ⟨_,_,_,?_,⟨k+1,⟨by omega,An l9 hw⟩,rfl,rfl,rfl⟩,?_⟩
      ·first|omega|(simp only[List.length_cons];omega)|(dsimp only;omega)
      ·refine pJ [0] ?_
       refine oY ?_
       exact oX
    ·have bM:k=n.out.length:=by simp at ht;omega
     subst bM
     have hv:=Xl (n:=n) ⟨by unfold qK;omega,e2,pe,sL,l9⟩
     refine cJ (sP _ _ ?_)
     refine ah (gh ·) ?_
     refine aM ?_
     show ai _ _=_
     refine iK ?_
     rw[hv]
theorem yav(n:Net)(h1:n.ins.length≤1000)(h2:n.gates.length≤1000)(h3:n.out.length≤1000)(h4:n.aP.length≤1000):dq prog 15 [dt n] (.d (oD (oZ n))):=by
 have m3:(1000:Nat)≤maxLen:=by unfold maxLen;decide
 have gq:=jhu n (by omega) (by omega)
 refine fh (fn:=f15) (by kernel_rfl) func15 rfl (cn rfl) fun c hc hp=>?_
 refine dY (τ':=aF [(0,.d (dt n))]) (by repeat (first|exact cw _|refine cg ?_ (by first|rfl|(simp[aX,aQ,bc];done)|simp[aX,aQ,bc, *]))) ?_
 refine ah (iB ·) ?_
 refine aD fun K2 bS=>?_
 refine aZ hp ax hc rfl fun K3 cm=>?_
 rcases(show 600<2+(n.ins.length:Int)+n.gates.length∨(¬600<2+(n.ins.length:Int)+n.gates.length∧n.out.length≠n.aP.length)∨(¬600<2+(n.ins.length:Int)+n.gates.length∧n.out.length=n.aP.length) by omega)with e|⟨e,e2⟩|⟨e,e2⟩
 ·have hv:oZ n=false:=zL fun v=>by have:=v.len;unfold qK at this;omega
  have q0:decide ((600:Int)<2+n.ins.length+n.gates.length)=true:=decide_eq_true e
  have q1:=q0
  refine c6 (aw q0 q1) ?_
  refine bx (gq) rfl ?_
  refine c6 (aw q0 q1) ?_
  refine cm _ _ ?_
  refine dh ?_
  refine ah (gh ·) ?_
  refine aM ?_
  show ai _ _=_
  refine iK ?_
  rw[hv]
 ·have hv:oZ n=false:=zL fun v=>e2 v.d0
  have q0:decide ((600:Int)<2+n.ins.length+n.gates.length)=false:=decide_eq_false e
  have q1:((n.out.length:Int) !=n.aP.length)=true:=by simp;omega
  refine c6 (aw q0 q1) ?_
  refine bx (gq) rfl ?_
  refine c6 (aw q0 q1) ?_
  refine cm _ _ ?_
  refine dh ?_
  refine ah (gh ·) ?_
  refine aM ?_
  show ai _ _=_
  refine iK ?_
  rw[hv]
 ·have q0:decide ((600:Int)<2+n.ins.length+n.gates.length)=false:=decide_eq_false e
  have q1:((n.out.length:Int) !=n.aP.length)=false:=by simp;omega
  refine c6 (aw q0 q1) ?_
  refine bx (gq) rfl ?_
  refine c6 (aw q0 q1) ?_
  refine cm _ _ ?_
  refine bA ?_
  refine bg (bS _ _ ?_)
  refine aD fun K6 cK=>?_
  refine ah (gh ·) ?_
  refine aW ?_
  refine cU hp (fun τ' H' mm=>∃(k:Nat),(k≤n.ins.length∧∀j,j<k→ug (nth n.ins j)=true)∧mm=n.ins.length - k∧H'=[.cells (ak (dp n))]∧τ'=aF [(1,.op 0 0),(3,.d (iD k))]) (n.ins.length) ?_ ⟨0,⟨cF _,fun j hj=>absurd hj (Nat.not_lt_zero _)⟩,rfl,rfl,rfl⟩ ?_
  ·refine oY ?_
   exact oX
  rintro τ' H' mm ⟨k,⟨hk,l9⟩,rfl,rfl,rfl⟩
  refine aD fun K8 dP=>?_
  refine ah (iB ·) ?_
  refine bf rfl (fun ht=>?_) (fun ht=>?_)
  ·have aA:k<n.ins.length:=by simp at ht;omega
   refine bg (dP _ _ ?_)
   refine aD fun j4 bW=>?_
   refine aW ?_
   refine ah (jmp ·) ?_
   refine aZ hp ax hc rfl fun lK bN=>?_
   rcases jmn (nth n.ins k)with e3|⟨e3,e4⟩|⟨e3,e4,e5⟩|⟨e3,e4,e5,e6⟩|⟨e3,e4,e5,e6,e7⟩|⟨e3,e4,e5,e6,e7⟩
   ·have q2:decide ((nth n.ins k).kind<1)=true:=decide_eq_true (e3)
    have q3:=q2
    have q4:=q2
    have q5:=q2
    have q6:=q2
    have hv:=AE aA (VQ e3)
    refine c6 (aw q2 (aw q3 (aw q4 (aw q5 q6)))) ?_
    refine bN _ _ ?_
    refine dh ?_
    refine ah (gh ·) ?_
    refine aM ?_
    show ai _ _=_
    refine iK ?_
    rw[hv]
   ·have q2:decide ((nth n.ins k).kind<1)=false:=decide_eq_false (e3)
    have q3:decide (4<(nth n.ins k).kind)=true:=decide_eq_true (e4)
    have q4:=q2
    have q5:=q2
    have q6:=q2
    have hv:=AE aA (VP e4)
    refine c6 (aw q2 (aw q3 (aw q4 (aw q5 q6)))) ?_
    refine bN _ _ ?_
    refine dh ?_
    refine ah (gh ·) ?_
    refine aM ?_
    show ai _ _=_
    refine iK ?_
    rw[hv]
   ·have q2:decide ((nth n.ins k).kind<1)=false:=decide_eq_false (e3)
    have q3:decide (4<(nth n.ins k).kind)=false:=decide_eq_false (e4)
    have q4:decide ((nth n.ins k).i<0)=true:=decide_eq_true (e5)
    have q5:=q2
    have q6:=q2
    have hv:=AE aA (Jt (yQ (by omega)))
    refine c6 (aw q2 (aw q3 (aw q4 (aw q5 q6)))) ?_
    refine bN _ _ ?_
    refine dh ?_
    refine ah (gh ·) ?_
    refine aM ?_
    show ai _ _=_
    refine iK ?_
    rw[hv]
   ·have q2:decide ((nth n.ins k).kind<1)=false:=decide_eq_false (e3)
    have q3:decide (4<(nth n.ins k).kind)=false:=decide_eq_false (e4)
    have q4:decide ((nth n.ins k).i<0)=false:=decide_eq_false (e5)
    have q5:decide ((nth n.ins k).bit<0)=true:=decide_eq_true (e6)
    have q6:=q2
    have hv:=AE aA (Jt (yQ (by omega)))
    refine c6 (aw q2 (aw q3 (aw q4 (aw q5 q6)))) ?_
    refine bN _ _ ?_
    refine dh ?_
    refine ah (gh ·) ?_
    refine aM ?_
    show ai _ _=_
    refine iK ?_
    rw[hv]
   ·have q2:decide ((nth n.ins k).kind<1)=false:=decide_eq_false (e3)
    have q3:decide (4<(nth n.ins k).kind)=false:=decide_eq_false (e4)
    have q4:decide ((nth n.ins k).i<0)=false:=decide_eq_false (e5)
    have q5:decide ((nth n.ins k).bit<0)=false:=decide_eq_false (e6)
    have q6:decide (7<(nth n.ins k).bit)=true:=decide_eq_true (e7)
    have hv:=AE aA (Jt (yQ (by omega)))
    refine c6 (aw q2 (aw q3 (aw q4 (aw q5 q6)))) ?_
    refine bN _ _ ?_
    refine dh ?_
    refine ah (gh ·) ?_
    refine aM ?_
    show ai _ _=_
    refine iK ?_
    rw[hv]
   ·have q2:decide ((nth n.ins k).kind<1)=false:=decide_eq_false (e3)
    have q3:decide (4<(nth n.ins k).kind)=false:=decide_eq_false (e4)
    have q4:decide ((nth n.ins k).i<0)=false:=decide_eq_false (e5)
    have q5:decide ((nth n.ins k).bit<0)=false:=decide_eq_false (e6)
    have q6:decide (7<(nth n.ins k).bit)=false:=decide_eq_false (e7)
    have hw:=XA (MW e5 e6 e7) (show 1≤(nth n.ins k).kind by omega) (show(nth n.ins k).kind≤4 by omega)
    refine c6 (aw q2 (aw q3 (aw q4 (aw q5 q6)))) ?_
    refine bN _ _ ?_
    refine bA ?_
    refine bg (bW _ _ ?_)
    refine bT hp ax hc rfl fun zD iW=>?_
    refine iB ?_
    refine iW _ _ ⟨_,_,_,?_,⟨k+1,⟨by omega,An l9 hw⟩,rfl,rfl,rfl⟩,?_⟩
    ·first|omega|(simp only[List.length_cons];omega)|(dsimp only;omega)
    ·refine pJ [0] ?_
     refine oY ?_
     exact oX
  ·have bM:k=n.ins.length:=by simp at ht;omega
   subst bM
   clear hk
   have pe:=l9
   clear l9
   refine cJ (cK _ _ ?_)
   refine aD fun rY eN=>?_
   refine ah (gh ·) ?_
   refine aW ?_
   refine cU hp (fun τ' H' mm=>∃(k:Nat),(k≤n.gates.length∧∀j,j<k→mN (2+n.ins.length+j) (nth n.gates j)=true)∧mm=n.gates.length - k∧H'=[.cells (ak (dp n))]∧τ'=aF [(1,.op 0 0),(5,.d (iD k))]) (n.gates.length) ?_ ⟨0,⟨cF _,fun j hj=>absurd hj (Nat.not_lt_zero _)⟩,rfl,rfl,rfl⟩ ?_
   ·refine pJ [0] ?_
    refine oY ?_
    exact oX
   rintro τ' H' mm ⟨k,⟨hk,l9⟩,rfl,rfl,rfl⟩
   refine aD fun yj im=>?_
   refine ah (iB ·) ?_
   refine bf rfl (fun ht=>?_) (fun ht=>?_)
   ·have aA:k<n.gates.length:=by simp at ht;omega
    refine bg (im _ _ ?_)
    refine aD fun vA fM=>?_
    refine aW ?_
    refine aZ hp ax hc rfl fun yh fG=>?_
    rcases jmk (2+(n.ins.length:Int)+(k:Int)) (nth n.gates k)with ho|⟨ho,a1⟩|⟨ho,a1,a2⟩|⟨ho,a1,a2,a3⟩|⟨ho,a1,a2,a3,a4⟩|⟨ho,a1,a2,a3,a4⟩
    ·have hv:=yR aA (Xk ho)
     have nk:=jtk ho
     have k0:decide ((-1:Int)<0)=true:=rfl
     refine xe ?_
     refine fG _ _ ?_
     refine dO ax hc mixed rfl (q:=0) (by kernel_rfl) (by kernel_rfl) fun C0 jY=>?_
     refine iB ?_
     refine bx (nk) rfl ?_
     refine iB ?_
     refine jY _ _ ?_
     refine ah (c6 k0 ·) ?_
     refine dh ?_
     refine ah (gh ·) ?_
     refine aM ?_
     show ai _ _=_
     refine iK ?_
     rw[hv]
    ·have nk:=Dd ho.1 ho.2
     have k1:=og true (nth n.gates k).a (2+n.ins.length+k)
     have k2:=og (decide ((1:Int)<jy (nth n.gates k).op)) (nth n.gates k).b (2+n.ins.length+k)
     have k3:=og (decide ((2:Int)<jy (nth n.gates k).op)) (nth n.gates k).c (2+n.ins.length+k)
     have k4:=og ((nth n.gates k).op==7) (nth n.gates k).n 64
     rw[a1]at k1
     have hv:oZ n=false:=yR aA (by unfold mN;rw[a1];simp)
     obtain⟨ar,zq⟩:∃ar:Nat,ar=jy (nth n.gates k).op:=⟨_,rfl⟩
     rw[←zq]at nk k2 k3
     have k0:decide ((ar:Int)<0)=false:=decide_eq_false (by omega)
     refine xe ?_
     refine fG _ _ ?_
     refine dO ax hc mixed rfl (q:=0) (by kernel_rfl) (by kernel_rfl) fun Bk jX=>?_
     refine iB ?_
     refine bx (nk) rfl ?_
     refine iB ?_
     refine jX _ _ ?_
     refine aZ hp ax hc rfl fun Ir nu=>?_
     refine c6 k0 ?_
     refine bx (k1) rfl ?_
     refine c6 k0 ?_
     refine nu _ _ ?_
     refine dh ?_
     refine ah (gh ·) ?_
     refine aM ?_
     show ai _ _=_
     refine iK ?_
     rw[hv]
    ·have nk:=Dd ho.1 ho.2
     have k1:=og true (nth n.gates k).a (2+n.ins.length+k)
     have k2:=og (decide ((1:Int)<jy (nth n.gates k).op)) (nth n.gates k).b (2+n.ins.length+k)
     have k3:=og (decide ((2:Int)<jy (nth n.gates k).op)) (nth n.gates k).c (2+n.ins.length+k)
     have k4:=og ((nth n.gates k).op==7) (nth n.gates k).n 64
     rw[a1]at k1
     rw[a2]at k2
     have hv:oZ n=false:=yR aA (by unfold mN;rw[a2];simp)
     obtain⟨ar,zq⟩:∃ar:Nat,ar=jy (nth n.gates k).op:=⟨_,rfl⟩
     rw[←zq]at nk k2 k3
     have k0:decide ((ar:Int)<0)=false:=decide_eq_false (by omega)
     refine xe ?_
     refine fG _ _ ?_
     refine dO ax hc mixed rfl (q:=0) (by kernel_rfl) (by kernel_rfl) fun zC ij=>?_
     refine iB ?_
     refine bx (nk) rfl ?_
     refine iB ?_
     refine ij _ _ ?_
     refine aZ hp ax hc rfl fun QX sV=>?_
     refine c6 k0 ?_
     refine bx (k1) rfl ?_
     refine c6 k0 ?_
     refine bx (k2) rfl ?_
     refine c6 k0 ?_
     refine sV _ _ ?_
     refine dh ?_
     refine ah (gh ·) ?_
     refine aM ?_
     show ai _ _=_
     refine iK ?_
     rw[hv]
    ·have nk:=Dd ho.1 ho.2
     have k1:=og true (nth n.gates k).a (2+n.ins.length+k)
     have k2:=og (decide ((1:Int)<jy (nth n.gates k).op)) (nth n.gates k).b (2+n.ins.length+k)
     have k3:=og (decide ((2:Int)<jy (nth n.gates k).op)) (nth n.gates k).c (2+n.ins.length+k)
     have k4:=og ((nth n.gates k).op==7) (nth n.gates k).n 64
     rw[a1]at k1
     rw[a2]at k2
     rw[a3]at k3
     have hv:oZ n=false:=yR aA (by unfold mN;rw[a3];simp)
     obtain⟨ar,zq⟩:∃ar:Nat,ar=jy (nth n.gates k).op:=⟨_,rfl⟩
     rw[←zq]at nk k2 k3
     have k0:decide ((ar:Int)<0)=false:=decide_eq_false (by omega)
     refine xe ?_
     refine fG _ _ ?_
     refine dO ax hc mixed rfl (q:=0) (by kernel_rfl) (by kernel_rfl) fun Bi jD=>?_
     refine iB ?_
     refine bx (nk) rfl ?_
     refine iB ?_
     refine jD _ _ ?_
     refine aZ hp ax hc rfl fun CZ kr=>?_
     refine c6 k0 ?_
     refine bx (k1) rfl ?_
     refine c6 k0 ?_
     refine bx (k2) rfl ?_
     refine c6 k0 ?_
     refine bx (k3) rfl ?_
     refine c6 k0 ?_
     refine kr _ _ ?_
     refine dh ?_
     refine ah (gh ·) ?_
     refine aM ?_
     show ai _ _=_
     refine iK ?_
     rw[hv]
    ·have nk:=Dd ho.1 ho.2
     have k1:=og true (nth n.gates k).a (2+n.ins.length+k)
     have k2:=og (decide ((1:Int)<jy (nth n.gates k).op)) (nth n.gates k).b (2+n.ins.length+k)
     have k3:=og (decide ((2:Int)<jy (nth n.gates k).op)) (nth n.gates k).c (2+n.ins.length+k)
     have k4:=og ((nth n.gates k).op==7) (nth n.gates k).n 64
     rw[a1]at k1
     rw[a2]at k2
     rw[a3]at k3
     rw[a4]at k4
     have hv:oZ n=false:=yR aA (by unfold mN;rw[a4];simp)
     obtain⟨ar,zq⟩:∃ar:Nat,ar=jy (nth n.gates k).op:=⟨_,rfl⟩
     rw[←zq]at nk k2 k3
     have k0:decide ((ar:Int)<0)=false:=decide_eq_false (by omega)
     refine xe ?_
     refine fG _ _ ?_
     refine dO ax hc mixed rfl (q:=0) (by kernel_rfl) (by kernel_rfl) fun Lp pt=>?_
     refine iB ?_
     refine bx (nk) rfl ?_
     refine iB ?_
     refine pt _ _ ?_
     refine aZ hp ax hc rfl fun Iq ns=>?_
     refine c6 k0 ?_
     refine bx (k1) rfl ?_
     refine c6 k0 ?_
     refine bx (k2) rfl ?_
     refine c6 k0 ?_
     refine bx (k3) rfl ?_
     refine c6 k0 ?_
     refine bx (k4) rfl ?_
     refine c6 k0 ?_
     refine ns _ _ ?_
     refine dh ?_
     refine ah (gh ·) ?_
     refine aM ?_
     show ai _ _=_
     refine iK ?_
     rw[hv]
    ·have nk:=Dd ho.1 ho.2
     have k1:=og true (nth n.gates k).a (2+n.ins.length+k)
     have k2:=og (decide ((1:Int)<jy (nth n.gates k).op)) (nth n.gates k).b (2+n.ins.length+k)
     have k3:=og (decide ((2:Int)<jy (nth n.gates k).op)) (nth n.gates k).c (2+n.ins.length+k)
     have k4:=og ((nth n.gates k).op==7) (nth n.gates k).n 64
     rw[a1]at k1
     rw[a2]at k2
     rw[a3]at k3
     rw[a4]at k4
     have hw:mN (2+n.ins.length+k) (nth n.gates k)=true:=by unfold mN;rw[a1,a2,a3,a4,decide_eq_true ho.1,decide_eq_true ho.2];rfl
     obtain⟨ar,zq⟩:∃ar:Nat,ar=jy (nth n.gates k).op:=⟨_,rfl⟩
     rw[←zq]at nk k2 k3
     have k0:decide ((ar:Int)<0)=false:=decide_eq_false (by omega)
     refine xe ?_
     refine fG _ _ ?_
     refine dO ax hc mixed rfl (q:=0) (by kernel_rfl) (by kernel_rfl) fun QV sR=>?_
     refine iB ?_
     refine bx (nk) rfl ?_
     refine iB ?_
     refine sR _ _ ?_
     refine aZ hp ax hc rfl fun Ip oz=>?_
     refine c6 k0 ?_
     refine bx (k1) rfl ?_
     refine c6 k0 ?_
     refine bx (k2) rfl ?_
     refine c6 k0 ?_
     refine bx (k3) rfl ?_
     refine c6 k0 ?_
     refine bx (k4) rfl ?_
     refine c6 k0 ?_
     refine oz _ _ ?_
     refine bA ?_
     refine bg (fM _ _ ?_)
     refine bT hp ax hc rfl fun Io np=>?_
     refine iB ?_
     refine np _ _ ⟨_,_,_,?_,⟨k+1,⟨by omega,An l9 hw⟩,rfl,rfl,rfl⟩,?_⟩
     ·first|omega|(simp only[List.length_cons];omega)|(dsimp only;omega)
     ·refine pJ [0] ?_
      refine oY ?_
      exact oX
   ·have bM:k=n.gates.length:=by simp at ht;omega
    subst bM
    clear hk
    have sL:=l9
    clear l9
    refine cJ (eN _ _ ?_)
    refine aD fun EH lC=>?_
    refine ah (gh ·) ?_
    refine aW ?_
    refine cU hp (fun τ' H' mm=>∃(k:Nat),(k≤n.out.length∧∀j,j<k→vU (nth n.out j)=true∧eK true (nth n.aP j) (qK n)=true)∧mm=n.out.length - k∧H'=[.cells (ak (dp n))]∧τ'=aF [(1,.op 0 0),(9,.d (iD k))]) (n.out.length) ?_ ⟨0,⟨cF _,fun j hj=>absurd hj (Nat.not_lt_zero _)⟩,rfl,rfl,rfl⟩ ?_
    ·refine pJ [0] ?_
     refine oY ?_
     exact oX
    rintro τ' H' mm ⟨k,⟨hk,l9⟩,rfl,rfl,rfl⟩
    refine aD fun Lo sQ=>?_
    refine ah (iB ·) ?_
    refine bf rfl (fun ht=>?_) (fun ht=>?_)
    ·have aA:k<n.out.length:=by simp at ht;omega
     have gk:(n.aP.map iD)[k]? =some (iD (nth n.aP k)):=db (by omega)
     have ko:=og true (nth n.aP k) (2+n.ins.length+n.gates.length)
     refine bg (sQ _ _ ?_)
     refine aD fun CY jC=>?_
     refine aW ?_
     refine ah (jmp ·) ?_
     refine dO ax hc mixed rfl (q:=0) (by kernel_rfl) (by kernel_rfl) fun K49 jW=>?_
     rcases jmm (nth n.out k) (eK true (nth n.aP k) (qK n))with⟨e3,e4⟩|⟨e3,e4,e5⟩|⟨e3,f0⟩|⟨e3,f0,f1⟩|⟨e3,f0,f1,f2⟩|⟨e3,f0,f1,f2,hu⟩|⟨e3,f0,f1,f2,hu⟩|⟨e3,e4,e5,f0⟩|⟨e3,e4,e5,f0,f1⟩|⟨e3,e4,e5,f0,f1,f2⟩|⟨e3,e4,e5,f0,f1,f2,hu⟩|⟨e3,e4,e5,f0,f1,f2,hu⟩
     ·have hv:=wg aA (Js (Jq e3 (.inl e4)))
      have q7:((nth n.out k).kind !=1)=true:=by simp[e3]
      have q2:decide ((nth n.out k).kind<5)=true:=decide_eq_true (e4)
      have q3:=q2
      have q4:=q2
      have q5:=q2
      have q6:=q2
      refine c6 (aw q2 (aw q3 (aw q4 (aw q5 (aw q6 (aw q7 gk)))))) ?_
      refine jW _ _ ?_
      refine dh ?_
      refine ah (gh ·) ?_
      refine aM ?_
      show ai _ _=_
      refine iK ?_
      rw[hv]
     ·have hv:=wg aA (Js (Jq e3 (.inr e5)))
      have q7:((nth n.out k).kind !=1)=true:=by simp[e3]
      have q2:decide ((nth n.out k).kind<5)=false:=decide_eq_false (e4)
      have q3:decide (10<(nth n.out k).kind)=true:=decide_eq_true (e5)
      have q4:=q2
      have q5:=q2
      have q6:=q2
      refine c6 (aw q2 (aw q3 (aw q4 (aw q5 (aw q6 (aw q7 gk)))))) ?_
      refine jW _ _ ?_
      refine dh ?_
      refine ah (gh ·) ?_
      refine aM ?_
      show ai _ _=_
      refine iK ?_
      rw[hv]
     ·have pj:=ru (w:=nth n.out k) (.inl e3)
      have q7:((nth n.out k).kind !=1)=false:=by simp[e3]
      have q2:=q7
      have q3:=q7
      have q4:decide ((nth n.out k).i<0)=true:=decide_eq_true (f0)
      have q5:=q7
      have q6:=q7
      have hv:=wg aA (B9 (yQ (by omega)))
      refine c6 (aw q2 (aw q3 (aw q4 (aw q5 (aw q6 (aw q7 gk)))))) ?_
      refine jW _ _ ?_
      refine dh ?_
      refine ah (gh ·) ?_
      refine aM ?_
      show ai _ _=_
      refine iK ?_
      rw[hv]
     ·have pj:=ru (w:=nth n.out k) (.inl e3)
      have q7:((nth n.out k).kind !=1)=false:=by simp[e3]
      have q2:=q7
      have q3:=q7
      have q4:decide ((nth n.out k).i<0)=false:=decide_eq_false (f0)
      have q5:decide ((nth n.out k).bit<0)=true:=decide_eq_true (f1)
      have q6:=q7
      have hv:=wg aA (B9 (yQ (by omega)))
      refine c6 (aw q2 (aw q3 (aw q4 (aw q5 (aw q6 (aw q7 gk)))))) ?_
      refine jW _ _ ?_
      refine dh ?_
      refine ah (gh ·) ?_
      refine aM ?_
      show ai _ _=_
      refine iK ?_
      rw[hv]
     ·have pj:=ru (w:=nth n.out k) (.inl e3)
      have q7:((nth n.out k).kind !=1)=false:=by simp[e3]
      have q2:=q7
      have q3:=q7
      have q4:decide ((nth n.out k).i<0)=false:=decide_eq_false (f0)
      have q5:decide ((nth n.out k).bit<0)=false:=decide_eq_false (f1)
      have q6:decide (7<(nth n.out k).bit)=true:=decide_eq_true (f2)
      have hv:=wg aA (B9 (yQ (by omega)))
      refine c6 (aw q2 (aw q3 (aw q4 (aw q5 (aw q6 (aw q7 gk)))))) ?_
      refine jW _ _ ?_
      refine dh ?_
      refine ah (gh ·) ?_
      refine aM ?_
      show ai _ _=_
      refine iK ?_
      rw[hv]
     ·have pj:=ru (w:=nth n.out k) (.inl e3)
      have q7:((nth n.out k).kind !=1)=false:=by simp[e3]
      have q2:=q7
      have q3:=q7
      have q4:decide ((nth n.out k).i<0)=false:=decide_eq_false (f0)
      have q5:decide ((nth n.out k).bit<0)=false:=decide_eq_false (f1)
      have q6:decide (7<(nth n.out k).bit)=false:=decide_eq_false (f2)
      rw[show eK true (nth n.aP k) (2+(n.ins.length:Int)+n.gates.length)=_ from hu]at ko
      have hv:=DP aA hu
      refine c6 (aw q2 (aw q3 (aw q4 (aw q5 (aw q6 (aw q7 gk)))))) ?_
      refine bx (gq) rfl ?_
      refine c6 (aw q2 (aw q3 (aw q4 (aw q5 (aw q6 (aw q7 gk)))))) ?_
      refine bx (ko) rfl ?_
      refine c6 (aw q2 (aw q3 (aw q4 (aw q5 (aw q6 (aw q7 gk)))))) ?_
      refine jW _ _ ?_
      refine dh ?_
      refine ah (gh ·) ?_
      refine aM ?_
      show ai _ _=_
      refine iK ?_
      rw[hv]
     ·have pj:=ru (w:=nth n.out k) (.inl e3)
      have q7:((nth n.out k).kind !=1)=false:=by simp[e3]
      have q2:=q7
      have q3:=q7
      have q4:decide ((nth n.out k).i<0)=false:=decide_eq_false (f0)
      have q5:decide ((nth n.out k).bit<0)=false:=decide_eq_false (f1)
      have q6:decide (7<(nth n.out k).bit)=false:=decide_eq_false (f2)
      rw[show eK true (nth n.aP k) (2+(n.ins.length:Int)+n.gates.length)=_ from hu]at ko
      have hw:=And.intro (JZ (MW f0 f1 f2) pj) hu
      refine c6 (aw q2 (aw q3 (aw q4 (aw q5 (aw q6 (aw q7 gk)))))) ?_
      refine bx (gq) rfl ?_
      refine c6 (aw q2 (aw q3 (aw q4 (aw q5 (aw q6 (aw q7 gk)))))) ?_
      refine bx (ko) rfl ?_
      refine c6 (aw q2 (aw q3 (aw q4 (aw q5 (aw q6 (aw q7 gk)))))) ?_
      refine jW _ _ ?_
      refine bA ?_
      refine bg (jC _ _ ?_)
      refine bT hp ax hc rfl fun K56 CM=>?_
      refine iB ?_
      refine CM _ _ ⟨_,_,_,?_,⟨k+1,⟨by omega,An l9 hw⟩,rfl,rfl,rfl⟩,?_⟩
      ·first|omega|(simp only[List.length_cons];omega)|(dsimp only;omega)
      ·refine pJ [0] ?_
       refine oY ?_
       exact oX
     ·have pj:=ru (w:=nth n.out k) (.inr ⟨e4,e5⟩)
      have q7:((nth n.out k).kind !=1)=true:=by simp[e3]
      have q2:decide ((nth n.out k).kind<5)=false:=decide_eq_false (e4)
      have q3:decide (10<(nth n.out k).kind)=false:=decide_eq_false (e5)
      have q4:decide ((nth n.out k).i<0)=true:=decide_eq_true (f0)
      have q5:=q7
      have q6:=q7
      have hv:=wg aA (B9 (yQ (by omega)))
      refine c6 (aw q2 (aw q3 (aw q4 (aw q5 (aw q6 (aw q7 gk)))))) ?_
      refine jW _ _ ?_
      refine dh ?_
      refine ah (gh ·) ?_
      refine aM ?_
      show ai _ _=_
      refine iK ?_
      rw[hv]
     ·have pj:=ru (w:=nth n.out k) (.inr ⟨e4,e5⟩)
      have q7:((nth n.out k).kind !=1)=true:=by simp[e3]
      have q2:decide ((nth n.out k).kind<5)=false:=decide_eq_false (e4)
      have q3:decide (10<(nth n.out k).kind)=false:=decide_eq_false (e5)
      have q4:decide ((nth n.out k).i<0)=false:=decide_eq_false (f0)
      have q5:decide ((nth n.out k).bit<0)=true:=decide_eq_true (f1)
      have q6:=q7
      have hv:=wg aA (B9 (yQ (by omega)))
      refine c6 (aw q2 (aw q3 (aw q4 (aw q5 (aw q6 (aw q7 gk)))))) ?_
      refine jW _ _ ?_
      refine dh ?_
      refine ah (gh ·) ?_
      refine aM ?_
      show ai _ _=_
      refine iK ?_
      rw[hv]
     ·have pj:=ru (w:=nth n.out k) (.inr ⟨e4,e5⟩)
      have q7:((nth n.out k).kind !=1)=true:=by simp[e3]
      have q2:decide ((nth n.out k).kind<5)=false:=decide_eq_false (e4)
      have q3:decide (10<(nth n.out k).kind)=false:=decide_eq_false (e5)
      have q4:decide ((nth n.out k).i<0)=false:=decide_eq_false (f0)
      have q5:decide ((nth n.out k).bit<0)=false:=decide_eq_false (f1)
      have q6:decide (7<(nth n.out k).bit)=true:=decide_eq_true (f2)
      have hv:=wg aA (B9 (yQ (by omega)))
      refine c6 (aw q2 (aw q3 (aw q4 (aw q5 (aw q6 (aw q7 gk)))))) ?_
      refine jW _ _ ?_
      refine dh ?_
      refine ah (gh ·) ?_
      refine aM ?_
      show ai _ _=_
      refine iK ?_
      rw[hv]
     ·have pj:=ru (w:=nth n.out k) (.inr ⟨e4,e5⟩)
      have q7:((nth n.out k).kind !=1)=true:=by simp[e3]
      have q2:decide ((nth n.out k).kind<5)=false:=decide_eq_false (e4)
      have q3:decide (10<(nth n.out k).kind)=false:=decide_eq_false (e5)
      have q4:decide ((nth n.out k).i<0)=false:=decide_eq_false (f0)
      have q5:decide ((nth n.out k).bit<0)=false:=decide_eq_false (f1)
      have q6:decide (7<(nth n.out k).bit)=false:=decide_eq_false (f2)
      rw[show eK true (nth n.aP k) (2+(n.ins.length:Int)+n.gates.length)=_ from hu]at ko
      have hv:=DP aA hu
      refine c6 (aw q2 (aw q3 (aw q4 (aw q5 (aw q6 (aw q7 gk)))))) ?_
      refine bx (gq) rfl ?_
      refine c6 (aw q2 (aw q3 (aw q4 (aw q5 (aw q6 (aw q7 gk)))))) ?_
      refine bx (ko) rfl ?_
      refine c6 (aw q2 (aw q3 (aw q4 (aw q5 (aw q6 (aw q7 gk)))))) ?_
      refine jW _ _ ?_
      refine dh ?_
      refine ah (gh ·) ?_
      refine aM ?_
      show ai _ _=_
      refine iK ?_
      rw[hv]
     ·have pj:=ru (w:=nth n.out k) (.inr ⟨e4,e5⟩)
      have q7:((nth n.out k).kind !=1)=true:=by simp[e3]
      have q2:decide ((nth n.out k).kind<5)=false:=decide_eq_false (e4)
      have q3:decide (10<(nth n.out k).kind)=false:=decide_eq_false (e5)
      have q4:decide ((nth n.out k).i<0)=false:=decide_eq_false (f0)
      have q5:decide ((nth n.out k).bit<0)=false:=decide_eq_false (f1)
      have q6:decide (7<(nth n.out k).bit)=false:=decide_eq_false (f2)
      rw[show eK true (nth n.aP k) (2+(n.ins.length:Int)+n.gates.length)=_ from hu]at ko
      have hw:=And.intro (JZ (MW f0 f1 f2) pj) hu
      refine c6 (aw q2 (aw q3 (aw q4 (aw q5 (aw q6 (aw q7 gk)))))) ?_
      refine bx (gq) rfl ?_
      refine c6 (aw q2 (aw q3 (aw q4 (aw q5 (aw q6 (aw q7 gk)))))) ?_
      refine bx (ko) rfl ?_
      refine c6 (aw q2 (aw q3 (aw q4 (aw q5 (aw q6 (aw q7 gk)))))) ?_
      refine jW _ _ ?_
      refine bA ?_
      refine bg (jC _ _ ?_)
      refine bT hp ax hc rfl fun K61 CK=>?_
      refine iB ?_
      refine CK _ _ ⟨_,_,_,?_,⟨k+1,⟨by omega,An l9 hw⟩,rfl,rfl,rfl⟩,?_⟩
      ·first|omega|(simp only[List.length_cons];omega)|(dsimp only;omega)
      ·refine pJ [0] ?_
       refine oY ?_
       exact oX
    ·have bM:k=n.out.length:=by simp at ht;omega
     subst bM
     have hv:=Xl (n:=n) ⟨by unfold qK;omega,e2,pe,sL,l9⟩
     refine cJ (lC _ _ ?_)
     refine ah (gh ·) ?_
     refine aM ?_
     show ai _ _=_
     refine iK ?_
     rw[hv]
end Go.Proofs.YtapjobndmmkanaaGreat
