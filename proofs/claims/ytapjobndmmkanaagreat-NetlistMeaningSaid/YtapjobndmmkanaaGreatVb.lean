/- Values of the nodes that a builder makes. -/
import Derived.Test.YtapjobndmmkanaaGreatOk
import Derived.Test.YtapjobndmmkanaaGreatQr
import Derived.Test.YtapjobndmmkanaaGreatVa
set_option linter.unusedVariables false
set_option linter.unusedSimpArgs false
namespace Go.Proofs.YtapjobndmmkanaaGreat
open Go.Proofs.Tryz
open Go Go.RowKit
section
theorem Nb(mems:List (List Int))(v:List Bool)(a b:Gs):jo mems v (a++b)=jo mems (jo mems v a) b:=by unfold jo;rw[List.foldl_append]
theorem JI(mems:List (List Int)):∀(b:Gs) (v:List Bool),∃t,jo mems v b=v++t
 |[],v=>⟨[],by simp[jo]⟩
 |g::b,v=>by
  obtain⟨t,ht⟩:=JI mems b (v++[rm mems v g])
  exact⟨rm mems v g::t,by show jo mems (v++[rm mems v g]) b=_;rw[ht];simp⟩
def vl(mems:List (List Int))(v0:List Bool)(gs:Gs)(x:Int):Bool:=nth (jo mems v0 gs) x.toNat
theorem jvq{mems:List (List Int)}{v t:List Bool}{g:Gate}(h:ya v.length g):rm mems (v++t) g=rm mems v g:=by
 have ha:=h.a0;have ha1:=h.a1;have hb:=h.b0;have Fb:=h.b1;have hc:=h.c0;have rC:=h.c1
 unfold rm
 rw[nQ (show g.a.toNat<v.length by omega),nQ (show g.b.toNat<v.length by omega),nQ (show g.c.toNat<v.length by omega)]
section
variable {mems:List (List Int)} {v0:List Bool} {m:Nat} {gs cW:Gs} {x y z:Int}
theorem gn(hm:v0.length=m)(hp:gs<+:cW)(hx:br m gs x):vl mems v0 cW x=vl mems v0 gs x:=by
 obtain⟨b,rfl⟩:=hp
 obtain⟨t,ht⟩:=JI mems b (jo mems v0 gs)
 unfold vl
 rw[Nb,ht,nQ]
 rw[sL]
 have:=hx.1;have:=hx.2;omega
theorem PW(hx:x.toNat<v0.length):vl mems v0 gs x=nth v0 x.toNat:=by
 obtain⟨t,ht⟩:=JI mems gs v0
 unfold vl
 rw[ht,nQ hx]
theorem YO(hm:v0.length=m)(h:GI m gs){k:Nat}(hk:k<gs.length):vl mems v0 gs ((m+k:Nat):Int)=rm mems (jo mems v0 gs) (nth gs k):=by
 obtain⟨t,ht⟩:=JI mems (gs.drop (k+1)) (jo mems v0 (gs.take (k+1)))
 have e:jo mems v0 gs=jo mems v0 (gs.take (k+1))++t:=by
  rw[←ht,←Nb,List.take_append_drop]
 have hl:(jo mems v0 (gs.take k)).length=m+k:=by rw[sL,hm,List.length_take];omega
 unfold vl
 rw[e,To mems v0 hk,List.append_assoc]
 have hr:=h.rg k hk
 rw[jvq (by rw[hl];exact hr.mono (by omega))]
 rw[Int.toNat_natCast,←hl,qx (bm _),Nat.sub_self]
 rfl
theorem B6(hm:v0.length=m)(h:GI m gs){g:Gate}(hr:ya ((m:Int)+gs.length) g):vl mems v0 (gX m gs g).1 (gX m gs g).2=rm mems (jo mems v0 gs) g:=by
 unfold gX
 by_cases hg:g∈gs
 ·rw[if_pos hg]
  obtain⟨h1,h2⟩:=ML hg
  rw[YO hm h h1,h2]
 ·rw[if_neg hg]
  unfold vl
  have hl:(jo mems v0 gs).length=m+gs.length:=by rw[sL,hm]
  have e:jo mems v0 (gs++[g])=jo mems v0 gs++[rm mems (jo mems v0 gs) g]:=by rw[Nb];rfl
  simp only
  rw[e,Int.toNat_natCast,←hl,Eg]
theorem PV(hm:v0.length=m)(h:GI m gs)(hx:br m gs x)(hi:iM m gs x≠ -1):vl mems v0 gs x= !vl mems v0 gs (iM m gs x):=by
 by_cases e:(m:Int)≤x∧(nth gs (x - m).toNat).op=1
 ·have hk:(x - m).toNat<gs.length:=by have:=hx.2;omega
  have e1:iM m gs x=(nth gs (x - m).toNat).a:=by unfold iM;rw[if_pos e]
  have e2:=YO (mems:=mems) hm h hk
  rw[show((m+(x - (m:Int)).toNat:Nat):Int)=x by omega]at e2
  rw[e2,e1]
  unfold rm
  rw[e.2,if_neg (by decide),if_pos rfl]
  rfl
 ·exfalso;apply hi;unfold iM;rw[if_neg e]
structure V0 (m:Nat) (v0:List Bool):Prop where
 l:v0.length=m
 l2:2≤m
 f:nth v0 0=false
 t:nth v0 1=true
theorem rS(h:V0 m v0):vl mems v0 gs 0=false:=by have h1:=h.l;have h2:=h.l2;rw[PW (show(0:Int).toNat<_ by rw[h1];exact Nat.lt_of_lt_of_le (by decide) h2)];exact h.f
theorem rR(h:V0 m v0):vl mems v0 gs 1=true:=by have h1:=h.l;have h2:=h.l2;rw[PW (show(1:Int).toNat<_ by rw[h1];exact Nat.lt_of_lt_of_le (by decide) h2)];exact h.t
theorem PU(h:V0 m v0)(hg:GI m gs)(hx:br m gs x)(hy:br m gs y)(ho:kZ m gs x y=true):vl mems v0 gs x= !vl mems v0 gs y:=by
 simp only[kZ,Bool.or_eq_true,oU]at ho
 have:=hx.1
 have:=hy.1
 rcases ho with e|e
 ·have:=PV (mems:=mems) h.l hg hx (by omega)
  rw[this,e]
 ·have:=PV (mems:=mems) h.l hg hy (by omega)
  rw[this,e];simp
theorem Al(h:V0 m v0)(hg:GI m gs)(hx:br m gs x):vl mems v0 (dW m gs x).1 (dW m gs x).2= !vl mems v0 gs x:=by
 have h2:=h.l2
 unfold dW
 by_cases h1:x<2
 ·rw[if_pos h1]
  have h0:=hx.1
  rcases(show x=0∨x=1 by omega)with rfl|rfl
  ·show vl mems v0 gs 1=_
   rw[rS h,rR h];rfl
  ·show vl mems v0 gs 0=_
   rw[rS h,rR h];rfl
 ·rw[if_neg h1]
  rcases js1 hg hx with hi|⟨hi,hj,_⟩
  ·rw[if_neg (by omega)]
   have Qy:=hx.2
   rw[B6 h.l hg ⟨by simp,by simp,hx.1,Qy,by simp,by simp only;omega,by simp,by simp only;omega,by simp,by simp,fun _=>rfl,fun _=>rfl,fun _=>rfl⟩]
   rfl
  ·rw[if_pos (by omega)]
   rw[PV h.l hg hx (by omega)];simp
theorem ycc(h:V0 m v0)(hg:GI m gs)(hx:br m gs x)(hy:br m gs y)(qm:x≤y):vl mems v0 (CA m gs x y).1 (CA m gs x y).2=(vl mems v0 gs x&&vl mems v0 gs y):=by
 have h2:=h.l2
 unfold CA
 by_cases h1:x=0∨kZ m gs x y=true
 ·rw[if_pos h1]
  simp only
  rw[rS h]
  rcases h1 with rfl|h1
  ·rw[rS h];rfl
  ·rw[PU h hg hx hy h1];cases vl mems v0 gs y<;>rfl
 ·rw[if_neg h1]
  by_cases h3:x=1∨x=y
  ·rw[if_pos h3]
   simp only
   rcases h3 with rfl|rfl
   ·rw[rR h];simp
   ·simp
  ·rw[if_neg h3,B6 h.l hg (Dv h2 (by decide) (by decide) hx hy)];rfl
theorem yj4(h:V0 m v0)(hg:GI m gs)(hx:br m gs x)(hy:br m gs y)(qm:x≤y):vl mems v0 (Cj m gs x y).1 (Cj m gs x y).2=(vl mems v0 gs x||vl mems v0 gs y):=by
 have h2:=h.l2
 unfold Cj
 by_cases h1:x=1∨kZ m gs x y=true
 ·rw[if_pos h1]
  simp only
  rw[rR h]
  rcases h1 with rfl|h1
  ·rw[rR h];rfl
  ·rw[PU h hg hx hy h1];cases vl mems v0 gs y<;>rfl
 ·rw[if_neg h1]
  by_cases h3:x=0∨x=y
  ·rw[if_pos h3]
   simp only
   rcases h3 with rfl|rfl
   ·rw[rS h];simp
   ·simp
  ·rw[if_neg h3,B6 h.l hg (Dv h2 (by decide) (by decide) hx hy)];rfl
theorem ycd(h:V0 m v0)(hg:GI m gs)(hx:br m gs x)(hy:br m gs y)(qm:x≤y):vl mems v0 (Cz m gs x y).1 (Cz m gs x y).2=(vl mems v0 gs x !=vl mems v0 gs y):=by
 have h2:=h.l2
 unfold Cz
 by_cases h1:x=0
 ·rw[if_pos h1]
  subst h1
  simp only
  rw[rS h];simp
 ·rw[if_neg h1]
  by_cases h3:x=1
  ·rw[if_pos h3,Al h hg hy]
   subst h3
   rw[rR h];simp
  ·rw[if_neg h3]
   by_cases h4:x=y
   ·rw[if_pos h4]
    subst h4
    simp only
    rw[rS h];simp
   ·rw[if_neg h4]
    by_cases h5:kZ m gs x y=true
    ·rw[if_pos h5]
     simp only
     rw[rR h,PU h hg hx hy h5];cases vl mems v0 gs y<;>rfl
    ·rw[if_neg h5,B6 h.l hg (Dv h2 (by decide) (by decide) hx hy)];rfl
theorem MI(x y:Int):(min x y=x∧max x y=y)∨(min x y=y∧max x y=x):=by omega
theorem w6(h:V0 m v0)(hg:GI m gs)(hx:br m gs x)(hy:br m gs y):vl mems v0 (du m gs x y).1 (du m gs x y).2=(vl mems v0 gs x&&vl mems v0 gs y):=by
 unfold du
 rw[ycc h hg (y5 hx hy) (zc hx hy) (EM x y)]
 rcases MI x y with⟨e,f⟩|⟨e,f⟩<;>rw[e,f]
 exact Bool.and_comm _ _
theorem Gv(h:V0 m v0)(hg:GI m gs)(hx:br m gs x)(hy:br m gs y):vl mems v0 (ko m gs x y).1 (ko m gs x y).2=(vl mems v0 gs x||vl mems v0 gs y):=by
 unfold ko
 rw[yj4 h hg (y5 hx hy) (zc hx hy) (EM x y)]
 rcases MI x y with⟨e,f⟩|⟨e,f⟩<;>rw[e,f]
 exact Bool.or_comm _ _
theorem Lk(h:V0 m v0)(hg:GI m gs)(hx:br m gs x)(hy:br m gs y):vl mems v0 (iq m gs x y).1 (iq m gs x y).2=(vl mems v0 gs x !=vl mems v0 gs y):=by
 unfold iq
 rw[ycd h hg (y5 hx hy) (zc hx hy) (EM x y)]
 rcases MI x y with⟨e,f⟩|⟨e,f⟩<;>rw[e,f]
 cases vl mems v0 gs x<;>cases vl mems v0 gs y<;>rfl
theorem YN(h:V0 m v0)(hg:GI m gs)(hx:br m gs x)(hy:br m gs y)(hz:br m gs z):vl mems v0 (jF m gs x y z).1 (jF m gs x y z).2=if vl mems v0 gs x then vl mems v0 gs y else vl mems v0 gs z:=by
 have h2:=h.l2
 have x0:=hx.1
 unfold jF
 by_cases h1:x=0
 ·subst h1;rw[if_pos rfl,rS h];rfl
 rw[if_neg h1]
 by_cases h3:x=1∨y=z
 ·rw[if_pos h3]
  rcases h3 with rfl|rfl
  ·rw[rR h];rfl
  ·simp
 rw[if_neg h3]
 by_cases h4:y=1
 ·subst h4;rw[if_pos rfl,Gv h hg hx hz,rR h];cases vl mems v0 gs x<;>rfl
 rw[if_neg h4]
 by_cases h5:z=0
 ·subst h5;rw[if_pos rfl,w6 h hg hx hy,rS h];cases vl mems v0 gs x<;>simp
 rw[if_neg h5]
 have hn:=oL h2 hg hx
 have hnv:=Al (mems:=mems) h hg hx
 by_cases h6:y=0
 ·subst h6
  rw[if_pos rfl]
  simp only
  rw[w6 h hn.gi hn.nd (hz.pre hn.pre),hnv,gn h.l hn.pre hz,rS h];cases vl mems v0 gs x<;>simp
 rw[if_neg h6]
 by_cases h7:z=1
 ·subst h7
  rw[if_pos rfl]
  simp only
  rw[Gv h hn.gi hn.nd (hy.pre hn.pre),hnv,gn h.l hn.pre hy,rR h];cases vl mems v0 gs x<;>simp
 rw[if_neg h7,B6 h.l hg ⟨by simp,by simp,x0,hx.2,hy.1,hy.2,hz.1,hz.2,by simp,by simp,fun _=>rfl,fun e=>absurd e (by simp),fun e=>absurd e (by simp)⟩]
 rfl
def mj(a b c:Bool):Bool:=a&&b||a&&c||b&&c
theorem ycg(h:V0 m v0)(hg:GI m gs)(hx:br m gs x)(hy:br m gs y)(hz:br m gs z)(h1:x≤y)(h3:y≤z):vl mems v0 (Cy m gs x y z).1 (Cy m gs x y z).2=mj (vl mems v0 gs x) (vl mems v0 gs y) (vl mems v0 gs z):=by
 have x0:=hx.1
 have h2:=h.l2
 unfold Cy mj
 by_cases h4:x=0
 ·subst h4;rw[if_pos rfl,w6 h hg hy hz,rS h];simp
 rw[if_neg h4]
 by_cases h5:x=1
 ·subst h5;rw[if_pos rfl,Gv h hg hy hz,rR h];cases vl mems v0 gs y<;>cases vl mems v0 gs z<;>rfl
 rw[if_neg h5]
 by_cases h6:x=y∨y=z
 ·rw[if_pos h6]
  rcases h6 with rfl|rfl
  ·cases vl mems v0 gs x<;>cases vl mems v0 gs z<;>rfl
  ·cases vl mems v0 gs x<;>cases vl mems v0 gs y<;>rfl
 rw[if_neg h6,B6 h.l hg ⟨by simp,by simp,x0,hx.2,hy.1,hy.2,hz.1,hz.2,by simp,by simp,fun _=>rfl,fun e=>absurd e (by simp),fun e=>absurd e (by simp)⟩]
 show(vl mems v0 gs x&&(vl mems v0 gs y||vl mems v0 gs z)||vl mems v0 gs y&&vl mems v0 gs z)=_
 cases vl mems v0 gs x<;>cases vl mems v0 gs y<;>cases vl mems v0 gs z<;>rfl
theorem YM(h:V0 m v0)(hg:GI m gs)(hx:br m gs x)(hy:br m gs y)(hz:br m gs z):vl mems v0 (um m gs x y z).1 (um m gs x y z).2=mj (vl mems v0 gs x) (vl mems v0 gs y) (vl mems v0 gs z):=by
 unfold um
 obtain⟨a,b,c,e1,e2,e3,h1,h3,hh⟩:=Pa x y z
 rw[e2,e1,e3]
 rcases hh with⟨rfl,rfl,rfl⟩|⟨rfl,rfl,rfl⟩|⟨rfl,rfl,rfl⟩|⟨rfl,rfl,rfl⟩|⟨rfl,rfl,rfl⟩|⟨rfl,rfl,rfl⟩<;>rw[ycg h hg (by assumption) (by assumption) (by assumption) h1 h3]<;>unfold mj<;>generalize vl mems v0 gs _=p<;>generalize vl mems v0 gs _=q<;>generalize vl mems v0 gs _=r<;>cases p<;>cases q<;>cases r<;>rfl
end
section
variable {mems:List (List Int)} {v0:List Bool} {m:Nat} {gs:Gs}
theorem y9(h:V0 m v0){q:Nat}{st:Gs→Nat→Re}{f:Nat→Bool}(hg:GI m gs):∀{n:Nat},(∀k,k<n→∀cW,gs<+:cW→GI m cW→Rs m q cW (st cW k))→(∀k,k<n→∀cW,gs<+:cW→GI m cW→vl mems v0 (st cW k).1 (st cW k).2=f k)→
  ∀k,k<n→vl mems v0 (dh st gs n).1 (nth (dh st gs n).2 k)=f k
 |n+1,hs,hv,k,hk=>by
  have b:=nB (n:=n) hg fun k hk=>hs k (by omega)
  have s:=hs n (by omega) _ b.pre b.gi
  have e:=hv n (by omega) _ b.pre b.gi
  show vl mems v0 (st (dh st gs n).1 n).1 (nth ((dh st gs n).2++[(st (dh st gs n).1 n).2]) k)=f k
  rcases v8 (x:=(st (dh st gs n).1 n).2) b.wid hk with⟨hl,e1⟩|⟨hl,e1⟩
  ·rw[e1,gn h.l s.pre (b.nd k hl)]
   exact y9 h hg (fun k hk=>hs k (by omega)) (fun k hk=>hv k (by omega)) k hl
  ·rw[e1,e,hl]
def VB(mems:List (List Int))(v0:List Bool)(gs:Gs)(l:List Int)(w n:Nat):Prop:=∀k,k<w→vl mems v0 gs (nth l k)=n.testBit k
theorem VB.pre(h:V0 m v0){r:Gs × List Int}{gs0 cW:Gs}{c w n:Nat}(hb:Bs m c w gs0 r)(hv:VB mems v0 r.1 r.2 w n)(hp:r.1<+:cW):VB mems v0 cW r.2 w n:=fun k hk=>by
 rw[gn h.l hp (hb.nd k hk)];exact hv k hk
theorem D0{w n k:Nat}(hk:k<w):(BitVec.ofNat w n).getLsbD k=n.testBit k:=by rw[BitVec.getLsbD_ofNat];simp[hk]
theorem jta(a b c:Bool):mj a b c=Bool.atLeastTwo a b c:=by cases a<;>cases b<;>cases c<;>rfl
theorem O8(h:V0 m v0){x y:List Int}{c:Int}{c0:Bool}{w a b:Nat}(hw:x.length=w)(hg:GI m gs)(hx:∀k,k<x.length→br m gs (nth x k))(hy:∀k,k<x.length→br m gs (nth y k))(hc:br m gs c)
  (vx:VB mems v0 gs x w a) (vy:VB mems v0 gs y w b) (vc:vl mems v0 gs c=c0):∀k,k≤x.length→
  (k<x.length→vl mems v0 (gO m gs x y c k).gs (gO m gs x y c k).c=BitVec.carry k (BitVec.ofNat w a) (BitVec.ofNat w b) c0)∧
  ∀j,j<k→vl mems v0 (gO m gs x y c k).gs (nth (gO m gs x y c k).l j)=((BitVec.ofNat w a).getLsbD j^^((BitVec.ofNat w b).getLsbD j^^BitVec.carry j (BitVec.ofNat w a) (BitVec.ofNat w b) c0))
 |0,_=>⟨fun _=>by simp[gO,vc,BitVec.carry_zero],fun j hj=>by omega⟩
 |k+1,hk=>by
  obtain⟨ih,xE⟩:=Fx h.l2 hg hx hy hc k (by omega)
  obtain⟨iv,jv⟩:=O8 h hw hg hx hy hc vx vy vc k (by omega)
  have iv:=iv (by omega)
  have xG:=(hx k (by omega)).pre ih.pre
  have xF:=(hy k (by omega)).pre ih.pre
  have ha:=w7 h.l2 ih.gi xG xF
  have hb:=w7 h.l2 ha.gi ha.nd (xE.pre ha.pre)
  have va:=Lk (mems:=mems) h ih.gi xG xF
  have vb:=Lk (mems:=mems) h ha.gi ha.nd (xE.pre ha.pre)
  have ex:vl mems v0 (gO m gs x y c k).gs (nth x k)=(BitVec.ofNat w a).getLsbD k:=by rw[gn h.l ih.pre (hx k (by omega)),vx k (by omega),D0 (by omega)]
  have ey:vl mems v0 (gO m gs x y c k).gs (nth y k)=(BitVec.ofNat w b).getLsbD k:=by rw[gn h.l ih.pre (hy k (by omega)),vy k (by omega),D0 (by omega)]
  have hd:=PI h.l2 hb.gi (xG.pre (ha.pre.trans hb.pre)) (xF.pre (ha.pre.trans hb.pre)) (xE.pre (ha.pre.trans hb.pre))
  have vd:=YM (mems:=mems) h hb.gi (xG.pre (ha.pre.trans hb.pre)) (xF.pre (ha.pre.trans hb.pre)) (xE.pre (ha.pre.trans hb.pre))
  rw[gn h.l (ha.pre.trans hb.pre) xG,gn h.l (ha.pre.trans hb.pre) xF,gn h.l (ha.pre.trans hb.pre) xE,iv,ex,ey,jta,←BitVec.carry_succ]at vd
  rw[va,gn h.l ha.pre xE,iv,ex,ey]at vb
  rw[gO]
  simp only
  generalize gO m gs x y c k=s at *
  generalize iq m s.gs (nth x k) (nth y k)=A at *
  generalize iq m A.1 A.2 s.c=B at *
  generalize um m B.1 (nth x k) (nth y k) s.c=D at *
  have fin:∀cW,B.1<+:cW→∀j,j<k+1→vl mems v0 cW (nth (s.l++[B.2]) j)=((BitVec.ofNat w a).getLsbD j^^((BitVec.ofNat w b).getLsbD j^^BitVec.carry j (BitVec.ofNat w a) (BitVec.ofNat w b) c0)):=fun cW hp j hj=>by
   rcases v8 (x:=B.2) (show s.l.length=k from ih.wid) hj with⟨hl,e1⟩|⟨hl,e1⟩
   ·rw[e1,gn h.l (ha.pre.trans (hb.pre.trans hp)) (ih.nd j hl)];exact jv j hl
   ·rw[e1,gn h.l hp hb.nd,vb,hl]
    cases(BitVec.ofNat w a).getLsbD k<;>cases(BitVec.ofNat w b).getLsbD k<;>cases BitVec.carry k (BitVec.ofNat w a) (BitVec.ofNat w b) c0<;>rfl
  split
  ·exact⟨fun _=>vd,fin _ hd.pre⟩
  ·exact⟨fun aA=>by omega,fin _ (List.prefix_refl _)⟩
theorem Xr(h:V0 m v0){x y:List Int}{w a b:Nat}(hw:x.length=w)(hg:GI m gs)(hx:∀k,k<x.length→br m gs (nth x k))(hy:∀k,k<x.length→br m gs (nth y k))
  (vx:VB mems v0 gs x w a) (vy:VB mems v0 gs y w b):∀k,k≤x.length→vl mems v0 (nR m gs x y k).1 (nR m gs x y k).2=decide (∀j,j<k→a.testBit j=b.testBit j)
 |0,_=>by simp[nR,rR h]
 |k+1,hk=>by
  have ih:=Ln h.l2 hg hx hy k (by omega)
  have iv:=Xr h hw hg hx hy vx vy k (by omega)
  have xG:=(hx k (by omega)).pre ih.pre
  have xF:=(hy k (by omega)).pre ih.pre
  have ha:=w7 h.l2 ih.gi xG xF
  have hn:=oL h.l2 ha.gi ha.nd
  have va:=Lk (mems:=mems) h ih.gi xG xF
  have vn:=Al (mems:=mems) h ha.gi ha.nd
  have vd:=w6 (mems:=mems) h hn.gi (ih.nd.pre (ha.pre.trans hn.pre)) hn.nd
  rw[gn h.l (ha.pre.trans hn.pre) ih.nd,vn,va,iv,gn h.l ih.pre (hx k (by omega)),gn h.l ih.pre (hy k (by omega)),vx k (by omega),vy k (by omega)]at vd
  refine vd.trans ?_
  rw[Bool.eq_iff_iff]
  simp only[gG,oU,Bool.not_eq_true',bne_eq_false_iff_eq]
  constructor
  ·rintro⟨h1,h2⟩ j hj
   by_cases e:j<k
   ·exact h1 j e
   ·have:j=k:=by omega
    subst this;exact h2
  ·exact fun h1=>⟨fun j hj=>h1 j (by omega),h1 k (by omega)⟩
theorem Xc(h:V0 m v0){x y:List Int}{w a b:Nat}(hw:x.length=w)(hg:GI m gs)(hx:∀k,k<x.length→br m gs (nth x k))(hy:∀k,k<x.length→br m gs (nth y k))
  (vx:VB mems v0 gs x w a) (vy:VB mems v0 gs y w b):∀k,k≤x.length→vl mems v0 (nJ m gs x y k).1 (nJ m gs x y k).2=BitVec.carry k (BitVec.ofNat w a) (~~~ BitVec.ofNat w b) true
 |0,_=>by simp[nJ,rR h,BitVec.carry_zero]
 |k+1,hk=>by
  have ih:=Hg h.l2 hg hx hy k (by omega)
  have iv:=Xc h hw hg hx hy vx vy k (by omega)
  have xG:=(hx k (by omega)).pre ih.pre
  have xF:=(hy k (by omega)).pre ih.pre
  have hn:=oL h.l2 ih.gi xF
  have vn:=Al (mems:=mems) h ih.gi xF
  have vd:=YM (mems:=mems) h hn.gi (xG.pre hn.pre) hn.nd (ih.nd.pre hn.pre)
  rw[gn h.l hn.pre ih.nd,gn h.l hn.pre xG,vn,iv,gn h.l ih.pre (hx k (by omega)),gn h.l ih.pre (hy k (by omega)),vx k (by omega),vy k (by omega)]at vd
  refine vd.trans ?_
  rw[jta,BitVec.carry_succ,D0 (by omega),BitVec.getLsbD_not,D0 (by omega)]
  simp[show k<w by omega]
end
def bF(c:Ct)(ag data:List Nat)(mems:List (List Int)):Ex→Nat
 | .lM v _=>v
 | .fe i=>nth ag i
 | .dZ i=>nth data i
 | .not a=>2^aM c a - 1 - bF c ag data mems a
 | .two o a b=>if o=3 then bF c ag data mems a&&& bF c ag data mems b else if o=4 then bF c ag data mems a|||bF c ag data mems b else bF c ag data mems a^^^bF c ag data mems b
 | .add a b=>(bF c ag data mems a+bF c ag data mems b) % 2^aM c a
 | .sub a b=>(bF c ag data mems a+(2^aM c a - bF c ag data mems b)) % 2^aM c a
 | .eq a b=>if bF c ag data mems a=bF c ag data mems b then 1 else 0
 | .lt a b=>if bF c ag data mems a<bF c ag data mems b then 1 else 0
 | .lU a b d=>if bF c ag data mems a=1 then bF c ag data mems b else bF c ag data mems d
 | .cat a b=>bF c ag data mems a*2^aM c b+bF c ag data mems b
 | .mT k w a=>bF c ag data mems a / 2^k % 2^w
 | .ext _ a=>bF c ag data mems a
 | .rd k a=>(nth (nth mems k) (bF c ag data mems a % (nth c.mems k).1)).toNat
structure rK (c:Ct) (ag data:List Nat) (mems:List (List Int)):Prop where
 r:∀i,i<c.ag.length→nth ag i<2^nth c.ag i
 d:∀i,i<c.ae.length→nth data i<2^nth c.ae i
 ml:mems.length=c.mems.length
 wl:∀i,i<c.mems.length→(nth mems i).length=(nth c.mems i).1
 m:∀i,i<c.mems.length→∀k,k<(nth c.mems i).1→0≤nth (nth mems i) k∧nth (nth mems i) k<2^(nth c.mems i).2
theorem tS{c:Ct}{q:Bool}{ag data:List Nat}{mems:List (List Int)}(hc:kN c)(hs:rK c ag data mems)(e:Ex):WT c q e→bF c ag data mems e<2^aM c e:=by
 induction e with
 |lM v w=>exact fun h=>h.2.2
 |fe i=>exact fun h=>hs.r i h
 |dZ i=>exact fun h=>hs.d i h.2
 |not a ih=>intro h;have:=Nat.two_pow_pos (aM c a);simp only[bF,aM];omega
 |two o a b fO jQ=>
  intro h
  obtain⟨_,ha,hb,hw⟩:=h
  have h1:=fO ha
  have h2:=jQ hb
  rw[←hw]at h2
  simp only[bF,aM]
  split
  ·exact Nat.and_lt_two_pow _ h2
  ·split
   ·exact Nat.or_lt_two_pow h1 h2
   ·exact Nat.xor_lt_two_pow h1 h2
 |add a b=>intro h;simp only[bF,aM];exact Nat.mod_lt _ (Nat.two_pow_pos _)
 |sub a b=>intro h;simp only[bF,aM];exact Nat.mod_lt _ (Nat.two_pow_pos _)
 |eq a b=>intro h;simp only[bF,aM];split<;>decide
 |lt a b=>intro h;simp only[bF,aM];split<;>decide
 |lU a b d fO jQ Hs=>
  intro h
  obtain⟨_,hb,hd,_,hw⟩:=h
  simp only[bF,aM]
  split
  ·exact jQ hb
  ·rw[hw];exact Hs hd
 |cat a b fO jQ=>
  intro h
  have h1:=fO h.1
  have h2:=jQ h.2.1
  simp only[bF,aM]
  rw[Nat.pow_add]
  have:=Nat.mul_le_mul_right (2^aM c b) (Nat.succ_le_of_lt h1)
  rw[Nat.succ_mul]at this
  omega
 |mT k w a=>intro h;simp only[bF,aM];exact Nat.mod_lt _ (Nat.two_pow_pos _)
 |ext w a fO=>intro h;have:=fO h.1;simp only[bF,aM];exact Nat.lt_of_lt_of_le this (rj (by decide) h.2.1)
 |rd k a fO=>
  intro h
  have hm:=hc.m k h.2
  have:=hs.m k h.2 (bF c ag data mems a % (nth c.mems k).1) (Nat.mod_lt _ (by omega))
  simp only[bF,aM]
  have h2:((2^(nth c.mems k).2:Nat):Int)=(2:Int)^(nth c.mems k).2:=by simp
  omega
theorem B5{w n k:Nat}(h:n<2^w)(hk:w≤k):n.testBit k=false:=Nat.testBit_lt_two_pow (Nat.lt_of_lt_of_le h (rj (by decide) hk))
theorem yci{w a b:Nat}(ha:a<2^w)(hb:b<2^w)(h:∀k,k<w→a.testBit k=b.testBit k):a=b:=Nat.eq_of_testBit_eq fun k=>by
 by_cases hk:k<w
 ·exact h k hk
 ·rw[B5 ha (by omega),B5 hb (by omega)]
theorem ycj{w a b:Nat}(ha:a<2^w)(hb:b<2^w):decide (∀j,j<w→a.testBit j=b.testBit j)=decide (a=b):=by
 rw[decide_eq_decide]
 exact⟨yci ha hb,fun e _ _=>by rw[e]⟩
theorem yj5{w a b:Nat}(ha:a<2^w)(hb:b<2^w):(!BitVec.carry w (BitVec.ofNat w a) (~~~ BitVec.ofNat w b) true)=decide (a<b):=by
 rw[←BitVec.ult_eq_not_carry,BitVec.ult]
 simp[Nat.mod_eq_of_lt ha,Nat.mod_eq_of_lt hb]
theorem jtb{P:Prop}[Decidable P]:(if P then 1 else 0:Nat).testBit 0=decide P:=by by_cases h:P<;>simp[h]
theorem yck{w a b j:Nat}(hj:j<w):((BitVec.ofNat w a).getLsbD j^^((BitVec.ofNat w b).getLsbD j^^BitVec.carry j (BitVec.ofNat w a) (BitVec.ofNat w b) false))=((a+b) % 2^w).testBit j:=by
 rw[←BitVec.getLsbD_add hj,←D0 (n:=(a+b) % 2^w) hj]
 congr 1
 apply BitVec.eq_of_toNat_eq
 simp
theorem ycl{w a b j:Nat}(hb:b<2^w)(hj:j<w):((BitVec.ofNat w a).getLsbD j^^((BitVec.ofNat w (2^w - 1 - b)).getLsbD j^^BitVec.carry j (BitVec.ofNat w a) (BitVec.ofNat w (2^w - 1 - b)) true))=((a+(2^w - b)) % 2^w).testBit j:=by
 rw[←BitVec.getLsbD_add_add_bool hj,←D0 (n:=(a+(2^w - b)) % 2^w) hj]
 congr 1
 apply BitVec.eq_of_toNat_eq
 have h1:(BitVec.setWidth w (BitVec.ofBool true)).toNat=1 % 2^w:=by simp
 rw[BitVec.toNat_add,BitVec.toNat_add,h1]
 simp only[BitVec.toNat_ofNat,Nat.mod_add_mod,Nat.add_mod_mod,Nat.mod_mod]
 congr 1
 omega
theorem jtc{w a j:Nat}(ha:a<2^w)(hj:j<w):(2^w - 1 - a).testBit j= !a.testBit j:=by
 have:=@Nat.testBit_two_pow_sub_succ a w ha j
 rw[show 2^w - 1 - a=2^w - (a+1) by omega,this]
 simp[hj]
theorem jtd{l:List Int}{n j:Nat}(hj:j<3):nth (gS l n) j=if j<l.length∧2^j<n then nth l j else 0:=by
 unfold gS;rw[tZ hj]
theorem jvs{a n w:Nat}(h1:n=1∨n=2∨n=4∨n=8)(ha:a<2^w):yL (decide (0<w∧2^0<n)&&a.testBit 0) (decide (1<w∧2^1<n)&&a.testBit 1) (decide (2<w∧2^2<n)&&a.testBit 2)=((a % n:Nat):Int):=by
 have e0:(decide (0<w∧2^0<n)&&a.testBit 0)=(decide (2^0<n)&&a.testBit 0):=by
  by_cases h:0<w
  ·simp[h]
  ·rw[B5 ha (by omega)];simp
 have e1:(decide (1<w∧2^1<n)&&a.testBit 1)=(decide (2^1<n)&&a.testBit 1):=by
  by_cases h:1<w
  ·simp[h]
  ·rw[B5 ha (by omega)];simp
 have e2:(decide (2<w∧2^2<n)&&a.testBit 2)=(decide (2^2<n)&&a.testBit 2):=by
  by_cases h:2<w
  ·simp[h]
  ·rw[B5 ha (by omega)];simp
 rw[e0,e1,e2]
 have t0:a.testBit 0=decide (a % 2=1):=by simp
 have t1:a.testBit 1=decide (a / 2 % 2=1):=by rw[Nat.testBit_eq_decide_div_mod_eq]
 have t2:a.testBit 2=decide (a / 4 % 2=1):=by rw[Nat.testBit_eq_decide_div_mod_eq]
 rw[t0,t1,t2]
 unfold yL
 rcases h1 with rfl|rfl|rfl|rfl<;>simp<;>(repeat' split)<;>omega
end
section
theorem PT{w b:Nat}(hw:w<2^62)(hb:b≤63):A7 (w:Int) (b:Int)=w.testBit b:=by
 unfold A7
 have e1:((b:Int).toNat)=b:=by omega
 rw[e1,Nat.min_eq_left (by omega)]
 have e2:(w:Int).fdiv (2^b)=((w / 2^b:Nat):Int):=by
  rw[Int.fdiv_eq_ediv_of_nonneg _ (by have:(0:Int)<2^b:=Int.pow_pos (by decide);omega)]
  push_cast;rfl
 rw[e2]
 have e3:pc .and .i64 ((w / 2^b:Nat):Int) 1=(((w / 2^b) % 2:Nat):Int):=by
  show IntKind.i64.wrap ((BitVec.ofInt 64 ((w / 2^b:Nat):Int)&&& BitVec.ofInt 64 1).toNat:Int)=_
  have:(BitVec.ofInt 64 ((w / 2^b:Nat):Int)&&& BitVec.ofInt 64 1).toNat=(w / 2^b) % 2:=by
   rw[BitVec.toNat_and]
   have h1:(BitVec.ofInt 64 1).toNat=1:=by decide
   have h2:(BitVec.ofInt 64 ((w / 2^b:Nat):Int)).toNat=w / 2^b:=by
    have hu:w / 2^b≤w:=Nat.div_le_self _ _
    rw[BitVec.toNat_ofInt]
    generalize w / 2^b=u at hu ⊢
    omega
   rw[h1,h2,Nat.and_one_is_mod]
  rw[this]
  exact yg (by omega) (by omega)
 rw[e3,Nat.testBit,Nat.shiftRight_eq_div_pow,Nat.one_and_eq_mod_two]
 rcases Nat.mod_two_eq_zero_or_one (w / 2^b)with h|h<;>rw[h]<;>rfl
section
variable {mems:List (List Int)} {v0:List Bool} {m:Nat}
theorem VB.pt(h:V0 m v0){gs cW:Gs}{l:List Int}{w n:Nat}(hn:∀k,k<w→br m gs (nth l k))(hv:VB mems v0 gs l w n)(hp:gs<+:cW):VB mems v0 cW l w n:=fun k hk=>by
 rw[gn h.l hp (hn k hk)];exact hv k hk
theorem yph(h:V0 m v0){gs:Gs}{x y o:Int}(hg:GI m gs)(hx:br m gs x)(hy:br m gs y):vl mems v0 (DX o m gs x y).1 (DX o m gs x y).2=if o=3 then(vl mems v0 gs x&&vl mems v0 gs y)else if o=4 then(vl mems v0 gs x||vl mems v0 gs y)else(vl mems v0 gs x !=vl mems v0 gs y):=by
 unfold DX
 split
 ·exact w6 h hg hx hy
 ·split
  ·exact Gv h hg hx hy
  ·exact Lk h hg hx hy
theorem ycm(h:V0 m v0){gs:Gs}{v k:Nat}:vl mems v0 gs ((v / 2^k % 2:Nat):Int)=v.testBit k:=by
 rw[Nat.testBit_eq_decide_div_mod_eq]
 rcases(show v / 2^k % 2=0∨v / 2^k % 2=1 by omega)with e|e<;>rw[e]
 ·exact rS h
 ·exact rR h
theorem ypi{gs:Gs}{a b c n:Int}:rm mems (jo mems v0 gs) ⟨7,a,b,c,n⟩=yZ mems n (yL (vl mems v0 gs a) (vl mems v0 gs b) (vl mems v0 gs c)):=by
 unfold rm vl
 rw[if_pos rfl]
theorem ycn{c:Ct}{q:Bool}{bL:Int→Nat→Nat→Int}{data:List (List Int)}{ag da:List Nat}(h:V0 m v0)(hc:kN c)(hi:Ab c bL m)(hs:rK c ag da mems)(hU:∀k,k<c.mems.length→(nth c.mems k).1=1∨(nth c.mems k).1=2∨(nth c.mems k).1=4∨(nth c.mems k).1=8)
  (vz:∀i k gs,i<c.ag.length→k<nth c.ag i→vl mems v0 gs (bL 1 i k)=(nth ag i).testBit k) (e:Ex):
  ∀{gs:Gs},GI m gs→kM c q m gs data→(q=true→∀i,i<c.ae.length→VB mems v0 gs (nth data i) (nth c.ae i) (nth da i))→WT c q e→VB mems v0 (cK c bL m data gs e).1 (cK c bL m data gs e).2 (aM c e) (bF c ag da mems e):=by
 have Bz:∀{gs cW:Gs},kM c q m gs data→(q=true→∀i,i<c.ae.length→VB mems v0 gs (nth data i) (nth c.ae i) (nth da i))→gs<+:cW→(q=true→∀i,i<c.ae.length→VB mems v0 cW (nth data i) (nth c.ae i) (nth da i)):=
  fun hd gH hp e i hi=>(gH e i hi).pt h (hd.nd e i hi) hp
 induction e with
 |lM v w=>
  intro gs hg hd gH ht k hk
  simp only[cK,aM,bF]at hk ⊢
  rw[tZ hk];exact ycm h
 |fe i=>
  intro gs hg hd gH ht k hk
  simp only[cK,aM,bF]at hk ⊢
  rw[tZ hk];exact vz i k gs ht hk
 |dZ i=>
  intro gs hg hd gH ht
  simp only[cK,aM,bF]
  exact gH ht.1 i ht.2
 |not a fO=>
  intro gs hg hd gH ht
  have ba:=oa h.l2 hc hi a hg hd ht
  have va:=fO hg hd gH ht
  have la:=tS hc hs a ht
  simp only[cK,aM,bF]
  generalize cK c bL m data gs a=r at *
  rw[ba.wid]
  intro k hk
  rw[y9 (q:=1) (f:=fun k=> !(bF c ag da mems a).testBit k) h ba.gi (fun k hk cW hp rA=>oL h.l2 rA (ba.at hp hk)) (fun k hk cW hp rA=>by rw[Al h rA (ba.at hp hk),gn h.l hp (ba.nd k hk),va k hk]) k hk,jtc la hk]
 |two o a b fO jQ=>
  intro gs hg hd gH ht
  obtain⟨_,ta,tb,hw⟩:=ht
  have ba:=oa h.l2 hc hi a hg hd ta
  have va:=fO hg hd gH ta
  simp only[cK,aM,bF]
  generalize cK c bL m data gs a=r at *
  have bb:=oa h.l2 hc hi b ba.gi (hd.pre ba.pre) tb
  have vb:=jQ ba.gi (hd.pre ba.pre) (Bz hd gH ba.pre) tb
  generalize cK c bL m data r.1 b=s at *
  rw[ba.wid]
  rw[←hw]at bb vb
  intro k hk
  rw[y9 (q:=1) (f:=fun k=>if o=3 then((bF c ag da mems a).testBit k&&(bF c ag da mems b).testBit k)else if o=4 then((bF c ag da mems a).testBit k||(bF c ag da mems b).testBit k)else((bF c ag da mems a).testBit k !=(bF c ag da mems b).testBit k)) h bb.gi (fun k hk cW hp rA=>YU h.l2 rA (ba.at (bb.pre.trans hp) hk) (bb.at hp hk))
   (fun k hk cW hp rA=>by rw[yph h rA (ba.at (bb.pre.trans hp) hk) (bb.at hp hk),gn h.l (bb.pre.trans hp) (ba.nd k hk),va k hk,gn h.l hp (bb.nd k hk),vb k hk]) k hk]
  split
  ·rw[Nat.testBit_and]
  ·split
   ·rw[Nat.testBit_or]
   ·rw[Nat.testBit_xor]
 |add a b fO jQ=>
  intro gs hg hd gH ht
  obtain⟨ta,tb,hw⟩:=ht
  have ba:=oa h.l2 hc hi a hg hd ta
  have va:=fO hg hd gH ta
  simp only[cK,aM,bF]
  generalize cK c bL m data gs a=r at *
  have bb:=oa h.l2 hc hi b ba.gi (hd.pre ba.pre) tb
  have vb:=jQ ba.gi (hd.pre ba.pre) (Bz hd gH ba.pre) tb
  generalize cK c bL m data r.1 b=s at *
  rw[←hw]at bb vb
  have e:=O8 (c0:=false) h ba.wid bb.gi (fun k hk=>ba.at bb.pre (by rw[ba.wid]at hk;exact hk)) (fun k hk=>bb.nd k (by rw[ba.wid]at hk;exact hk)) ⟨by decide,by have:=h.l2;omega⟩ (va.pre h ba bb.pre) vb (rS h) r.2.length (bm _)
  intro k hk
  rw[e.2 k (by rw[ba.wid];exact hk),yck hk]
 |sub a b fO jQ=>
  intro gs hg hd gH ht
  obtain⟨ta,tb,hw⟩:=ht
  have ba:=oa h.l2 hc hi a hg hd ta
  have va:=fO hg hd gH ta
  have lb:=tS hc hs b tb
  simp only[cK,aM,bF]
  generalize cK c bL m data gs a=r at *
  have bb:=oa h.l2 hc hi b ba.gi (hd.pre ba.pre) tb
  have vb:=jQ ba.gi (hd.pre ba.pre) (Bz hd gH ba.pre) tb
  generalize cK c bL m data r.1 b=s at *
  rw[←hw]at bb vb lb
  rw[bb.wid]
  have hn:=nB (q:=1) (n:=aM c a) bb.gi (st:=fun gs i=>dW m gs (nth s.2 i)) fun k hk cW hp hg=>oL h.l2 hg (bb.at hp hk)
  have vn:VB mems v0 (dh (fun gs i=>dW m gs (nth s.2 i)) s.1 (aM c a)).1 (dh (fun gs i=>dW m gs (nth s.2 i)) s.1 (aM c a)).2 (aM c a) (2^aM c a - 1 - bF c ag da mems b):=fun k hk=>by
   rw[y9 (q:=1) (f:=fun k=> !(bF c ag da mems b).testBit k) h bb.gi (fun k hk cW hp rA=>oL h.l2 rA (bb.at hp hk)) (fun k hk cW hp rA=>by rw[Al h rA (bb.at hp hk),gn h.l hp (bb.nd k hk),vb k hk]) k hk,jtc lb hk]
  generalize dh (fun gs i=>dW m gs (nth s.2 i)) s.1 (aM c a)=n at *
  have e:=O8 (c0:=true) h ba.wid hn.gi (fun k hk=>ba.at (bb.pre.trans hn.pre) (by rw[ba.wid]at hk;exact hk)) (fun k hk=>hn.nd k (by rw[ba.wid]at hk;exact hk)) ⟨by decide,by have:=h.l2;omega⟩ (va.pre h ba (bb.pre.trans hn.pre)) vn (rR h) r.2.length (bm _)
  intro k hk
  rw[e.2 k (by rw[ba.wid];exact hk),ycl lb hk]
 |eq a b fO jQ=>
  intro gs hg hd gH ht
  obtain⟨ta,tb,hw⟩:=ht
  have ba:=oa h.l2 hc hi a hg hd ta
  have va:=fO hg hd gH ta
  have la:=tS hc hs a ta
  have lb:=tS hc hs b tb
  simp only[cK,aM,bF]
  generalize cK c bL m data gs a=r at *
  have bb:=oa h.l2 hc hi b ba.gi (hd.pre ba.pre) tb
  have vb:=jQ ba.gi (hd.pre ba.pre) (Bz hd gH ba.pre) tb
  generalize cK c bL m data r.1 b=s at *
  rw[←hw]at bb vb lb
  have e:=Xr h ba.wid bb.gi (fun k hk=>ba.at bb.pre (by rw[ba.wid]at hk;exact hk)) (fun k hk=>bb.nd k (by rw[ba.wid]at hk;exact hk)) (va.pre h ba bb.pre) vb r.2.length (bm _)
  intro k hk
  have dP:k=0:=by omega
  subst dP
  show vl mems v0 _ (nR m s.1 r.2 s.2 r.2.length).2=_
  rw[e,ba.wid,ycj la lb,jtb]
 |lt a b fO jQ=>
  intro gs hg hd gH ht
  obtain⟨ta,tb,hw⟩:=ht
  have ba:=oa h.l2 hc hi a hg hd ta
  have va:=fO hg hd gH ta
  have la:=tS hc hs a ta
  have lb:=tS hc hs b tb
  simp only[cK,aM,bF]
  generalize cK c bL m data gs a=r at *
  have bb:=oa h.l2 hc hi b ba.gi (hd.pre ba.pre) tb
  have vb:=jQ ba.gi (hd.pre ba.pre) (Bz hd gH ba.pre) tb
  generalize cK c bL m data r.1 b=s at *
  rw[←hw]at bb vb lb
  have hx:∀k,k<r.2.length→br m s.1 (nth r.2 k):=fun k hk=>ba.at bb.pre (by rw[ba.wid]at hk;exact hk)
  have hy:∀k,k<r.2.length→br m s.1 (nth s.2 k):=fun k hk=>bb.nd k (by rw[ba.wid]at hk;exact hk)
  have t:=Hg h.l2 bb.gi hx hy r.2.length (bm _)
  have e:=Xc h ba.wid bb.gi hx hy (va.pre h ba bb.pre) vb r.2.length (bm _)
  intro k hk
  have dP:k=0:=by omega
  subst dP
  show vl mems v0 _ (dW m (nJ m s.1 r.2 s.2 r.2.length).1 (nJ m s.1 r.2 s.2 r.2.length).2).2=_
  rw[Al h t.gi t.nd,e,ba.wid,yj5 la lb,jtb]
 |lU a b d fO jQ Hs=>
  intro gs hg hd gH ht
  obtain⟨ta,tb,td,w1,hw⟩:=ht
  have ba:=oa h.l2 hc hi a hg hd ta
  have va:=fO hg hd gH ta
  have la:=tS hc hs a ta
  simp only[cK,aM,bF]
  generalize cK c bL m data gs a=r at *
  have bb:=oa h.l2 hc hi b ba.gi (hd.pre ba.pre) tb
  have vb:=jQ ba.gi (hd.pre ba.pre) (Bz hd gH ba.pre) tb
  generalize cK c bL m data r.1 b=s at *
  have bd:=oa h.l2 hc hi d bb.gi (hd.pre (ba.pre.trans bb.pre)) td
  have vd:=Hs bb.gi (hd.pre (ba.pre.trans bb.pre)) (Bz hd gH (ba.pre.trans bb.pre)) td
  generalize cK c bL m data s.1 d=t at *
  rw[←hw]at bd vd
  rw[bb.wid]
  rw[w1]at ba va la
  intro k hk
  rw[y9 (q:=2) (f:=fun k=>if(bF c ag da mems a).testBit 0 then(bF c ag da mems b).testBit k else(bF c ag da mems d).testBit k) h bd.gi
   (fun k hk cW hp rA=>Du h.l2 rA (ba.at (bb.pre.trans (bd.pre.trans hp)) (by decide)) (bb.at (bd.pre.trans hp) hk) (bd.at hp hk))
   (fun k hk cW hp rA=>by
    rw[YN h rA (ba.at (bb.pre.trans (bd.pre.trans hp)) (by decide)) (bb.at (bd.pre.trans hp) hk) (bd.at hp hk),gn h.l (bb.pre.trans (bd.pre.trans hp)) (ba.nd 0 (by decide)),va 0 (by decide),gn h.l (bd.pre.trans hp) (bb.nd k hk),vb k hk,gn h.l hp (bd.nd k hk),vd k hk]) k hk]
  rcases(show bF c ag da mems a=0∨bF c ag da mems a=1 by omega)with e|e<;>rw[e]<;>simp
 |cat a b fO jQ=>
  intro gs hg hd gH ht
  obtain⟨ta,tb,hw⟩:=ht
  have ba:=oa h.l2 hc hi a hg hd ta
  have va:=fO hg hd gH ta
  have lb:=tS hc hs b tb
  simp only[cK,aM,bF]
  generalize cK c bL m data gs a=r at *
  have bb:=oa h.l2 hc hi b ba.gi (hd.pre ba.pre) tb
  have vb:=jQ ba.gi (hd.pre ba.pre) (Bz hd gH ba.pre) tb
  generalize cK c bL m data r.1 b=s at *
  intro k hk
  rw[Nat.mul_comm,Nat.testBit_two_pow_mul_add _ lb]
  by_cases hl:k<aM c b
  ·rw[if_pos hl,nQ (by rw[bb.wid];exact hl)];exact vb k hl
  ·rw[if_neg hl,qx (by rw[bb.wid];omega),bb.wid,gn h.l bb.pre (ba.nd _ (by omega))];exact va _ (by omega)
 |mT k w a fO=>
  intro gs hg hd gH ht
  obtain⟨ta,w1,hw⟩:=ht
  have va:=fO hg hd gH ta
  simp only[cK,aM,bF]
  generalize cK c bL m data gs a=r at *
  intro j hj
  rw[js3 hj,va _ (by omega),Nat.testBit_mod_two_pow,Nat.testBit_div_two_pow]
  simp[hj,Nat.add_comm]
 |ext w a fO=>
  intro gs hg hd gH ht
  obtain⟨ta,hw,w8⟩:=ht
  have ba:=oa h.l2 hc hi a hg hd ta
  have va:=fO hg hd gH ta
  have la:=tS hc hs a ta
  simp only[cK,aM,bF]
  generalize cK c bL m data gs a=r at *
  intro k hk
  by_cases hl:k<aM c a
  ·rw[nQ (by rw[ba.wid];exact hl)];exact va k hl
  ·rw[qx (by rw[ba.wid];omega),js2 (by rw[ba.wid];omega),rS h,B5 la (by omega)]
 |rd k a fO=>
  intro gs hg hd gH ht
  obtain⟨ta,hk⟩:=ht
  have ba:=oa h.l2 hc hi a hg hd ta
  have va:=fO hg hd gH ta
  have la:=tS hc hs a ta
  have hm:=hc.m k hk
  have hl:=hc.l
  have ov:=hs.wl k hk
  have mC:=hs.ml
  have uv:=hs.m k hk (bF c ag da mems a % (nth c.mems k).1) (Nat.mod_lt _ (by omega))
  have h4:=hU k hk
  simp only[cK,aM,bF]
  generalize cK c bL m data gs a=r at *
  intro i CU
  have nd:∀{cW:Gs} {j:Nat},r.1<+:cW→j<3→br m cW (nth (gS r.2 (nth c.mems k).1) j):=fun hp Ic=>Dt h.l2 (fun j hj=>ba.at hp (by rw[ba.wid]at hj;exact hj)) Ic
  have Oc:∀{cW:Gs} {j:Nat},r.1<+:cW→j<3→vl mems v0 cW (nth (gS r.2 (nth c.mems k).1) j)=(decide (j<aM c a∧2^j<(nth c.mems k).1)&&(bF c ag da mems a).testBit j):=fun{cW j} hp Ic=>by
   rw[jtd Ic,ba.wid]
   by_cases e:j<aM c a∧2^j<(nth c.mems k).1
   ·rw[if_pos e,gn h.l hp (ba.nd j e.1),va j e.1];simp[e]
   ·rw[if_neg e,rS h];simp[e]
  have wH:∀{cW:Gs} {i:Nat},r.1<+:cW→i<(nth c.mems k).2→ya ((m:Int)+cW.length) ⟨7,nth (gS r.2 (nth c.mems k).1) 0,nth (gS r.2 (nth c.mems k).1) 1,nth (gS r.2 (nth c.mems k).1) 2,((8*k+i:Nat):Int)⟩:=fun{cW i} hp CU=>by
   have n0:=nd (j:=0) hp (by decide)
   have n1:=nd (j:=1) hp (by decide)
   have n2:=nd (j:=2) hp (by decide)
   exact⟨by simp,by simp,n0.1,n0.2,n1.1,n1.2,n2.1,n2.2,by simp only;omega,by simp only;omega,fun e=>absurd rfl e,fun e=>absurd e (by simp),fun e=>absurd e (by simp)⟩
  rw[y9 (q:=1) (n:=(nth c.mems k).2) (f:=fun i=>((nth (nth mems k) (bF c ag da mems a % (nth c.mems k).1)).toNat).testBit i) h ba.gi
   (fun i CU cW hp hg=>ze hg (wH hp CU)
    ⟨fun e=>absurd e (by simp),fun _ e=>absurd e (by simp),fun e=>absurd e (by simp),fun e=>absurd e (by simp)⟩)
   (fun i CU cW hp hg=>by
    rw[B6 h.l hg (wH hp CU),ypi,Oc (j:=0) hp (by decide),Oc (j:=1) hp (by decide),Oc (j:=2) hp (by decide),jvs h4 la]
    have ha:=Nat.mod_lt (bF c ag da mems a) (show 0<(nth c.mems k).1 by omega)
    unfold yZ
    rw[show(((8*k+i:Nat):Int) / 8)=(k:Int) by omega,show(((8*k+i:Nat):Int) % 8)=(i:Int) by omega,Int.toNat_natCast,Int.toNat_natCast]
    rw[decide_eq_true (show(k:Int)<(mems.length:Int) by omega),decide_eq_true (show((bF c ag da mems a % (nth c.mems k).1:Nat):Int)<((nth mems k).length:Int) by omega),Bool.true_and,Bool.true_and]
    obtain⟨v,hv⟩:∃v:Nat,nth (nth mems k) (bF c ag da mems a % (nth c.mems k).1)=v:=⟨_,(zn uv.1).symm⟩
    rw[hv,Int.toNat_natCast]
    rw[hv]at uv
    have tq:(2:Nat)^(nth c.mems k).2≤2^8:=rj (by decide) hm.2.2.2
    have hv8:v<2^62:=by
     have h2:((2^(nth c.mems k).2:Nat):Int)=(2:Int)^(nth c.mems k).2:=by simp
     have:v<2^(nth c.mems k).2:=by omega
     omega
    exact PT hv8 (by omega)) i CU]
end
set_option maxRecDepth 100000
set_option maxHeartbeats 4000000
end
def nI(l:List Nat):D:=.fs (l.map fun n:Nat=>iD n) l.length
structure SM where
 pre:D
 w:Nat
 post:List D
 deriving Inhabited
def AM(m:SM):List D:=m.pre::iD m.w::(m.post++List.replicate 25 nS).take 25
theorem Xb(m:SM):(AM m).length=27:=by simp[AM]
theorem ypj{l:List SM}{k:Nat}(h:k<l.length):(l.flatMap AM)[k*27+1]? =some (iD (nth l k).w):=(nC (j:=1) Xb h (by omega)).trans rfl
theorem jV{l:List SM}:(l.flatMap AM).length=l.length*27:=pq Xb l
structure Sc where
 ag:List Nat
 ae:List Nat
 mems:List SM
 q:Bool
def cY(s:Sc):List AV:=[.d (nI s.ag),.d (nI s.ae),.os 27 0 0 s.mems.length,.d (oD s.q)]
def dR(s:Sc):bq:=.cells (au (s.mems.flatMap AM))
structure pK (C:Ct) (s:Sc):Prop where
 r:C.ag=s.ag
 t:s.q=true→C.ae=s.ae
 m:C.mems.map (·.2)=s.mems.map (·.w)
 rl:s.ag.length≤100
 tl:s.ae.length≤100
 ml:s.mems.length≤8
def tE:Ex→List D
 | .fe i=>[iD 16,nS,iD i,nS,iD 0,nS,.val (.slice none 0 0)]
 | .dZ i=>[iD 18,nS,iD i,nS,iD 0,nS,.val (.slice none 0 0)]
 |e=>bW e
theorem O7(e:Ex):(tE e).length=7:=by cases e<;>rfl
theorem v7{l:List Ex}:(l.flatMap tE).length=l.length*7:=pq O7 l
structure Fit (C:Ct) (q:Bool) (w n:Nat) (e:Ex):Prop where
 t:WT C q e
 w:aM C e=w
 n:bQ C e≤n
theorem jew{C:Ct}{q:Bool}{w n:Nat}{l:List Ex}{e:Ex}(h:∀x∈l,Fit C q w n x)(he:Fit C q w n e):∀x∈l++[e],Fit C q w n x:=fun x hx=>by
 rcases pr.1 hx with hx|hx
 ·exact h x hx
 ·rw[sa.1 hx];exact he
def LvK(C:Ct)(s:Sc)(w:Nat)(x:AV)(S':ak):Prop:=∃l:List Ex,l.length≤200∧(∀e∈l,Fit C s.q w 0 e)∧x= .d (.fs (l.flatMap tE) l.length)∧S'=[dR s]
theorem fj{p:Nat→Bool}{s:Sc}:(dR s).allI p=true:=aY
theorem gJ{keep:List Nat}{s:Sc}:z6 keep (dR s)=dR s:=by unfold dR;rw[Pe,DL]
theorem gI{id:Nat}{l:List D}{s:Sc}:z7 id l (dR s)=dR s:=by unfold dR;rw[Pd,FO]
theorem yX{p q:Prop}(hq:q)(h:p=q:=by
 conv=>lhs;simp -dsimp -implicitDefEqProofs (disch:=first|assumption|omega|(simp only[aK,jV,v7]<;>omega)|decide) only[aP,↓reduceIte,Nat.reduceEqDiff,Nat.reduceAdd,D.fix,Int.reduceToNat,Nat.reduceMul,Nat.reduceBNe,Nat.reduceBEq,cY,nI,gJ,gI,bw]):p:=h.mpr hq
theorem Lj{p q:Prop}(hq:q)(h:p=q:=by
 conv=>lhs;simp -dsimp -implicitDefEqProofs (disch:=first|assumption|omega|(simp only[aK,jV,v7]<;>omega)|decide) only[aP,↓reduceIte,Nat.reduceEqDiff,Nat.reduceAdd,D.fix,Int.reduceToNat,Nat.reduceMul,Nat.reduceBNe,Nat.reduceBEq,cY,nI,gJ,gI]):p:=h.mpr hq
theorem zz(k:List Nat){m:List Nat}{τ τ1:Fr}{H H1:ak}(h:Rt m (fun t=>c7 k (τ t)) (dg k H) τ1 H1)(a:∀i∈m,k[i]? =some i:=by decide)(b:k.Nodup:=by decide)(c:∀i∈k,i<H.length:=by
 simp[eS,dg]):Rt m τ H τ1 H1:=Rt.trans (Rt.gc a b c) h
theorem wE{m:List Nat}{τ τ':Fr}{H H':ak}(h2:H=H')(h:fm τ τ':=by
 repeat (first|exact bT _|refine bM ?_ (by first|rfl|(simp[aR,jV,v7];done)|simp[aR,jV,v7, *]))):Rt m τ H τ' H':=Rt.end h h2
theorem YL{p q:Prop}(hq:q)(h:p=q:=by
 conv=>lhs;simp -dsimp -implicitDefEqProofs (disch:=first|assumption|omega|(simp only[aK,jV,v7]<;>omega)|decide) only[aP,↓reduceIte,Nat.reduceEqDiff,Nat.reduceAdd,D.fix,Int.reduceToNat,Nat.reduceMul,Nat.reduceBNe,Nat.reduceBEq,cY,nI,gJ,gI,dm,bw]):p:=h.mpr hq
theorem YK{p q r:Prop}(e:r)(hq:q)(h:r→p=q:=by
 intro hY
 conv=>lhs;simp -dsimp -implicitDefEqProofs (disch:=first|assumption|omega|(simp only[aK,jV,v7]<;>omega)|decide) only[aP,↓reduceIte,Nat.reduceEqDiff,Nat.reduceAdd,D.fix,Int.reduceToNat,Nat.reduceMul,Nat.reduceBNe,Nat.reduceBEq,cY,nI,gJ,gI,bw,hY]):p:=(h e).mpr hq
theorem Ef{p:Prop}(h:p:=by
 first|rfl|(simp only[cD,Nat.reduceAdd,↓reduceIte,Nat.reduceEqDiff,cY,nI,gJ,gI];first|done|rfl)):p:=h
theorem jou(C:Ct)(s:Sc)(w:Nat)(hs:pK C s)(hw:w≤100):cM prog [0] 168 [.agg (cY s),.d (iD w)] ([dR s]) (LvK C s w):=by
 refine fV (fn:=f168) (by kernel_rfl) func168 rfl (bN rfl) fun c hc hp=>?_
 refine oc ?_
 have jR:=hs.rl
 have vt:=hs.tl
 refine aj (yX ·) ?_
 refine aj (yX ·) ?_
 refine aH fun K3 bS=>?_
 refine aj (Lj ·) ?_
 refine aW ?_
 refine c9 hp (fun τ' H' mm=>∃(i:Nat) (l:List Ex),(i≤s.ag.length∧l.length≤i∧∀e∈l,Fit C s.q w 0 e)∧mm=s.ag.length - i∧H'=[dR s,.cells (cY s),.cells (au (l.flatMap tE))]∧τ'=aG [(1,.d (iD w)),(2,.op 1 0),(5,.os 7 2 0 l.length),(6,.d (iD i))]) (s.ag.length) ?_ ⟨0,[],⟨cy _,cy _,fun e he=>by cases he⟩,rfl,rfl,rfl⟩ ?_
 ·refine zz [0,1,2] ?_
  refine wE ?_
  exact Ef
 rintro τ' H' mm ⟨i,l,⟨hi,lj,hl⟩,rfl,rfl,rfl⟩
 refine aH fun K5 fA=>?_
 refine aj (yX ·) ?_
 refine aX rfl (fun ht=>?_) (fun ht=>?_)
 ·have aA:i<s.ag.length:=by simp at ht;omega
  refine bB (fA _ _ ?_)
  refine aH fun K7 de=>?_
  refine aW ?_
  refine aj (YL ·) ?_
  refine aX rfl (fun ht=>?_) (fun ht=>?_)
  ·have vr:nth s.ag i=w:=by simp at ht;omega
   refine jX (yX ·) (de _ _ ?_)
   refine bA hp ax hc rfl fun kL bU=>?_
   refine yX ?_
   refine bU _ _ ⟨_,_,_,?_,⟨i+1,l++[.fe i],⟨by omega,by simp;omega,jew hl ⟨by show i<C.ag.length;rw[hs.r];exact aA,by show nth C.ag i=w;rw[hs.r,vr],bm _⟩⟩,rfl,rfl,rfl⟩,?_⟩
   ·first|omega|(simp only[List.length_cons];omega)|(dsimp only;omega)
   ·refine zz [0,1,4] ?_
    refine wE ?_
    simp only[cD,Nat.reduceAdd,↓reduceIte,Nat.reduceEqDiff,cY,nI,gJ,gI];simp[tE,iD,nS,oD]
  ·refine bB (de _ _ ?_)
   refine bA hp ax hc rfl fun lz cm=>?_
   refine yX ?_
   refine cm _ _ ⟨_,_,_,?_,⟨i+1,l,⟨by omega,by omega,hl⟩,rfl,rfl,rfl⟩,?_⟩
   ·first|omega|(simp only[List.length_cons];omega)|(dsimp only;omega)
   ·refine wE ?_
    exact Ef
 ·have jI:i=s.ag.length:=by simp at ht;omega
  subst jI
  refine cL (bS _ _ ?_)
  refine aH fun nk cU=>?_
  refine aj (Lj ·) ?_
  refine aW ?_
  refine c9 hp (fun τ' H' mm=>∃(i:Nat) (l:List Ex),(i≤s.ae.length∧l.length≤100+i∧∀e∈l,Fit C s.q w 0 e)∧mm=s.ae.length - i∧H'=[dR s,.cells (cY s),.cells (au (l.flatMap tE))]∧τ'=aG [(1,.d (iD w)),(2,.op 1 0),(5,.os 7 2 0 l.length),(7,.d (iD i))]) (s.ae.length) ?_ ⟨0,l,⟨cy _,by omega,hl⟩,rfl,rfl,rfl⟩ ?_
  ·refine wE ?_
   exact Ef
  rintro τ' H' mm ⟨i,l,⟨hi,hll2,wJ⟩,rfl,rfl,rfl⟩
  refine aH fun rM dI=>?_
  refine bC hp ax hc rfl fun tG ea=>?_
  by_cases q:i<s.ae.length
  ·have q1:decide ((i:Int)<s.ae.length)=true:=decide_eq_true (by omega)
   refine YK q1 ?_
   refine ea _ _ ?_
   refine aX rfl (fun ht=>?_) (fun ht=>?_)
   ·have hq:s.q=true:=ht
    refine bB (dI _ _ ?_)
    refine aH fun pM df=>?_
    refine aW ?_
    refine aj (YL ·) ?_
    refine aX rfl (fun ht=>?_) (fun ht=>?_)
    ·have vr:nth s.ae i=w:=by simp at ht;omega
     refine jX (yX ·) (df _ _ ?_)
     refine bA hp ax hc rfl fun wT fC=>?_
     refine yX ?_
     refine fC _ _ ⟨_,_,_,?_,⟨i+1,l++[.dZ i],⟨by omega,by simp;omega,jew wJ ⟨(show WT C s.q (.dZ i) from⟨hq,by rw[hs.t hq];exact q⟩),by show nth C.ae i=w;rw[hs.t hq,vr],bm _⟩⟩,rfl,rfl,rfl⟩,?_⟩
     ·first|omega|(simp only[List.length_cons];omega)|(dsimp only;omega)
     ·refine zz [0,1,4] ?_
      refine wE ?_
      simp only[cD,Nat.reduceAdd,↓reduceIte,Nat.reduceEqDiff,cY,nI,gJ,gI];simp[tE,iD,nS,oD]
    ·refine bB (df _ _ ?_)
     refine bA hp ax hc rfl fun uK eG=>?_
     refine yX ?_
     refine eG _ _ ⟨_,_,_,?_,⟨i+1,l,⟨by omega,by omega,wJ⟩,rfl,rfl,rfl⟩,?_⟩
     ·first|omega|(simp only[List.length_cons];omega)|(dsimp only;omega)
     ·refine wE ?_
      exact Ef
   ·refine cL (cU _ _ ?_)
    refine aj (Lj ·) ?_
    refine bI hp (τ':=aG [(4,.d (.fs (l.flatMap tE) l.length))]) (H':=[dR s]) ?_ ?_
    ·refine Rt.trans (Rt.fz (id:=2) (l:=(l.flatMap tE)) rfl) ?_
     refine Rt.trans (Rt.slot 4 (qL (iN (by rw[v7])))) ?_
     refine zz [0] ?_
     refine wE ?_
     exact Ef
    refine bh ?_
    refine c8 (t:=4) rfl ?_
    show ∃_,_
    exact⟨l,by omega,wJ,rfl,rfl⟩
  ·have q1:decide ((i:Int)<s.ae.length)=false:=decide_eq_false (by omega)
   refine YK q1 ?_
   refine ea _ _ ?_
   refine eC ?_
   refine cL (cU _ _ ?_)
   refine aj (Lj ·) ?_
   refine bI hp (τ':=aG [(4,.d (.fs (l.flatMap tE) l.length))]) (H':=[dR s]) ?_ ?_
   ·refine Rt.trans (Rt.fz (id:=2) (l:=(l.flatMap tE)) rfl) ?_
    refine Rt.trans (Rt.slot 4 (qL (iN (by rw[v7])))) ?_
    refine zz [0] ?_
    refine wE ?_
    exact Ef
   refine bh ?_
   refine c8 (t:=4) rfl ?_
   show ∃_,_
   exact⟨l,by omega,wJ,rfl,rfl⟩
theorem jk6(e:Ex):(∃o k w,tE e=[iD o,nS,iD k,nS,iD w,nS,.val (.slice none 0 0)]∧bW e=[iD o,nS,iD k,nS,iD w,nS,.fs [] 0])∨∃o k w cs n,tE e=[iD o,nS,iD k,nS,iD w,nS,.fs cs n]∧bW e=[iD o,nS,iD k,nS,iD w,nS,.fs cs n]:=by
 cases e<;>first|exact .inl ⟨_,_,_,rfl,rfl⟩|exact .inr ⟨_,_,_,_,_,rfl,rfl⟩
theorem jvu{l:List Ex}{k:Nat}(h:k<l.length):dJ (l.flatMap tE) (k*7) 7=some (tE (nth l k)):=zh O7 h
def II(e:Ex):List AV:=(bW e).map .d
def LfK(C:Ct)(s:Sc)(w:Nat)(x:AV)(S':ak):Prop:=∃e:Ex,Fit C s.q w 0 e∧x= .agg (II e)∧∃j,S'=[dR s,.cells j]
theorem O6{p q:Prop}(hq:q)(h:p=q:=by
 conv=>lhs;simp -dsimp -implicitDefEqProofs (disch:=first|assumption|omega|(simp only[aK,jV,v7]<;>omega)|decide) only[aP,↓reduceIte,Nat.reduceEqDiff,Nat.reduceAdd,D.fix,Int.reduceToNat,Nat.reduceMul,Nat.reduceBNe,Nat.reduceBEq,cY,nI,cg,gJ,gI,bw]):p:=h.mpr hq
theorem EL{p q r:Prop}(e:r)(hq:q)(h:r→p=q:=by
 intro hY
 conv=>lhs;simp -dsimp -implicitDefEqProofs (disch:=first|assumption|omega|(simp only[aK,jV,v7]<;>omega)|decide) only[aP,↓reduceIte,Nat.reduceEqDiff,Nat.reduceAdd,D.fix,Int.reduceToNat,Nat.reduceMul,Nat.reduceBNe,Nat.reduceBEq,cY,nI,cg,gJ,gI,bw,hY]):p:=(h e).mpr hq
theorem Li{p q:Prop}(hq:q)(h:p=q:=by
 conv=>lhs;simp -dsimp -implicitDefEqProofs (disch:=first|assumption|omega|(simp only[aK,jV,v7]<;>omega)|decide) only[aP,↓reduceIte,Nat.reduceEqDiff,Nat.reduceAdd,D.fix,Int.reduceToNat,Nat.reduceMul,Nat.reduceBNe,Nat.reduceBEq,cY,nI,cg,gJ,gI,JQ,JR]):p:=h.mpr hq
theorem YJ{p q r:Prop}(e:r)(hq:q)(h:r→p=q:=by
 intro hY
 conv=>lhs;simp -dsimp -implicitDefEqProofs (disch:=first|assumption|omega|(simp only[aK,jV,v7]<;>omega)|decide) only[aP,↓reduceIte,Nat.reduceEqDiff,Nat.reduceAdd,D.fix,Int.reduceToNat,Nat.reduceMul,Nat.reduceBNe,Nat.reduceBEq,cY,nI,cg,gJ,gI,jvu,O7,bw,hY]):p:=(h e).mpr hq
theorem Kk{p:Prop}(h:p:=by
 first|rfl|(simp only[cD,Nat.reduceAdd,↓reduceIte,Nat.reduceEqDiff,cY,nI,cg,gJ,gI];first|done|rfl)):p:=h
theorem jte(C:Ct)(s:Sc)(w b:Nat)(hs:pK C s)(th:1≤w)(hw:w≤8)(hb:b<1000):cM prog [0] 112 [.agg (cY s),.d (iD w),.d (iD b)] ([dR s,.free]) (LfK C s w):=by
 refine fV (fn:=f112) (by kernel_rfl) func112 rfl (bN rfl) fun c hc hp=>?_
 refine vY ?_
 have Fa:(b:Int) / 4=((b / 4:Nat):Int):=by omega
 have E9:=YP (b / 4) w (by omega) hw
 unfold bW at E9
 refine aj (O6 ·) ?_
 refine bC hp ax hc rfl fun K2 bG=>?_
 refine O6 ?_
 refine r7 (S:=[dR s]) (T:=[.free,.cells (cY s),.cells [.d (iD 0),.d nS,.d (iD 0),.d nS,.d (iD 0),.d nS,.d (.val (.slice none 0 0))]]) (jou C s w hs (by omega)) rfl (by first|rfl|(simp[AV.ah,AV.allI,bc,bg,bf,aJ,aN,aY,aZ,fj,cY];done)|(intro o ho;simp at ho;done)) (fun t=>fU (by first|rfl|(simp[AV.ah,AV.allI,bc,bg,bf,aJ,aN,aY,aZ,fj,cY];done)|(intro o ho;simp at ho;done)) t) (by first|rfl|(simp[AV.ah,AV.allI,bc,bg,bf,aJ,aN,aY,aZ,fj,cY];done)|(intro o ho;simp at ho;done)) (by first|rfl|(simp[AV.ah,AV.allI,bc,bg,bf,aJ,aN,aY,aZ,fj,cY];done)|(intro o ho;simp at ho;done)) (by first|rfl|(simp[AV.ah,AV.allI,bc,bg,bf,aJ,aN,aY,aZ,fj,cY];done)|(intro o ho;simp at ho;done)) ?_
 rintro _ _ ⟨l,lj,hl,rfl,rfl⟩
 refine⟨rfl,?_⟩
 refine O6 ?_
 refine bG _ _ ?_
 refine aH fun K3 bS=>?_
 refine bC hp ax hc rfl fun K4 dD=>?_
 rcases Nat.eq_zero_or_pos l.length with q|q
 ·have q1:((l.length:Int)==0)=true:=by simp[q]
  refine EL q1 ?_
  refine dD _ _ ?_
  refine jW ?_
  refine bC hp ax hc rfl fun K5 fA=>?_
  refine EL Fa ?_
  refine cQ (E9) rfl ?_
  refine EL Fa ?_
  refine fA _ _ ?_
  refine bI hp (τ':=aG [(6,.op 1 0)]) (H':=[dR s,.cells ((cg 1 ((b / 4 % 2^w:Nat):Int) w [] 0).map .d)]) ?_ ?_
  ·refine zz [0,3] ?_
   refine wE ?_
   exact Kk
  refine bh ?_
  try dsimp only[fb,fc]
  refine iH rfl ?_
  refine Li ?_
  show ∃_,_
  exact⟨.lM (b / 4 % 2^w) w,⟨⟨th,hw,Za⟩,rfl,bm _⟩,rfl,_,rfl⟩
 ·have q1:((l.length:Int)==0)=false:=by rw[beq_eq_false_iff_ne];omega
  refine EL q1 ?_
  refine dD _ _ ?_
  refine aX rfl (fun ht=>?_) (fun ht=>?_)
  ·refine bC hp ax hc rfl fun K6 cF=>?_
   refine EL Fa ?_
   refine cQ (E9) rfl ?_
   refine EL Fa ?_
   refine cF _ _ ?_
   refine bI hp (τ':=aG [(6,.op 1 0)]) (H':=[dR s,.cells ((cg 1 ((b / 4 % 2^w:Nat):Int) w [] 0).map .d)]) ?_ ?_
   ·refine zz [0,3] ?_
    refine wE ?_
    exact Kk
   refine bh ?_
   try dsimp only[fb,fc]
   refine iH rfl ?_
   refine Li ?_
   show ∃_,_
   exact⟨.lM (b / 4 % 2^w) w,⟨⟨th,hw,Za⟩,rfl,bm _⟩,rfl,_,rfl⟩
  ·refine bB (bS _ _ ?_)
   obtain⟨j,hj⟩:∃j:Nat,j=b / 4 % l.length:=⟨_,rfl⟩
   have o5:j<l.length:=by rw[hj];exact Nat.mod_lt _ q
   have mF:((b / 4:Nat):Int) % (l.length:Int)=(j:Int):=by rw[hj];exact(Int.natCast_emod _ _).symm
   refine bC hp ax hc rfl fun K7 de=>?_
   rcases jk6 (nth l j)with⟨xo,xk,xw,hex,CW⟩|⟨xo,xk,xw,xc,xn,hex,CW⟩
   ·refine YJ (aL Fa (aL mF hex)) ?_
    refine de _ _ ?_
    refine bI hp (τ':=aG [(6,.op 1 0)]) (H':=[dR s,.cells [.d (iD xo),.d nS,.d (iD xk),.d nS,.d (iD xw),.d nS,.d (.fs [] 0)]]) ?_ ?_
    ·refine Rt.trans (Rt.rF 3 6 rfl rfl) ?_
     refine zz [0,3] ?_
     refine wE ?_
     exact Kk
    refine bh ?_
    try dsimp only[fb,fc]
    refine iH rfl ?_
    refine Li ?_
    show ∃_,_
    exact⟨nth l j,hl _ (my o5),by unfold II;rw[CW];rfl,_,rfl⟩
   ·refine YJ (aL Fa (aL mF hex)) ?_
    refine de _ _ ?_
    refine bI hp (τ':=aG [(6,.op 1 0)]) (H':=[dR s,.cells [.d (iD xo),.d nS,.d (iD xk),.d nS,.d (iD xw),.d nS,.d (.fs xc xn)]]) ?_ ?_
    ·refine zz [0,3] ?_
     refine wE ?_
     exact Kk
    refine bh ?_
    try dsimp only[fb,fc]
    refine iH rfl ?_
    refine Li ?_
    show ∃_,_
    exact⟨nth l j,hl _ (my o5),by unfold II;rw[CW];rfl,_,rfl⟩
end Go.Proofs.YtapjobndmmkanaaGreat
