/- Values of the nodes that a builder makes. -/
import Derived.Test.YtapjobndmmkanaaGreatOk
import Derived.Test.YtapjobndmmkanaaGreatQr
import Derived.Test.YtapjobndmmkanaaGreatVa
set_option linter.unusedVariables false
set_option linter.unusedSimpArgs false
namespace Go.Proofs.YtapjobndmmkanaaGreat
open Go.Proofs.Tryz
open Go Go.RowKit
section
theorem zrw(mems:List (List Int))(v:List Bool)(a b:Gs):ze3 mems v (a++b)=ze3 mems (ze3 mems v a) b:=by unfold ze3;rw[List.foldl_append]
theorem znb(mems:List (List Int)):∀(b:Gs) (v:List Bool),∃t,ze3 mems v b=v++t
 |[],v=>⟨[],by simp[ze3]⟩
 |g::b,v=>by
  obtain⟨t,ht⟩:=znb mems b (v++[opN mems v g])
  exact⟨opN mems v g::t,by show ze3 mems (v++[opN mems v g]) b=_;rw[ht];simp⟩
def vl(mems:List (List Int))(v0:List Bool)(gs:Gs)(x:Int):Bool:=nth (ze3 mems v0 gs) x.toNat
theorem juq{mems:List (List Int)}{v t:List Bool}{g:Gate}(h:RgG v.length g):opN mems (v++t) g=opN mems v g:=by
 have ha:=h.a0;have ha1:=h.a1;have hb:=h.b0;have hb1:=h.b1;have hc:=h.c0;have hc1:=h.c1
 unfold opN
 rw[zsl (show g.a.toNat<v.length by omega),zsl (show g.b.toNat<v.length by omega),zsl (show g.c.toNat<v.length by omega)]
section
variable {mems:List (List Int)} {v0:List Bool} {m:Nat} {gs gs':Gs} {x y z:Int}
theorem zb1(hm:v0.length=m)(hp:gs<+:gs')(hx:NdB m gs x):vl mems v0 gs' x=vl mems v0 gs x:=by
 obtain⟨b,rfl⟩:=hp
 obtain⟨t,ht⟩:=znb mems b (ze3 mems v0 gs)
 unfold vl
 rw[zrw,ht,zsl]
 rw[zcd]
 have:=hx.1;have:=hx.2;omega
theorem jjx(hx:x.toNat<v0.length):vl mems v0 gs x=nth v0 x.toNat:=by
 obtain⟨t,ht⟩:=znb mems gs v0
 unfold vl
 rw[ht,zsl hx]
theorem ybn(hm:v0.length=m)(h:GI m gs){k:Nat}(hk:k<gs.length):vl mems v0 gs ((m+k:Nat):Int)=opN mems (ze3 mems v0 gs) (nth gs k):=by
 obtain⟨t,ht⟩:=znb mems (gs.drop (k+1)) (ze3 mems v0 (gs.take (k+1)))
 have e:ze3 mems v0 gs=ze3 mems v0 (gs.take (k+1))++t:=by
  rw[←ht,←zrw,List.take_append_drop]
 have hl:(ze3 mems v0 (gs.take k)).length=m+k:=by rw[zcd,hm,List.length_take];omega
 unfold vl
 rw[e,zeq mems v0 hk,List.append_assoc]
 have hr:=h.rg k hk
 rw[juq (by rw[hl];exact hr.mono (by omega))]
 rw[Int.toNat_natCast,←hl,zw2 (qao _),Nat.sub_self]
 rfl
theorem zl4(hm:v0.length=m)(h:GI m gs){g:Gate}(hr:RgG ((m:Int)+gs.length) g):vl mems v0 (zc8 m gs g).1 (zc8 m gs g).2=opN mems (ze3 mems v0 gs) g:=by
 unfold zc8
 by_cases hg:g∈gs
 ·rw[if_pos hg]
  obtain⟨h1,h2⟩:=zu1 hg
  rw[ybn hm h h1,h2]
 ·rw[if_neg hg]
  unfold vl
  have hl:(ze3 mems v0 gs).length=m+gs.length:=by rw[zcd,hm]
  have e:ze3 mems v0 (gs++[g])=ze3 mems v0 gs++[opN mems (ze3 mems v0 gs) g]:=by rw[zrw];rfl
  simp only
  rw[e,Int.toNat_natCast,←hl,jxh]
theorem jjy(hm:v0.length=m)(h:GI m gs)(hx:NdB m gs x)(hi:zig m gs x≠ -1):vl mems v0 gs x= !vl mems v0 gs (zig m gs x):=by
 by_cases e:(m:Int)≤x∧(nth gs (x - m).toNat).op=1
 ·have hk:(x - m).toNat<gs.length:=by have:=hx.2;omega
  have e1:zig m gs x=(nth gs (x - m).toNat).a:=by unfold zig;rw[if_pos e]
  have e2:=ybn (mems:=mems) hm h hk
  rw[show((m+(x - (m:Int)).toNat:Nat):Int)=x by omega]at e2
  rw[e2,e1]
  unfold opN
  rw[e.2,if_neg (by decide),if_pos rfl]
  rfl
 ·exfalso;apply hi;unfold zig;rw[if_neg e]
structure V0 (m:Nat) (v0:List Bool):Prop where
 l:v0.length=m
 l2:2≤m
 f:nth v0 0=false
 t:nth v0 1=true
theorem zx6(h:V0 m v0):vl mems v0 gs 0=false:=by have h1:=h.l;have h2:=h.l2;rw[jjx (show(0:Int).toNat<_ by rw[h1];exact Nat.lt_of_lt_of_le (by decide) h2)];exact h.f
theorem zx7(h:V0 m v0):vl mems v0 gs 1=true:=by have h1:=h.l;have h2:=h.l2;rw[jjx (show(1:Int).toNat<_ by rw[h1];exact Nat.lt_of_lt_of_le (by decide) h2)];exact h.t
theorem jjz(h:V0 m v0)(hg:GI m gs)(hx:NdB m gs x)(hy:NdB m gs y)(ho:zod m gs x y=true):vl mems v0 gs x= !vl mems v0 gs y:=by
 simp only[zod,Bool.or_eq_true,qax]at ho
 have:=hx.1
 have:=hy.1
 rcases ho with e|e
 ·have:=jjy (mems:=mems) h.l hg hx (by omega)
  rw[this,e]
 ·have:=jjy (mems:=mems) h.l hg hy (by omega)
  rw[this,e];simp
theorem zw8(h:V0 m v0)(hg:GI m gs)(hx:NdB m gs x):vl mems v0 (zdx m gs x).1 (zdx m gs x).2= !vl mems v0 gs x:=by
 have h2:=h.l2
 unfold zdx
 by_cases h1:x<2
 ·rw[if_pos h1]
  have h0:=hx.1
  rcases(show x=0∨x=1 by omega)with rfl|rfl
  ·show vl mems v0 gs 1=_
   rw[zx6 h,zx7 h];rfl
  ·show vl mems v0 gs 0=_
   rw[zx6 h,zx7 h];rfl
 ·rw[if_neg h1]
  rcases jrw hg hx with hi|⟨hi,hj,_⟩
  ·rw[if_neg (by omega)]
   have hx1:=hx.2
   rw[zl4 h.l hg ⟨by simp,by simp,hx.1,hx1,by simp,by simp only;omega,by simp,by simp only;omega,by simp,by simp,fun _=>rfl,fun _=>rfl,fun _=>rfl⟩]
   rfl
  ·rw[if_pos (by omega)]
   rw[jjy h.l hg hx (by omega)];simp
theorem ybo(h:V0 m v0)(hg:GI m gs)(hx:NdB m gs x)(hy:NdB m gs y)(hxy:x≤y):vl mems v0 (jue m gs x y).1 (jue m gs x y).2=(vl mems v0 gs x&&vl mems v0 gs y):=by
 have h2:=h.l2
 unfold jue
 by_cases h1:x=0∨zod m gs x y=true
 ·rw[if_pos h1]
  simp only
  rw[zx6 h]
  rcases h1 with rfl|h1
  ·rw[zx6 h];rfl
  ·rw[jjz h hg hx hy h1];cases vl mems v0 gs y<;>rfl
 ·rw[if_neg h1]
  by_cases h3:x=1∨x=y
  ·rw[if_pos h3]
   simp only
   rcases h3 with rfl|rfl
   ·rw[zx7 h];simp
   ·simp
  ·rw[if_neg h3,zl4 h.l hg (zt1 h2 (by decide) (by decide) hx hy)];rfl
theorem yh8(h:V0 m v0)(hg:GI m gs)(hx:NdB m gs x)(hy:NdB m gs y)(hxy:x≤y):vl mems v0 (orS m gs x y).1 (orS m gs x y).2=(vl mems v0 gs x||vl mems v0 gs y):=by
 have h2:=h.l2
 unfold orS
 by_cases h1:x=1∨zod m gs x y=true
 ·rw[if_pos h1]
  simp only
  rw[zx7 h]
  rcases h1 with rfl|h1
  ·rw[zx7 h];rfl
  ·rw[jjz h hg hx hy h1];cases vl mems v0 gs y<;>rfl
 ·rw[if_neg h1]
  by_cases h3:x=0∨x=y
  ·rw[if_pos h3]
   simp only
   rcases h3 with rfl|rfl
   ·rw[zx6 h];simp
   ·simp
  ·rw[if_neg h3,zl4 h.l hg (zt1 h2 (by decide) (by decide) hx hy)];rfl
theorem ybp(h:V0 m v0)(hg:GI m gs)(hx:NdB m gs x)(hy:NdB m gs y)(hxy:x≤y):vl mems v0 (juf m gs x y).1 (juf m gs x y).2=(vl mems v0 gs x !=vl mems v0 gs y):=by
 have h2:=h.l2
 unfold juf
 by_cases h1:x=0
 ·rw[if_pos h1]
  subst h1
  simp only
  rw[zx6 h];simp
 ·rw[if_neg h1]
  by_cases h3:x=1
  ·rw[if_pos h3,zw8 h hg hy]
   subst h3
   rw[zx7 h];simp
  ·rw[if_neg h3]
   by_cases h4:x=y
   ·rw[if_pos h4]
    subst h4
    simp only
    rw[zx6 h];simp
   ·rw[if_neg h4]
    by_cases h5:zod m gs x y=true
    ·rw[if_pos h5]
     simp only
     rw[zx7 h,jjz h hg hx hy h5];cases vl mems v0 gs y<;>rfl
    ·rw[if_neg h5,zl4 h.l hg (zt1 h2 (by decide) (by decide) hx hy)];rfl
theorem zu8(x y:Int):(min x y=x∧max x y=y)∨(min x y=y∧max x y=x):=by omega
theorem zrx(h:V0 m v0)(hg:GI m gs)(hx:NdB m gs x)(hy:NdB m gs y):vl mems v0 (zdn m gs x y).1 (zdn m gs x y).2=(vl mems v0 gs x&&vl mems v0 gs y):=by
 unfold zdn
 rw[ybo h hg (zm6 hx hy) (zm7 hx hy) (jfc x y)]
 rcases zu8 x y with⟨e,f⟩|⟨e,f⟩<;>rw[e,f]
 exact Bool.and_comm _ _
theorem ybq(h:V0 m v0)(hg:GI m gs)(hx:NdB m gs x)(hy:NdB m gs y):vl mems v0 (orB m gs x y).1 (orB m gs x y).2=(vl mems v0 gs x||vl mems v0 gs y):=by
 unfold orB
 rw[yh8 h hg (zm6 hx hy) (zm7 hx hy) (jfc x y)]
 rcases zu8 x y with⟨e,f⟩|⟨e,f⟩<;>rw[e,f]
 exact Bool.or_comm _ _
theorem jna(h:V0 m v0)(hg:GI m gs)(hx:NdB m gs x)(hy:NdB m gs y):vl mems v0 (zh0 m gs x y).1 (zh0 m gs x y).2=(vl mems v0 gs x !=vl mems v0 gs y):=by
 unfold zh0
 rw[ybp h hg (zm6 hx hy) (zm7 hx hy) (jfc x y)]
 rcases zu8 x y with⟨e,f⟩|⟨e,f⟩<;>rw[e,f]
 cases vl mems v0 gs x<;>cases vl mems v0 gs y<;>rfl
theorem ybr(h:V0 m v0)(hg:GI m gs)(hx:NdB m gs x)(hy:NdB m gs y)(hz:NdB m gs z):vl mems v0 (zlf m gs x y z).1 (zlf m gs x y z).2=if vl mems v0 gs x then vl mems v0 gs y else vl mems v0 gs z:=by
 have h2:=h.l2
 have x0:=hx.1
 unfold zlf
 by_cases h1:x=0
 ·subst h1;rw[if_pos rfl,zx6 h];rfl
 rw[if_neg h1]
 by_cases h3:x=1∨y=z
 ·rw[if_pos h3]
  rcases h3 with rfl|rfl
  ·rw[zx7 h];rfl
  ·simp
 rw[if_neg h3]
 by_cases h4:y=1
 ·subst h4;rw[if_pos rfl,ybq h hg hx hz,zx7 h];cases vl mems v0 gs x<;>rfl
 rw[if_neg h4]
 by_cases h5:z=0
 ·subst h5;rw[if_pos rfl,zrx h hg hx hy,zx6 h];cases vl mems v0 gs x<;>simp
 rw[if_neg h5]
 have hn:=zer h2 hg hx
 have hnv:=zw8 (mems:=mems) h hg hx
 by_cases h6:y=0
 ·subst h6
  rw[if_pos rfl]
  simp only
  rw[zrx h hn.gi hn.nd (hz.pre hn.pre),hnv,zb1 h.l hn.pre hz,zx6 h];cases vl mems v0 gs x<;>simp
 rw[if_neg h6]
 by_cases h7:z=1
 ·subst h7
  rw[if_pos rfl]
  simp only
  rw[ybq h hn.gi hn.nd (hy.pre hn.pre),hnv,zb1 h.l hn.pre hy,zx7 h];cases vl mems v0 gs x<;>simp
 rw[if_neg h7,zl4 h.l hg ⟨by simp,by simp,x0,hx.2,hy.1,hy.2,hz.1,hz.2,by simp,by simp,fun _=>rfl,fun e=>absurd e (by simp),fun e=>absurd e (by simp)⟩]
 rfl
def mj(a b c:Bool):Bool:=a&&b||a&&c||b&&c
theorem ybs(h:V0 m v0)(hg:GI m gs)(hx:NdB m gs x)(hy:NdB m gs y)(hz:NdB m gs z)(h1:x≤y)(h3:y≤z):vl mems v0 (jug m gs x y z).1 (jug m gs x y z).2=mj (vl mems v0 gs x) (vl mems v0 gs y) (vl mems v0 gs z):=by
 have x0:=hx.1
 have h2:=h.l2
 unfold jug mj
 by_cases h4:x=0
 ·subst h4;rw[if_pos rfl,zrx h hg hy hz,zx6 h];simp
 rw[if_neg h4]
 by_cases h5:x=1
 ·subst h5;rw[if_pos rfl,ybq h hg hy hz,zx7 h];cases vl mems v0 gs y<;>cases vl mems v0 gs z<;>rfl
 rw[if_neg h5]
 by_cases h6:x=y∨y=z
 ·rw[if_pos h6]
  rcases h6 with rfl|rfl
  ·cases vl mems v0 gs x<;>cases vl mems v0 gs z<;>rfl
  ·cases vl mems v0 gs x<;>cases vl mems v0 gs y<;>rfl
 rw[if_neg h6,zl4 h.l hg ⟨by simp,by simp,x0,hx.2,hy.1,hy.2,hz.1,hz.2,by simp,by simp,fun _=>rfl,fun e=>absurd e (by simp),fun e=>absurd e (by simp)⟩]
 show(vl mems v0 gs x&&(vl mems v0 gs y||vl mems v0 gs z)||vl mems v0 gs y&&vl mems v0 gs z)=_
 cases vl mems v0 gs x<;>cases vl mems v0 gs y<;>cases vl mems v0 gs z<;>rfl
theorem ybt(h:V0 m v0)(hg:GI m gs)(hx:NdB m gs x)(hy:NdB m gs y)(hz:NdB m gs z):vl mems v0 (jdy m gs x y z).1 (jdy m gs x y z).2=mj (vl mems v0 gs x) (vl mems v0 gs y) (vl mems v0 gs z):=by
 unfold jdy
 obtain⟨a,b,c,e1,e2,e3,h1,h3,hh⟩:=juh x y z
 rw[e2,e1,e3]
 rcases hh with⟨rfl,rfl,rfl⟩|⟨rfl,rfl,rfl⟩|⟨rfl,rfl,rfl⟩|⟨rfl,rfl,rfl⟩|⟨rfl,rfl,rfl⟩|⟨rfl,rfl,rfl⟩<;>rw[ybs h hg (by assumption) (by assumption) (by assumption) h1 h3]<;>unfold mj<;>generalize vl mems v0 gs _=p<;>generalize vl mems v0 gs _=q<;>generalize vl mems v0 gs _=r<;>cases p<;>cases q<;>cases r<;>rfl
end
section
variable {mems:List (List Int)} {v0:List Bool} {m:Nat} {gs:Gs}
theorem znc(h:V0 m v0){q:Nat}{st:Gs→Nat→Re}{f:Nat→Bool}(hg:GI m gs):∀{n:Nat},(∀k,k<n→∀gs',gs<+:gs'→GI m gs'→Rs m q gs' (st gs' k))→(∀k,k<n→∀gs',gs<+:gs'→GI m gs'→vl mems v0 (st gs' k).1 (st gs' k).2=f k)→
  ∀k,k<n→vl mems v0 (zbu st gs n).1 (nth (zbu st gs n).2 k)=f k
 |n+1,hs,hv,k,hk=>by
  have b:=zc3 (n:=n) hg fun k hk=>hs k (by omega)
  have s:=hs n (by omega) _ b.pre b.gi
  have e:=hv n (by omega) _ b.pre b.gi
  show vl mems v0 (st (zbu st gs n).1 n).1 (nth ((zbu st gs n).2++[(st (zbu st gs n).1 n).2]) k)=f k
  rcases zeg (x:=(st (zbu st gs n).1 n).2) b.wid hk with⟨hl,e1⟩|⟨hl,e1⟩
  ·rw[e1,zb1 h.l s.pre (b.nd k hl)]
   exact znc h hg (fun k hk=>hs k (by omega)) (fun k hk=>hv k (by omega)) k hl
  ·rw[e1,e,hl]
def VB(mems:List (List Int))(v0:List Bool)(gs:Gs)(l:List Int)(w n:Nat):Prop:=∀k,k<w→vl mems v0 gs (nth l k)=n.testBit k
theorem VB.pre(h:V0 m v0){r:Gs × List Int}{gs0 gs':Gs}{c w n:Nat}(hb:Bs m c w gs0 r)(hv:VB mems v0 r.1 r.2 w n)(hp:r.1<+:gs'):VB mems v0 gs' r.2 w n:=fun k hk=>by
 rw[zb1 h.l hp (hb.nd k hk)];exact hv k hk
theorem lsb{w n k:Nat}(hk:k<w):(BitVec.ofNat w n).getLsbD k=n.testBit k:=by rw[BitVec.getLsbD_ofNat];simp[hk]
theorem jr6(a b c:Bool):mj a b c=Bool.atLeastTwo a b c:=by cases a<;>cases b<;>cases c<;>rfl
theorem jur(h:V0 m v0){x y:List Int}{c:Int}{c0:Bool}{w a b:Nat}(hw:x.length=w)(hg:GI m gs)(hx:∀k,k<x.length→NdB m gs (nth x k))(hy:∀k,k<x.length→NdB m gs (nth y k))(hc:NdB m gs c)
  (vx:VB mems v0 gs x w a) (vy:VB mems v0 gs y w b) (vc:vl mems v0 gs c=c0):∀k,k≤x.length→
  (k<x.length→vl mems v0 (zhm m gs x y c k).gs (zhm m gs x y c k).c=BitVec.carry k (BitVec.ofNat w a) (BitVec.ofNat w b) c0)∧
  ∀j,j<k→vl mems v0 (zhm m gs x y c k).gs (nth (zhm m gs x y c k).l j)=((BitVec.ofNat w a).getLsbD j^^((BitVec.ofNat w b).getLsbD j^^BitVec.carry j (BitVec.ofNat w a) (BitVec.ofNat w b) c0))
 |0,_=>⟨fun _=>by simp[zhm,vc,BitVec.carry_zero],fun j hj=>by omega⟩
 |k+1,hk=>by
  obtain⟨ih,ihc⟩:=zw1 h.l2 hg hx hy hc k (by omega)
  obtain⟨iv,jv⟩:=jur h hw hg hx hy hc vx vy vc k (by omega)
  have iv:=iv (by omega)
  have hxk:=(hx k (by omega)).pre ih.pre
  have hyk:=(hy k (by omega)).pre ih.pre
  have ha:=zjr h.l2 ih.gi hxk hyk
  have hb:=zjr h.l2 ha.gi ha.nd (ihc.pre ha.pre)
  have va:=jna (mems:=mems) h ih.gi hxk hyk
  have vb:=jna (mems:=mems) h ha.gi ha.nd (ihc.pre ha.pre)
  have ex:vl mems v0 (zhm m gs x y c k).gs (nth x k)=(BitVec.ofNat w a).getLsbD k:=by rw[zb1 h.l ih.pre (hx k (by omega)),vx k (by omega),lsb (by omega)]
  have ey:vl mems v0 (zhm m gs x y c k).gs (nth y k)=(BitVec.ofNat w b).getLsbD k:=by rw[zb1 h.l ih.pre (hy k (by omega)),vy k (by omega),lsb (by omega)]
  have hd:=jjm h.l2 hb.gi (hxk.pre (ha.pre.trans hb.pre)) (hyk.pre (ha.pre.trans hb.pre)) (ihc.pre (ha.pre.trans hb.pre))
  have vd:=ybt (mems:=mems) h hb.gi (hxk.pre (ha.pre.trans hb.pre)) (hyk.pre (ha.pre.trans hb.pre)) (ihc.pre (ha.pre.trans hb.pre))
  rw[zb1 h.l (ha.pre.trans hb.pre) hxk,zb1 h.l (ha.pre.trans hb.pre) hyk,zb1 h.l (ha.pre.trans hb.pre) ihc,iv,ex,ey,jr6,←BitVec.carry_succ]at vd
  rw[va,zb1 h.l ha.pre ihc,iv,ex,ey]at vb
  rw[zhm]
  simp only
  generalize zhm m gs x y c k=s at *
  generalize zh0 m s.gs (nth x k) (nth y k)=A at *
  generalize zh0 m A.1 A.2 s.c=B at *
  generalize jdy m B.1 (nth x k) (nth y k) s.c=D at *
  have fin:∀gs',B.1<+:gs'→∀j,j<k+1→vl mems v0 gs' (nth (s.l++[B.2]) j)=((BitVec.ofNat w a).getLsbD j^^((BitVec.ofNat w b).getLsbD j^^BitVec.carry j (BitVec.ofNat w a) (BitVec.ofNat w b) c0)):=fun gs' hp j hj=>by
   rcases zeg (x:=B.2) (show s.l.length=k from ih.wid) hj with⟨hl,e1⟩|⟨hl,e1⟩
   ·rw[e1,zb1 h.l (ha.pre.trans (hb.pre.trans hp)) (ih.nd j hl)];exact jv j hl
   ·rw[e1,zb1 h.l hp hb.nd,vb,hl]
    cases(BitVec.ofNat w a).getLsbD k<;>cases(BitVec.ofNat w b).getLsbD k<;>cases BitVec.carry k (BitVec.ofNat w a) (BitVec.ofNat w b) c0<;>rfl
  split
  ·exact⟨fun _=>vd,fin _ hd.pre⟩
  ·exact⟨fun hlt=>by omega,fin _ (List.prefix_refl _)⟩
theorem ykw(h:V0 m v0){x y:List Int}{w a b:Nat}(hw:x.length=w)(hg:GI m gs)(hx:∀k,k<x.length→NdB m gs (nth x k))(hy:∀k,k<x.length→NdB m gs (nth y k))
  (vx:VB mems v0 gs x w a) (vy:VB mems v0 gs y w b):∀k,k≤x.length→vl mems v0 (zsk m gs x y k).1 (zsk m gs x y k).2=decide (∀j,j<k→a.testBit j=b.testBit j)
 |0,_=>by simp[zsk,zx7 h]
 |k+1,hk=>by
  have ih:=jm3 h.l2 hg hx hy k (by omega)
  have iv:=ykw h hw hg hx hy vx vy k (by omega)
  have hxk:=(hx k (by omega)).pre ih.pre
  have hyk:=(hy k (by omega)).pre ih.pre
  have ha:=zjr h.l2 ih.gi hxk hyk
  have hn:=zer h.l2 ha.gi ha.nd
  have va:=jna (mems:=mems) h ih.gi hxk hyk
  have vn:=zw8 (mems:=mems) h ha.gi ha.nd
  have vd:=zrx (mems:=mems) h hn.gi (ih.nd.pre (ha.pre.trans hn.pre)) hn.nd
  rw[zb1 h.l (ha.pre.trans hn.pre) ih.nd,vn,va,iv,zb1 h.l ih.pre (hx k (by omega)),zb1 h.l ih.pre (hy k (by omega)),vx k (by omega),vy k (by omega)]at vd
  refine vd.trans ?_
  rw[Bool.eq_iff_iff]
  simp only[qar,qax,Bool.not_eq_true',bne_eq_false_iff_eq]
  constructor
  ·rintro⟨h1,h2⟩ j hj
   by_cases e:j<k
   ·exact h1 j e
   ·have:j=k:=by omega
    subst this;exact h2
  ·exact fun h1=>⟨fun j hj=>h1 j (by omega),h1 k (by omega)⟩
theorem ykx(h:V0 m v0){x y:List Int}{w a b:Nat}(hw:x.length=w)(hg:GI m gs)(hx:∀k,k<x.length→NdB m gs (nth x k))(hy:∀k,k<x.length→NdB m gs (nth y k))
  (vx:VB mems v0 gs x w a) (vy:VB mems v0 gs y w b):∀k,k≤x.length→vl mems v0 (ltB m gs x y k).1 (ltB m gs x y k).2=BitVec.carry k (BitVec.ofNat w a) (~~~ BitVec.ofNat w b) true
 |0,_=>by simp[ltB,zx7 h,BitVec.carry_zero]
 |k+1,hk=>by
  have ih:=jjn h.l2 hg hx hy k (by omega)
  have iv:=ykx h hw hg hx hy vx vy k (by omega)
  have hxk:=(hx k (by omega)).pre ih.pre
  have hyk:=(hy k (by omega)).pre ih.pre
  have hn:=zer h.l2 ih.gi hyk
  have vn:=zw8 (mems:=mems) h ih.gi hyk
  have vd:=ybt (mems:=mems) h hn.gi (hxk.pre hn.pre) hn.nd (ih.nd.pre hn.pre)
  rw[zb1 h.l hn.pre ih.nd,zb1 h.l hn.pre hxk,vn,iv,zb1 h.l ih.pre (hx k (by omega)),zb1 h.l ih.pre (hy k (by omega)),vx k (by omega),vy k (by omega)]at vd
  refine vd.trans ?_
  rw[jr6,BitVec.carry_succ,lsb (by omega),BitVec.getLsbD_not,lsb (by omega)]
  simp[show k<w by omega]
end
def evE(c:Ct)(regs data:List Nat)(mems:List (List Int)):Ex→Nat
 | .con v _=>v
 | .reg i=>nth regs i
 | .dat i=>nth data i
 | .not a=>2^za7 c a - 1 - evE c regs data mems a
 | .two o a b=>if o=3 then evE c regs data mems a&&& evE c regs data mems b else if o=4 then evE c regs data mems a|||evE c regs data mems b else evE c regs data mems a^^^evE c regs data mems b
 | .add a b=>(evE c regs data mems a+evE c regs data mems b) % 2^za7 c a
 | .sub a b=>(evE c regs data mems a+(2^za7 c a - evE c regs data mems b)) % 2^za7 c a
 | .eq a b=>if evE c regs data mems a=evE c regs data mems b then 1 else 0
 | .lt a b=>if evE c regs data mems a<evE c regs data mems b then 1 else 0
 | .mux a b d=>if evE c regs data mems a=1 then evE c regs data mems b else evE c regs data mems d
 | .cat a b=>evE c regs data mems a*2^za7 c b+evE c regs data mems b
 | .slc k w a=>evE c regs data mems a / 2^k % 2^w
 | .ext _ a=>evE c regs data mems a
 | .rd k a=>(nth (nth mems k) (evE c regs data mems a % (nth c.mems k).1)).toNat
structure StOk (c:Ct) (regs data:List Nat) (mems:List (List Int)):Prop where
 r:∀i,i<c.regs.length→nth regs i<2^nth c.regs i
 d:∀i,i<c.takes.length→nth data i<2^nth c.takes i
 ml:mems.length=c.mems.length
 wl:∀i,i<c.mems.length→(nth mems i).length=(nth c.mems i).1
 m:∀i,i<c.mems.length→∀k,k<(nth c.mems i).1→0≤nth (nth mems i) k∧nth (nth mems i) k<2^(nth c.mems i).2
theorem znd{c:Ct}{q:Bool}{regs data:List Nat}{mems:List (List Int)}(hc:CtOk c)(hs:StOk c regs data mems)(e:Ex):WT c q e→evE c regs data mems e<2^za7 c e:=by
 induction e with
 |con v w=>exact fun h=>h.2.2
 |reg i=>exact fun h=>hs.r i h
 |dat i=>exact fun h=>hs.d i h.2
 |not a ih=>intro h;have:=Nat.two_pow_pos (za7 c a);simp only[evE,za7];omega
 |two o a b iha ihb=>
  intro h
  obtain⟨_,ha,hb,hw⟩:=h
  have h1:=iha ha
  have h2:=ihb hb
  rw[←hw]at h2
  simp only[evE,za7]
  split
  ·exact Nat.and_lt_two_pow _ h2
  ·split
   ·exact Nat.or_lt_two_pow h1 h2
   ·exact Nat.xor_lt_two_pow h1 h2
 |add a b=>intro h;simp only[evE,za7];exact Nat.mod_lt _ (Nat.two_pow_pos _)
 |sub a b=>intro h;simp only[evE,za7];exact Nat.mod_lt _ (Nat.two_pow_pos _)
 |eq a b=>intro h;simp only[evE,za7];split<;>decide
 |lt a b=>intro h;simp only[evE,za7];split<;>decide
 |mux a b d iha ihb ihd=>
  intro h
  obtain⟨_,hb,hd,_,hw⟩:=h
  simp only[evE,za7]
  split
  ·exact ihb hb
  ·rw[hw];exact ihd hd
 |cat a b iha ihb=>
  intro h
  have h1:=iha h.1
  have h2:=ihb h.2.1
  simp only[evE,za7]
  rw[Nat.pow_add]
  have:=Nat.mul_le_mul_right (2^za7 c b) (Nat.succ_le_of_lt h1)
  rw[Nat.succ_mul]at this
  omega
 |slc k w a=>intro h;simp only[evE,za7];exact Nat.mod_lt _ (Nat.two_pow_pos _)
 |ext w a iha=>intro h;have:=iha h.1;simp only[evE,za7];exact Nat.lt_of_lt_of_le this (qba (by decide) h.2.1)
 |rd k a iha=>
  intro h
  have hm:=hc.m k h.2
  have:=hs.m k h.2 (evE c regs data mems a % (nth c.mems k).1) (Nat.mod_lt _ (by omega))
  simp only[evE,za7]
  have h2:((2^(nth c.mems k).2:Nat):Int)=(2:Int)^(nth c.mems k).2:=by simp
  omega
theorem zl5{w n k:Nat}(h:n<2^w)(hk:w≤k):n.testBit k=false:=Nat.testBit_lt_two_pow (Nat.lt_of_lt_of_le h (qba (by decide) hk))
theorem ybu{w a b:Nat}(ha:a<2^w)(hb:b<2^w)(h:∀k,k<w→a.testBit k=b.testBit k):a=b:=Nat.eq_of_testBit_eq fun k=>by
 by_cases hk:k<w
 ·exact h k hk
 ·rw[zl5 ha (by omega),zl5 hb (by omega)]
theorem ybv{w a b:Nat}(ha:a<2^w)(hb:b<2^w):decide (∀j,j<w→a.testBit j=b.testBit j)=decide (a=b):=by
 rw[decide_eq_decide]
 exact⟨ybu ha hb,fun e _ _=>by rw[e]⟩
theorem yh9{w a b:Nat}(ha:a<2^w)(hb:b<2^w):(!BitVec.carry w (BitVec.ofNat w a) (~~~ BitVec.ofNat w b) true)=decide (a<b):=by
 rw[←BitVec.ult_eq_not_carry,BitVec.ult]
 simp[Nat.mod_eq_of_lt ha,Nat.mod_eq_of_lt hb]
theorem jr7{P:Prop}[Decidable P]:(if P then 1 else 0:Nat).testBit 0=decide P:=by by_cases h:P<;>simp[h]
theorem ybw{w a b j:Nat}(hj:j<w):((BitVec.ofNat w a).getLsbD j^^((BitVec.ofNat w b).getLsbD j^^BitVec.carry j (BitVec.ofNat w a) (BitVec.ofNat w b) false))=((a+b) % 2^w).testBit j:=by
 rw[←BitVec.getLsbD_add hj,←lsb (n:=(a+b) % 2^w) hj]
 congr 1
 apply BitVec.eq_of_toNat_eq
 simp
theorem ybx{w a b j:Nat}(hb:b<2^w)(hj:j<w):((BitVec.ofNat w a).getLsbD j^^((BitVec.ofNat w (2^w - 1 - b)).getLsbD j^^BitVec.carry j (BitVec.ofNat w a) (BitVec.ofNat w (2^w - 1 - b)) true))=((a+(2^w - b)) % 2^w).testBit j:=by
 rw[←BitVec.getLsbD_add_add_bool hj,←lsb (n:=(a+(2^w - b)) % 2^w) hj]
 congr 1
 apply BitVec.eq_of_toNat_eq
 have h1:(BitVec.setWidth w (BitVec.ofBool true)).toNat=1 % 2^w:=by simp
 rw[BitVec.toNat_add,BitVec.toNat_add,h1]
 simp only[BitVec.toNat_ofNat,Nat.mod_add_mod,Nat.add_mod_mod,Nat.mod_mod]
 congr 1
 omega
theorem jr8{w a j:Nat}(ha:a<2^w)(hj:j<w):(2^w - 1 - a).testBit j= !a.testBit j:=by
 have:=@Nat.testBit_two_pow_sub_succ a w ha j
 rw[show 2^w - 1 - a=2^w - (a+1) by omega,this]
 simp[hj]
theorem jr9{l:List Int}{n j:Nat}(hj:j<3):nth (zhu l n) j=if j<l.length∧2^j<n then nth l j else 0:=by
 unfold zhu;rw[zfq hj]
theorem jus{a n w:Nat}(h1:n=1∨n=2∨n=4∨n=8)(ha:a<2^w):juc (decide (0<w∧2^0<n)&&a.testBit 0) (decide (1<w∧2^1<n)&&a.testBit 1) (decide (2<w∧2^2<n)&&a.testBit 2)=((a % n:Nat):Int):=by
 have e0:(decide (0<w∧2^0<n)&&a.testBit 0)=(decide (2^0<n)&&a.testBit 0):=by
  by_cases h:0<w
  ·simp[h]
  ·rw[zl5 ha (by omega)];simp
 have e1:(decide (1<w∧2^1<n)&&a.testBit 1)=(decide (2^1<n)&&a.testBit 1):=by
  by_cases h:1<w
  ·simp[h]
  ·rw[zl5 ha (by omega)];simp
 have e2:(decide (2<w∧2^2<n)&&a.testBit 2)=(decide (2^2<n)&&a.testBit 2):=by
  by_cases h:2<w
  ·simp[h]
  ·rw[zl5 ha (by omega)];simp
 rw[e0,e1,e2]
 have t0:a.testBit 0=decide (a % 2=1):=by simp
 have t1:a.testBit 1=decide (a / 2 % 2=1):=by rw[Nat.testBit_eq_decide_div_mod_eq]
 have t2:a.testBit 2=decide (a / 4 % 2=1):=by rw[Nat.testBit_eq_decide_div_mod_eq]
 rw[t0,t1,t2]
 unfold juc
 rcases h1 with rfl|rfl|rfl|rfl<;>simp<;>(repeat' split)<;>omega
end
section
theorem jj0{w b:Nat}(hw:w<2^62)(hb:b≤63):jua (w:Int) (b:Int)=w.testBit b:=by
 unfold jua
 have e1:((b:Int).toNat)=b:=by omega
 rw[e1,Nat.min_eq_left (by omega)]
 have e2:(w:Int).fdiv (2^b)=((w / 2^b:Nat):Int):=by
  rw[Int.fdiv_eq_ediv_of_nonneg _ (by have:(0:Int)<2^b:=Int.pow_pos (by decide);omega)]
  push_cast;rfl
 rw[e2]
 have e3:zr9 .and .i64 ((w / 2^b:Nat):Int) 1=(((w / 2^b) % 2:Nat):Int):=by
  show IntKind.i64.wrap ((BitVec.ofInt 64 ((w / 2^b:Nat):Int)&&& BitVec.ofInt 64 1).toNat:Int)=_
  have:(BitVec.ofInt 64 ((w / 2^b:Nat):Int)&&& BitVec.ofInt 64 1).toNat=(w / 2^b) % 2:=by
   rw[BitVec.toNat_and]
   have h1:(BitVec.ofInt 64 1).toNat=1:=by decide
   have h2:(BitVec.ofInt 64 ((w / 2^b:Nat):Int)).toNat=w / 2^b:=by
    have hu:w / 2^b≤w:=Nat.div_le_self _ _
    rw[BitVec.toNat_ofInt]
    generalize w / 2^b=u at hu ⊢
    omega
   rw[h1,h2,Nat.and_one_is_mod]
  rw[this]
  exact zre (by omega) (by omega)
 rw[e3,Nat.testBit,Nat.shiftRight_eq_div_pow,Nat.one_and_eq_mod_two]
 rcases Nat.mod_two_eq_zero_or_one (w / 2^b)with h|h<;>rw[h]<;>rfl
section
variable {mems:List (List Int)} {v0:List Bool} {m:Nat}
theorem VB.pre'(h:V0 m v0){gs gs':Gs}{l:List Int}{w n:Nat}(hn:∀k,k<w→NdB m gs (nth l k))(hv:VB mems v0 gs l w n)(hp:gs<+:gs'):VB mems v0 gs' l w n:=fun k hk=>by
 rw[zb1 h.l hp (hn k hk)];exact hv k hk
theorem ym3(h:V0 m v0){gs:Gs}{x y o:Int}(hg:GI m gs)(hx:NdB m gs x)(hy:NdB m gs y):vl mems v0 (opB o m gs x y).1 (opB o m gs x y).2=if o=3 then(vl mems v0 gs x&&vl mems v0 gs y)else if o=4 then(vl mems v0 gs x||vl mems v0 gs y)else(vl mems v0 gs x !=vl mems v0 gs y):=by
 unfold opB
 split
 ·exact zrx h hg hx hy
 ·split
  ·exact ybq h hg hx hy
  ·exact jna h hg hx hy
theorem yby(h:V0 m v0){gs:Gs}{v k:Nat}:vl mems v0 gs ((v / 2^k % 2:Nat):Int)=v.testBit k:=by
 rw[Nat.testBit_eq_decide_div_mod_eq]
 rcases(show v / 2^k % 2=0∨v / 2^k % 2=1 by omega)with e|e<;>rw[e]
 ·exact zx6 h
 ·exact zx7 h
theorem ym4{gs:Gs}{a b c n:Int}:opN mems (ze3 mems v0 gs) ⟨7,a,b,c,n⟩=zy6 mems n (juc (vl mems v0 gs a) (vl mems v0 gs b) (vl mems v0 gs c)):=by
 unfold opN vl
 rw[if_pos rfl]
theorem ybz{c:Ct}{q:Bool}{inp:Int→Nat→Nat→Int}{data:List (List Int)}{regs da:List Nat}(h:V0 m v0)(hc:CtOk c)(hi:InOk c inp m)(hs:StOk c regs da mems)(hww:∀k,k<c.mems.length→(nth c.mems k).1=1∨(nth c.mems k).1=2∨(nth c.mems k).1=4∨(nth c.mems k).1=8)
  (hreg:∀i k gs,i<c.regs.length→k<nth c.regs i→vl mems v0 gs (inp 1 i k)=(nth regs i).testBit k) (e:Ex):
  ∀{gs:Gs},GI m gs→DaOk c q m gs data→(q=true→∀i,i<c.takes.length→VB mems v0 gs (nth data i) (nth c.takes i) (nth da i))→WT c q e→VB mems v0 (zbh c inp m data gs e).1 (zbh c inp m data gs e).2 (za7 c e) (evE c regs da mems e):=by
 have hdp:∀{gs gs':Gs},DaOk c q m gs data→(q=true→∀i,i<c.takes.length→VB mems v0 gs (nth data i) (nth c.takes i) (nth da i))→gs<+:gs'→(q=true→∀i,i<c.takes.length→VB mems v0 gs' (nth data i) (nth c.takes i) (nth da i)):=
  fun hd hda hp e i hi=>(hda e i hi).pre' h (hd.nd e i hi) hp
 induction e with
 |con v w=>
  intro gs hg hd hda ht k hk
  simp only[zbh,za7,evE]at hk ⊢
  rw[zfq hk];exact yby h
 |reg i=>
  intro gs hg hd hda ht k hk
  simp only[zbh,za7,evE]at hk ⊢
  rw[zfq hk];exact hreg i k gs ht hk
 |dat i=>
  intro gs hg hd hda ht
  simp only[zbh,za7,evE]
  exact hda ht.1 i ht.2
 |not a iha=>
  intro gs hg hd hda ht
  have ba:=zc9 h.l2 hc hi a hg hd ht
  have va:=iha hg hd hda ht
  have la:=znd hc hs a ht
  simp only[zbh,za7,evE]
  generalize zbh c inp m data gs a=r at *
  rw[ba.wid]
  intro k hk
  rw[znc (q:=1) (f:=fun k=> !(evE c regs da mems a).testBit k) h ba.gi (fun k hk gs' hp hg'=>zer h.l2 hg' (ba.at hp hk)) (fun k hk gs' hp hg'=>by rw[zw8 h hg' (ba.at hp hk),zb1 h.l hp (ba.nd k hk),va k hk]) k hk,jr8 la hk]
 |two o a b iha ihb=>
  intro gs hg hd hda ht
  obtain⟨_,ta,tb,hw⟩:=ht
  have ba:=zc9 h.l2 hc hi a hg hd ta
  have va:=iha hg hd hda ta
  simp only[zbh,za7,evE]
  generalize zbh c inp m data gs a=r at *
  have bb:=zc9 h.l2 hc hi b ba.gi (hd.pre ba.pre) tb
  have vb:=ihb ba.gi (hd.pre ba.pre) (hdp hd hda ba.pre) tb
  generalize zbh c inp m data r.1 b=s at *
  rw[ba.wid]
  rw[←hw]at bb vb
  intro k hk
  rw[znc (q:=1) (f:=fun k=>if o=3 then((evE c regs da mems a).testBit k&&(evE c regs da mems b).testBit k)else if o=4 then((evE c regs da mems a).testBit k||(evE c regs da mems b).testBit k)else((evE c regs da mems a).testBit k !=(evE c regs da mems b).testBit k)) h bb.gi (fun k hk gs' hp hg'=>ya9 h.l2 hg' (ba.at (bb.pre.trans hp) hk) (bb.at hp hk))
   (fun k hk gs' hp hg'=>by rw[ym3 h hg' (ba.at (bb.pre.trans hp) hk) (bb.at hp hk),zb1 h.l (bb.pre.trans hp) (ba.nd k hk),va k hk,zb1 h.l hp (bb.nd k hk),vb k hk]) k hk]
  split
  ·rw[Nat.testBit_and]
  ·split
   ·rw[Nat.testBit_or]
   ·rw[Nat.testBit_xor]
 |add a b iha ihb=>
  intro gs hg hd hda ht
  obtain⟨ta,tb,hw⟩:=ht
  have ba:=zc9 h.l2 hc hi a hg hd ta
  have va:=iha hg hd hda ta
  simp only[zbh,za7,evE]
  generalize zbh c inp m data gs a=r at *
  have bb:=zc9 h.l2 hc hi b ba.gi (hd.pre ba.pre) tb
  have vb:=ihb ba.gi (hd.pre ba.pre) (hdp hd hda ba.pre) tb
  generalize zbh c inp m data r.1 b=s at *
  rw[←hw]at bb vb
  have e:=jur (c0:=false) h ba.wid bb.gi (fun k hk=>ba.at bb.pre (by rw[ba.wid]at hk;exact hk)) (fun k hk=>bb.nd k (by rw[ba.wid]at hk;exact hk)) ⟨by decide,by have:=h.l2;omega⟩ (va.pre h ba bb.pre) vb (zx6 h) r.2.length (qao _)
  intro k hk
  rw[e.2 k (by rw[ba.wid];exact hk),ybw hk]
 |sub a b iha ihb=>
  intro gs hg hd hda ht
  obtain⟨ta,tb,hw⟩:=ht
  have ba:=zc9 h.l2 hc hi a hg hd ta
  have va:=iha hg hd hda ta
  have lb:=znd hc hs b tb
  simp only[zbh,za7,evE]
  generalize zbh c inp m data gs a=r at *
  have bb:=zc9 h.l2 hc hi b ba.gi (hd.pre ba.pre) tb
  have vb:=ihb ba.gi (hd.pre ba.pre) (hdp hd hda ba.pre) tb
  generalize zbh c inp m data r.1 b=s at *
  rw[←hw]at bb vb lb
  rw[bb.wid]
  have hn:=zc3 (q:=1) (n:=za7 c a) bb.gi (st:=fun gs i=>zdx m gs (nth s.2 i)) fun k hk gs' hp hg=>zer h.l2 hg (bb.at hp hk)
  have vn:VB mems v0 (zbu (fun gs i=>zdx m gs (nth s.2 i)) s.1 (za7 c a)).1 (zbu (fun gs i=>zdx m gs (nth s.2 i)) s.1 (za7 c a)).2 (za7 c a) (2^za7 c a - 1 - evE c regs da mems b):=fun k hk=>by
   rw[znc (q:=1) (f:=fun k=> !(evE c regs da mems b).testBit k) h bb.gi (fun k hk gs' hp hg'=>zer h.l2 hg' (bb.at hp hk)) (fun k hk gs' hp hg'=>by rw[zw8 h hg' (bb.at hp hk),zb1 h.l hp (bb.nd k hk),vb k hk]) k hk,jr8 lb hk]
  generalize zbu (fun gs i=>zdx m gs (nth s.2 i)) s.1 (za7 c a)=n at *
  have e:=jur (c0:=true) h ba.wid hn.gi (fun k hk=>ba.at (bb.pre.trans hn.pre) (by rw[ba.wid]at hk;exact hk)) (fun k hk=>hn.nd k (by rw[ba.wid]at hk;exact hk)) ⟨by decide,by have:=h.l2;omega⟩ (va.pre h ba (bb.pre.trans hn.pre)) vn (zx7 h) r.2.length (qao _)
  intro k hk
  rw[e.2 k (by rw[ba.wid];exact hk),ybx lb hk]
 |eq a b iha ihb=>
  intro gs hg hd hda ht
  obtain⟨ta,tb,hw⟩:=ht
  have ba:=zc9 h.l2 hc hi a hg hd ta
  have va:=iha hg hd hda ta
  have la:=znd hc hs a ta
  have lb:=znd hc hs b tb
  simp only[zbh,za7,evE]
  generalize zbh c inp m data gs a=r at *
  have bb:=zc9 h.l2 hc hi b ba.gi (hd.pre ba.pre) tb
  have vb:=ihb ba.gi (hd.pre ba.pre) (hdp hd hda ba.pre) tb
  generalize zbh c inp m data r.1 b=s at *
  rw[←hw]at bb vb lb
  have e:=ykw h ba.wid bb.gi (fun k hk=>ba.at bb.pre (by rw[ba.wid]at hk;exact hk)) (fun k hk=>bb.nd k (by rw[ba.wid]at hk;exact hk)) (va.pre h ba bb.pre) vb r.2.length (qao _)
  intro k hk
  have hk0:k=0:=by omega
  subst hk0
  show vl mems v0 _ (zsk m s.1 r.2 s.2 r.2.length).2=_
  rw[e,ba.wid,ybv la lb,jr7]
 |lt a b iha ihb=>
  intro gs hg hd hda ht
  obtain⟨ta,tb,hw⟩:=ht
  have ba:=zc9 h.l2 hc hi a hg hd ta
  have va:=iha hg hd hda ta
  have la:=znd hc hs a ta
  have lb:=znd hc hs b tb
  simp only[zbh,za7,evE]
  generalize zbh c inp m data gs a=r at *
  have bb:=zc9 h.l2 hc hi b ba.gi (hd.pre ba.pre) tb
  have vb:=ihb ba.gi (hd.pre ba.pre) (hdp hd hda ba.pre) tb
  generalize zbh c inp m data r.1 b=s at *
  rw[←hw]at bb vb lb
  have hx:∀k,k<r.2.length→NdB m s.1 (nth r.2 k):=fun k hk=>ba.at bb.pre (by rw[ba.wid]at hk;exact hk)
  have hy:∀k,k<r.2.length→NdB m s.1 (nth s.2 k):=fun k hk=>bb.nd k (by rw[ba.wid]at hk;exact hk)
  have t:=jjn h.l2 bb.gi hx hy r.2.length (qao _)
  have e:=ykx h ba.wid bb.gi hx hy (va.pre h ba bb.pre) vb r.2.length (qao _)
  intro k hk
  have hk0:k=0:=by omega
  subst hk0
  show vl mems v0 _ (zdx m (ltB m s.1 r.2 s.2 r.2.length).1 (ltB m s.1 r.2 s.2 r.2.length).2).2=_
  rw[zw8 h t.gi t.nd,e,ba.wid,yh9 la lb,jr7]
 |mux a b d iha ihb ihd=>
  intro gs hg hd hda ht
  obtain⟨ta,tb,td,w1,hw⟩:=ht
  have ba:=zc9 h.l2 hc hi a hg hd ta
  have va:=iha hg hd hda ta
  have la:=znd hc hs a ta
  simp only[zbh,za7,evE]
  generalize zbh c inp m data gs a=r at *
  have bb:=zc9 h.l2 hc hi b ba.gi (hd.pre ba.pre) tb
  have vb:=ihb ba.gi (hd.pre ba.pre) (hdp hd hda ba.pre) tb
  generalize zbh c inp m data r.1 b=s at *
  have bd:=zc9 h.l2 hc hi d bb.gi (hd.pre (ba.pre.trans bb.pre)) td
  have vd:=ihd bb.gi (hd.pre (ba.pre.trans bb.pre)) (hdp hd hda (ba.pre.trans bb.pre)) td
  generalize zbh c inp m data s.1 d=t at *
  rw[←hw]at bd vd
  rw[bb.wid]
  rw[w1]at ba va la
  intro k hk
  rw[znc (q:=2) (f:=fun k=>if(evE c regs da mems a).testBit 0 then(evE c regs da mems b).testBit k else(evE c regs da mems d).testBit k) h bd.gi
   (fun k hk gs' hp hg'=>zt2 h.l2 hg' (ba.at (bb.pre.trans (bd.pre.trans hp)) (by decide)) (bb.at (bd.pre.trans hp) hk) (bd.at hp hk))
   (fun k hk gs' hp hg'=>by
    rw[ybr h hg' (ba.at (bb.pre.trans (bd.pre.trans hp)) (by decide)) (bb.at (bd.pre.trans hp) hk) (bd.at hp hk),zb1 h.l (bb.pre.trans (bd.pre.trans hp)) (ba.nd 0 (by decide)),va 0 (by decide),zb1 h.l (bd.pre.trans hp) (bb.nd k hk),vb k hk,zb1 h.l hp (bd.nd k hk),vd k hk]) k hk]
  rcases(show evE c regs da mems a=0∨evE c regs da mems a=1 by omega)with e|e<;>rw[e]<;>simp
 |cat a b iha ihb=>
  intro gs hg hd hda ht
  obtain⟨ta,tb,hw⟩:=ht
  have ba:=zc9 h.l2 hc hi a hg hd ta
  have va:=iha hg hd hda ta
  have lb:=znd hc hs b tb
  simp only[zbh,za7,evE]
  generalize zbh c inp m data gs a=r at *
  have bb:=zc9 h.l2 hc hi b ba.gi (hd.pre ba.pre) tb
  have vb:=ihb ba.gi (hd.pre ba.pre) (hdp hd hda ba.pre) tb
  generalize zbh c inp m data r.1 b=s at *
  intro k hk
  rw[Nat.mul_comm,Nat.testBit_two_pow_mul_add _ lb]
  by_cases hl:k<za7 c b
  ·rw[if_pos hl,zsl (by rw[bb.wid];exact hl)];exact vb k hl
  ·rw[if_neg hl,zw2 (by rw[bb.wid];omega),bb.wid,zb1 h.l bb.pre (ba.nd _ (by omega))];exact va _ (by omega)
 |slc k w a iha=>
  intro gs hg hd hda ht
  obtain⟨ta,w1,hw⟩:=ht
  have va:=iha hg hd hda ta
  simp only[zbh,za7,evE]
  generalize zbh c inp m data gs a=r at *
  intro j hj
  rw[jry hj,va _ (by omega),Nat.testBit_mod_two_pow,Nat.testBit_div_two_pow]
  simp[hj,Nat.add_comm]
 |ext w a iha=>
  intro gs hg hd hda ht
  obtain⟨ta,hw,w8⟩:=ht
  have ba:=zc9 h.l2 hc hi a hg hd ta
  have va:=iha hg hd hda ta
  have la:=znd hc hs a ta
  simp only[zbh,za7,evE]
  generalize zbh c inp m data gs a=r at *
  intro k hk
  by_cases hl:k<za7 c a
  ·rw[zsl (by rw[ba.wid];exact hl)];exact va k hl
  ·rw[zw2 (by rw[ba.wid];omega),jrx (by rw[ba.wid];omega),zx6 h,zl5 la (by omega)]
 |rd k a iha=>
  intro gs hg hd hda ht
  obtain⟨ta,hk⟩:=ht
  have ba:=zc9 h.l2 hc hi a hg hd ta
  have va:=iha hg hd hda ta
  have la:=znd hc hs a ta
  have hm:=hc.m k hk
  have hl:=hc.l
  have hwl:=hs.wl k hk
  have hml:=hs.ml
  have hwd:=hs.m k hk (evE c regs da mems a % (nth c.mems k).1) (Nat.mod_lt _ (by omega))
  have h4:=hww k hk
  simp only[zbh,za7,evE]
  generalize zbh c inp m data gs a=r at *
  intro i hik
  have nd:∀{gs':Gs} {j:Nat},r.1<+:gs'→j<3→NdB m gs' (nth (zhu r.2 (nth c.mems k).1) j):=fun hp hj3=>zt3 h.l2 (fun j hj=>ba.at hp (by rw[ba.wid]at hj;exact hj)) hj3
  have vdj:∀{gs':Gs} {j:Nat},r.1<+:gs'→j<3→vl mems v0 gs' (nth (zhu r.2 (nth c.mems k).1) j)=(decide (j<za7 c a∧2^j<(nth c.mems k).1)&&(evE c regs da mems a).testBit j):=fun{gs' j} hp hj3=>by
   rw[jr9 hj3,ba.wid]
   by_cases e:j<za7 c a∧2^j<(nth c.mems k).1
   ·rw[if_pos e,zb1 h.l hp (ba.nd j e.1),va j e.1];simp[e]
   ·rw[if_neg e,zx6 h];simp[e]
  have hrg:∀{gs':Gs} {i:Nat},r.1<+:gs'→i<(nth c.mems k).2→RgG ((m:Int)+gs'.length) ⟨7,nth (zhu r.2 (nth c.mems k).1) 0,nth (zhu r.2 (nth c.mems k).1) 1,nth (zhu r.2 (nth c.mems k).1) 2,((8*k+i:Nat):Int)⟩:=fun{gs' i} hp hik=>by
   have n0:=nd (j:=0) hp (by decide)
   have n1:=nd (j:=1) hp (by decide)
   have n2:=nd (j:=2) hp (by decide)
   exact⟨by simp,by simp,n0.1,n0.2,n1.1,n1.2,n2.1,n2.2,by simp only;omega,by simp only;omega,fun e=>absurd rfl e,fun e=>absurd e (by simp),fun e=>absurd e (by simp)⟩
  rw[znc (q:=1) (n:=(nth c.mems k).2) (f:=fun i=>((nth (nth mems k) (evE c regs da mems a % (nth c.mems k).1)).toNat).testBit i) h ba.gi
   (fun i hik gs' hp hg=>zih hg (hrg hp hik)
    ⟨fun e=>absurd e (by simp),fun _ e=>absurd e (by simp),fun e=>absurd e (by simp),fun e=>absurd e (by simp)⟩)
   (fun i hik gs' hp hg=>by
    rw[zl4 h.l hg (hrg hp hik),ym4,vdj (j:=0) hp (by decide),vdj (j:=1) hp (by decide),vdj (j:=2) hp (by decide),jus h4 la]
    have ha:=Nat.mod_lt (evE c regs da mems a) (show 0<(nth c.mems k).1 by omega)
    unfold zy6
    rw[show(((8*k+i:Nat):Int) / 8)=(k:Int) by omega,show(((8*k+i:Nat):Int) % 8)=(i:Int) by omega,Int.toNat_natCast,Int.toNat_natCast]
    rw[decide_eq_true (show(k:Int)<(mems.length:Int) by omega),decide_eq_true (show((evE c regs da mems a % (nth c.mems k).1:Nat):Int)<((nth mems k).length:Int) by omega),Bool.true_and,Bool.true_and]
    obtain⟨v,hv⟩:∃v:Nat,nth (nth mems k) (evE c regs da mems a % (nth c.mems k).1)=v:=⟨_,(qaz hwd.1).symm⟩
    rw[hv,Int.toNat_natCast]
    rw[hv]at hwd
    have hp2:(2:Nat)^(nth c.mems k).2≤2^8:=qba (by decide) hm.2.2.2
    have hv8:v<2^62:=by
     have h2:((2^(nth c.mems k).2:Nat):Int)=(2:Int)^(nth c.mems k).2:=by simp
     have:v<2^(nth c.mems k).2:=by omega
     omega
    exact jj0 hv8 (by omega)) i hik]
end
set_option maxRecDepth 100000
set_option maxHeartbeats 4000000
end
def nI(l:List Nat):D:=.fs (l.map fun n:Nat=>iD n) l.length
structure SM where
 pre:D
 w:Nat
 post:List D
 deriving Inhabited
def smC(m:SM):List D:=m.pre::iD m.w::(m.post++List.replicate 25 nS).take 25
theorem yky(m:SM):(smC m).length=27:=by simp[smC]
theorem ym5{l:List SM}{k:Nat}(h:k<l.length):(l.flatMap smC)[k*27+1]? =some (iD (nth l k).w):=(zdk (j:=1) yky h (by omega)).trans rfl
theorem zb8{l:List SM}:(l.flatMap smC).length=l.length*27:=zc1 yky l
structure Sc where
 regs:List Nat
 takes:List Nat
 mems:List SM
 q:Bool
def scV(s:Sc):List AV:=[.d (nI s.regs),.d (nI s.takes),.os 27 0 0 s.mems.length,.d (oD s.q)]
def zdv(s:Sc):AObj:=.cells (avs (s.mems.flatMap smC))
structure ScOk (C:Ct) (s:Sc):Prop where
 r:C.regs=s.regs
 t:s.q=true→C.takes=s.takes
 m:C.mems.map (·.2)=s.mems.map (·.w)
 rl:s.regs.length≤100
 tl:s.takes.length≤100
 ml:s.mems.length≤8
def exZ:Ex→List D
 | .reg i=>[iD 16,nS,iD i,nS,iD 0,nS,.val (.slice none 0 0)]
 | .dat i=>[iD 18,nS,iD i,nS,iD 0,nS,.val (.slice none 0 0)]
 |e=>exC e
theorem jut(e:Ex):(exZ e).length=7:=by cases e<;>rfl
theorem zeh{l:List Ex}:(l.flatMap exZ).length=l.length*7:=zc1 jut l
structure Fit (C:Ct) (q:Bool) (w n:Nat) (e:Ex):Prop where
 t:WT C q e
 w:za7 C e=w
 n:za8 C e≤n
theorem jd2{C:Ct}{q:Bool}{w n:Nat}{l:List Ex}{e:Ex}(h:∀x∈l,Fit C q w n x)(he:Fit C q w n e):∀x∈l++[e],Fit C q w n x:=fun x hx=>by
 rcases qas.1 hx with hx|hx
 ·exact h x hx
 ·rw[qau.1 hx];exact he
def LvK(C:Ct)(s:Sc)(w:Nat)(x:AV)(S':zad):Prop:=∃l:List Ex,l.length≤200∧(∀e∈l,Fit C s.q w 0 e)∧x= .d (.fs (l.flatMap exZ) l.length)∧S'=[zdv s]
theorem zbn{p:Nat→Bool}{s:Sc}:(zdv s).allI p=true:=zae
theorem zb4{keep:List Nat}{s:Sc}:gcO keep (zdv s)=zdv s:=by unfold zdv;rw[jt8,zmr]
theorem zb5{id:Nat}{l:List D}{s:Sc}:fzO id l (zdv s)=zdv s:=by unfold zdv;rw[jt9,zms]
theorem zu9{p q:Prop}(hq:q)(h:p=q:=by
 conv=>lhs;simp -dsimp -implicitDefEqProofs (disch:=first|assumption|omega|(simp only[r_z,zb8,zeh]<;>omega)|decide) only[r_r,↓reduceIte,Nat.reduceEqDiff,Nat.reduceAdd,D.fix,Int.reduceToNat,Nat.reduceMul,Nat.reduceBNe,Nat.reduceBEq,scV,nI,zb4,zb5,qae]):p:=h.mpr hq
theorem jnb{p q:Prop}(hq:q)(h:p=q:=by
 conv=>lhs;simp -dsimp -implicitDefEqProofs (disch:=first|assumption|omega|(simp only[r_z,zb8,zeh]<;>omega)|decide) only[r_r,↓reduceIte,Nat.reduceEqDiff,Nat.reduceAdd,D.fix,Int.reduceToNat,Nat.reduceMul,Nat.reduceBNe,Nat.reduceBEq,scV,nI,zb4,zb5]):p:=h.mpr hq
theorem jnc(k:List Nat){m:List Nat}{τ τ1:Fr}{H H1:zad}(h:Rt m (fun t=>gcV k (τ t)) (gcH k H) τ1 H1)(a:∀i∈m,k[i]? =some i:=by decide)(b:k.Nodup:=by decide)(c:∀i∈k,i<H.length:=by
 simp[fzH,gcH]):Rt m τ H τ1 H1:=Rt.trans (Rt.gc a b c) h
theorem jgd{m:List Nat}{τ τ':Fr}{H H':zad}(h2:H=H')(h:zgk τ τ':=by
 repeat (first|exact zaq _|refine zak ?_ (by first|rfl|(simp[r_f,zb8,zeh];done)|simp[r_f,zb8,zeh, *]))):Rt m τ H τ' H':=Rt.end h h2
theorem yb0{p q:Prop}(hq:q)(h:p=q:=by
 conv=>lhs;simp -dsimp -implicitDefEqProofs (disch:=first|assumption|omega|(simp only[r_z,zb8,zeh]<;>omega)|decide) only[r_r,↓reduceIte,Nat.reduceEqDiff,Nat.reduceAdd,D.fix,Int.reduceToNat,Nat.reduceMul,Nat.reduceBNe,Nat.reduceBEq,scV,nI,zb4,zb5,za4,qae]):p:=h.mpr hq
theorem yb1{p q r:Prop}(e:r)(hq:q)(h:r→p=q:=by
 intro hY
 conv=>lhs;simp -dsimp -implicitDefEqProofs (disch:=first|assumption|omega|(simp only[r_z,zb8,zeh]<;>omega)|decide) only[r_r,↓reduceIte,Nat.reduceEqDiff,Nat.reduceAdd,D.fix,Int.reduceToNat,Nat.reduceMul,Nat.reduceBNe,Nat.reduceBEq,scV,nI,zb4,zb5,qae,hY]):p:=(h e).mpr hq
theorem jxi{p:Prop}(h:p:=by
 first|rfl|(simp only[r_g,Nat.reduceAdd,↓reduceIte,Nat.reduceEqDiff,scV,nI,zb4,zb5];first|done|rfl)):p:=h
theorem jnd(C:Ct)(s:Sc)(w:Nat)(hs:ScOk C s)(hw:w≤100):ScS prog [0] 168 [.agg (scV s),.d (iD w)] ([zdv s]) (LvK C s w):=by
 refine zbg (fn:=f168) (by kernel_rfl) func168 rfl (qaf rfl) fun c hc hp=>?_
 refine zdq ?_
 have hrl:=hs.rl
 have htl:=hs.tl
 refine szq (zu9 ·) ?_
 refine szq (zu9 ·) ?_
 refine zaa fun K3 hK3=>?_
 refine szq (jnb ·) ?_
 refine zag ?_
 refine zao hp (fun τ' H' mm=>∃(i:Nat) (l:List Ex),(i≤s.regs.length∧l.length≤i∧∀e∈l,Fit C s.q w 0 e)∧mm=s.regs.length - i∧H'=[zdv s,.cells (scV s),.cells (avs (l.flatMap exZ))]∧τ'=frL [(1,.d (iD w)),(2,.op 1 0),(5,.os 7 2 0 l.length),(6,.d (iD i))]) (s.regs.length) ?_ ⟨0,[],⟨qap _,qap _,fun e he=>by cases he⟩,rfl,rfl,rfl⟩ ?_
 ·refine jnc [0,1,2] ?_
  refine jgd ?_
  exact jxi
 rintro τ' H' mm ⟨i,l,⟨hi,hll,hl⟩,rfl,rfl,rfl⟩
 refine zaa fun K5 hK5=>?_
 refine szq (zu9 ·) ?_
 refine zan rfl (fun ht=>?_) (fun ht=>?_)
 ·have hlt:i<s.regs.length:=by simp at ht;omega
  refine zai (hK5 _ _ ?_)
  refine zaa fun K7 hK7=>?_
  refine zag ?_
  refine szq (yb0 ·) ?_
  refine zan rfl (fun ht=>?_) (fun ht=>?_)
  ·have hwe:nth s.regs i=w:=by simp at ht;omega
   refine szs (zu9 ·) (hK7 _ _ ?_)
   refine za1 hp zah hc rfl fun K10 hK10=>?_
   refine zu9 ?_
   refine hK10 _ _ ⟨_,_,_,?_,⟨i+1,l++[.reg i],⟨by omega,by simp;omega,jd2 hl ⟨by show i<C.regs.length;rw[hs.r];exact hlt,by show nth C.regs i=w;rw[hs.r,hwe],qao _⟩⟩,rfl,rfl,rfl⟩,?_⟩
   ·first|omega|(simp only[List.length_cons];omega)|(dsimp only;omega)
   ·refine jnc [0,1,4] ?_
    refine jgd ?_
    simp only[r_g,Nat.reduceAdd,↓reduceIte,Nat.reduceEqDiff,scV,nI,zb4,zb5];simp[exZ,iD,nS,oD]
  ·refine zai (hK7 _ _ ?_)
   refine za1 hp zah hc rfl fun K11 hK11=>?_
   refine zu9 ?_
   refine hK11 _ _ ⟨_,_,_,?_,⟨i+1,l,⟨by omega,by omega,hl⟩,rfl,rfl,rfl⟩,?_⟩
   ·first|omega|(simp only[List.length_cons];omega)|(dsimp only;omega)
   ·refine jgd ?_
    exact jxi
 ·have hii:i=s.regs.length:=by simp at ht;omega
  subst hii
  refine zau (hK3 _ _ ?_)
  refine zaa fun K12 hK12=>?_
  refine szq (jnb ·) ?_
  refine zag ?_
  refine zao hp (fun τ' H' mm=>∃(i:Nat) (l:List Ex),(i≤s.takes.length∧l.length≤100+i∧∀e∈l,Fit C s.q w 0 e)∧mm=s.takes.length - i∧H'=[zdv s,.cells (scV s),.cells (avs (l.flatMap exZ))]∧τ'=frL [(1,.d (iD w)),(2,.op 1 0),(5,.os 7 2 0 l.length),(7,.d (iD i))]) (s.takes.length) ?_ ⟨0,l,⟨qap _,by omega,hl⟩,rfl,rfl,rfl⟩ ?_
  ·refine jgd ?_
   exact jxi
  rintro τ' H' mm ⟨i,l,⟨hi,hll2,hl2⟩,rfl,rfl,rfl⟩
  refine zaa fun K14 hK14=>?_
  refine zaf hp zah hc rfl fun K15 hK15=>?_
  by_cases q:i<s.takes.length
  ·have q1:decide ((i:Int)<s.takes.length)=true:=decide_eq_true (by omega)
   refine yb1 q1 ?_
   refine hK15 _ _ ?_
   refine zan rfl (fun ht=>?_) (fun ht=>?_)
   ·have hq:s.q=true:=ht
    refine zai (hK14 _ _ ?_)
    refine zaa fun K16 hK16=>?_
    refine zag ?_
    refine szq (yb0 ·) ?_
    refine zan rfl (fun ht=>?_) (fun ht=>?_)
    ·have hwe:nth s.takes i=w:=by simp at ht;omega
     refine szs (zu9 ·) (hK16 _ _ ?_)
     refine za1 hp zah hc rfl fun K19 hK19=>?_
     refine zu9 ?_
     refine hK19 _ _ ⟨_,_,_,?_,⟨i+1,l++[.dat i],⟨by omega,by simp;omega,jd2 hl2 ⟨(show WT C s.q (.dat i) from⟨hq,by rw[hs.t hq];exact q⟩),by show nth C.takes i=w;rw[hs.t hq,hwe],qao _⟩⟩,rfl,rfl,rfl⟩,?_⟩
     ·first|omega|(simp only[List.length_cons];omega)|(dsimp only;omega)
     ·refine jnc [0,1,4] ?_
      refine jgd ?_
      simp only[r_g,Nat.reduceAdd,↓reduceIte,Nat.reduceEqDiff,scV,nI,zb4,zb5];simp[exZ,iD,nS,oD]
    ·refine zai (hK16 _ _ ?_)
     refine za1 hp zah hc rfl fun K20 hK20=>?_
     refine zu9 ?_
     refine hK20 _ _ ⟨_,_,_,?_,⟨i+1,l,⟨by omega,by omega,hl2⟩,rfl,rfl,rfl⟩,?_⟩
     ·first|omega|(simp only[List.length_cons];omega)|(dsimp only;omega)
     ·refine jgd ?_
      exact jxi
   ·refine zau (hK12 _ _ ?_)
    refine szq (jnb ·) ?_
    refine zav hp (τ':=frL [(4,.d (.fs (l.flatMap exZ) l.length))]) (H':=[zdv s]) ?_ ?_
    ·refine Rt.trans (Rt.fz (id:=2) (l:=(l.flatMap exZ)) rfl) ?_
     refine Rt.trans (Rt.slot 4 (zex (zba (by rw[zeh])))) ?_
     refine jnc [0] ?_
     refine jgd ?_
     exact jxi
    refine zaj ?_
    refine zap (t:=4) rfl ?_
    show ∃_,_
    exact⟨l,by omega,hl2,rfl,rfl⟩
  ·have q1:decide ((i:Int)<s.takes.length)=false:=decide_eq_false (by omega)
   refine yb1 q1 ?_
   refine hK15 _ _ ?_
   refine szf ?_
   refine zau (hK12 _ _ ?_)
   refine szq (jnb ·) ?_
   refine zav hp (τ':=frL [(4,.d (.fs (l.flatMap exZ) l.length))]) (H':=[zdv s]) ?_ ?_
   ·refine Rt.trans (Rt.fz (id:=2) (l:=(l.flatMap exZ)) rfl) ?_
    refine Rt.trans (Rt.slot 4 (zex (zba (by rw[zeh])))) ?_
    refine jnc [0] ?_
    refine jgd ?_
    exact jxi
   refine zaj ?_
   refine zap (t:=4) rfl ?_
   show ∃_,_
   exact⟨l,by omega,hl2,rfl,rfl⟩
theorem jj1(e:Ex):(∃o k w,exZ e=[iD o,nS,iD k,nS,iD w,nS,.val (.slice none 0 0)]∧exC e=[iD o,nS,iD k,nS,iD w,nS,.fs [] 0])∨∃o k w cs n,exZ e=[iD o,nS,iD k,nS,iD w,nS,.fs cs n]∧exC e=[iD o,nS,iD k,nS,iD w,nS,.fs cs n]:=by
 cases e<;>first|exact .inl ⟨_,_,_,rfl,rfl⟩|exact .inr ⟨_,_,_,_,_,rfl,rfl⟩
theorem juu{l:List Ex}{k:Nat}(h:k<l.length):zbz (l.flatMap exZ) (k*7) 7=some (exZ (nth l k)):=zgl jut h
def exV(e:Ex):List AV:=(exC e).map .d
def LfK(C:Ct)(s:Sc)(w:Nat)(x:AV)(S':zad):Prop:=∃e:Ex,Fit C s.q w 0 e∧x= .agg (exV e)∧∃j,S'=[zdv s,.cells j]
theorem juv{p q:Prop}(hq:q)(h:p=q:=by
 conv=>lhs;simp -dsimp -implicitDefEqProofs (disch:=first|assumption|omega|(simp only[r_z,zb8,zeh]<;>omega)|decide) only[r_r,↓reduceIte,Nat.reduceEqDiff,Nat.reduceAdd,D.fix,Int.reduceToNat,Nat.reduceMul,Nat.reduceBNe,Nat.reduceBEq,scV,nI,exR,zb4,zb5,qae]):p:=h.mpr hq
theorem jfh{p q r:Prop}(e:r)(hq:q)(h:r→p=q:=by
 intro hY
 conv=>lhs;simp -dsimp -implicitDefEqProofs (disch:=first|assumption|omega|(simp only[r_z,zb8,zeh]<;>omega)|decide) only[r_r,↓reduceIte,Nat.reduceEqDiff,Nat.reduceAdd,D.fix,Int.reduceToNat,Nat.reduceMul,Nat.reduceBNe,Nat.reduceBEq,scV,nI,exR,zb4,zb5,qae,hY]):p:=(h e).mpr hq
theorem jne{p q:Prop}(hq:q)(h:p=q:=by
 conv=>lhs;simp -dsimp -implicitDefEqProofs (disch:=first|assumption|omega|(simp only[r_z,zb8,zeh]<;>omega)|decide) only[r_r,↓reduceIte,Nat.reduceEqDiff,Nat.reduceAdd,D.fix,Int.reduceToNat,Nat.reduceMul,Nat.reduceBNe,Nat.reduceBEq,scV,nI,exR,zb4,zb5,zdb,zdi]):p:=h.mpr hq
theorem yb2{p q r:Prop}(e:r)(hq:q)(h:r→p=q:=by
 intro hY
 conv=>lhs;simp -dsimp -implicitDefEqProofs (disch:=first|assumption|omega|(simp only[r_z,zb8,zeh]<;>omega)|decide) only[r_r,↓reduceIte,Nat.reduceEqDiff,Nat.reduceAdd,D.fix,Int.reduceToNat,Nat.reduceMul,Nat.reduceBNe,Nat.reduceBEq,scV,nI,exR,zb4,zb5,juu,jut,qae,hY]):p:=(h e).mpr hq
theorem ygt{p:Prop}(h:p:=by
 first|rfl|(simp only[r_g,Nat.reduceAdd,↓reduceIte,Nat.reduceEqDiff,scV,nI,exR,zb4,zb5];first|done|rfl)):p:=h
theorem jsa(C:Ct)(s:Sc)(w b:Nat)(hs:ScOk C s)(hw1:1≤w)(hw:w≤8)(hb:b<1000):ScS prog [0] 112 [.agg (scV s),.d (iD w),.d (iD b)] ([zdv s,.free]) (LfK C s w):=by
 refine zbg (fn:=f112) (by kernel_rfl) func112 rfl (qaf rfl) fun c hc hp=>?_
 refine zf8 ?_
 have hb4:(b:Int) / 4=((b / 4:Nat):Int):=by omega
 have hcn:=ybm (b / 4) w (by omega) hw
 unfold exC at hcn
 refine szq (juv ·) ?_
 refine zaf hp zah hc rfl fun K2 hK2=>?_
 refine juv ?_
 refine zk7 (S:=[zdv s]) (T:=[.free,.cells (scV s),.cells [.d (iD 0),.d nS,.d (iD 0),.d nS,.d (iD 0),.d nS,.d (.val (.slice none 0 0))]]) (jnd C s w hs (by omega)) rfl (by first|rfl|(simp[AV.allIs,AV.allI,zas,zal,zam,okI,ltI,zae,zaz,zbn,scV];done)|(intro o ho;simp at ho;done)) (fun t=>zbi (by first|rfl|(simp[AV.allIs,AV.allI,zas,zal,zam,okI,ltI,zae,zaz,zbn,scV];done)|(intro o ho;simp at ho;done)) t) (by first|rfl|(simp[AV.allIs,AV.allI,zas,zal,zam,okI,ltI,zae,zaz,zbn,scV];done)|(intro o ho;simp at ho;done)) (by first|rfl|(simp[AV.allIs,AV.allI,zas,zal,zam,okI,ltI,zae,zaz,zbn,scV];done)|(intro o ho;simp at ho;done)) (by first|rfl|(simp[AV.allIs,AV.allI,zas,zal,zam,okI,ltI,zae,zaz,zbn,scV];done)|(intro o ho;simp at ho;done)) ?_
 rintro _ _ ⟨l,hll,hl,rfl,rfl⟩
 refine⟨rfl,?_⟩
 refine juv ?_
 refine hK2 _ _ ?_
 refine zaa fun K3 hK3=>?_
 refine zaf hp zah hc rfl fun K4 hK4=>?_
 rcases Nat.eq_zero_or_pos l.length with q|q
 ·have q1:((l.length:Int)==0)=true:=by simp[q]
  refine jfh q1 ?_
  refine hK4 _ _ ?_
  refine szt ?_
  refine zaf hp zah hc rfl fun K5 hK5=>?_
  refine jfh hb4 ?_
  refine zbl (hcn) rfl ?_
  refine jfh hb4 ?_
  refine hK5 _ _ ?_
  refine zav hp (τ':=frL [(6,.op 1 0)]) (H':=[zdv s,.cells ((exR 1 ((b / 4 % 2^w:Nat):Int) w [] 0).map .d)]) ?_ ?_
  ·refine jnc [0,3] ?_
   refine jgd ?_
   exact ygt
  refine zaj ?_
  try dsimp only[zcg,za5]
  refine za6 rfl ?_
  refine jne ?_
  show ∃_,_
  exact⟨.con (b / 4 % 2^w) w,⟨⟨hw1,hw,ybl⟩,rfl,qao _⟩,rfl,_,rfl⟩
 ·have q1:((l.length:Int)==0)=false:=by rw[beq_eq_false_iff_ne];omega
  refine jfh q1 ?_
  refine hK4 _ _ ?_
  refine zan rfl (fun ht=>?_) (fun ht=>?_)
  ·refine zaf hp zah hc rfl fun K6 hK6=>?_
   refine jfh hb4 ?_
   refine zbl (hcn) rfl ?_
   refine jfh hb4 ?_
   refine hK6 _ _ ?_
   refine zav hp (τ':=frL [(6,.op 1 0)]) (H':=[zdv s,.cells ((exR 1 ((b / 4 % 2^w:Nat):Int) w [] 0).map .d)]) ?_ ?_
   ·refine jnc [0,3] ?_
    refine jgd ?_
    exact ygt
   refine zaj ?_
   try dsimp only[zcg,za5]
   refine za6 rfl ?_
   refine jne ?_
   show ∃_,_
   exact⟨.con (b / 4 % 2^w) w,⟨⟨hw1,hw,ybl⟩,rfl,qao _⟩,rfl,_,rfl⟩
  ·refine zai (hK3 _ _ ?_)
   obtain⟨j,hj⟩:∃j:Nat,j=b / 4 % l.length:=⟨_,rfl⟩
   have hjl:j<l.length:=by rw[hj];exact Nat.mod_lt _ q
   have hji:((b / 4:Nat):Int) % (l.length:Int)=(j:Int):=by rw[hj];exact(Int.natCast_emod _ _).symm
   refine zaf hp zah hc rfl fun K7 hK7=>?_
   rcases jj1 (nth l j)with⟨xo,xk,xw,hex,hex2⟩|⟨xo,xk,xw,xc,xn,hex,hex2⟩
   ·refine yb2 (sza hb4 (sza hji hex)) ?_
    refine hK7 _ _ ?_
    refine zav hp (τ':=frL [(6,.op 1 0)]) (H':=[zdv s,.cells [.d (iD xo),.d nS,.d (iD xk),.d nS,.d (iD xw),.d nS,.d (.fs [] 0)]]) ?_ ?_
    ·refine Rt.trans (Rt.fixc 3 6 rfl rfl) ?_
     refine jnc [0,3] ?_
     refine jgd ?_
     exact ygt
    refine zaj ?_
    try dsimp only[zcg,za5]
    refine za6 rfl ?_
    refine jne ?_
    show ∃_,_
    exact⟨nth l j,hl _ (zcb hjl),by unfold exV;rw[hex2];rfl,_,rfl⟩
   ·refine yb2 (sza hb4 (sza hji hex)) ?_
    refine hK7 _ _ ?_
    refine zav hp (τ':=frL [(6,.op 1 0)]) (H':=[zdv s,.cells [.d (iD xo),.d nS,.d (iD xk),.d nS,.d (iD xw),.d nS,.d (.fs xc xn)]]) ?_ ?_
    ·refine jnc [0,3] ?_
     refine jgd ?_
     exact ygt
    refine zaj ?_
    try dsimp only[zcg,za5]
    refine za6 rfl ?_
    refine jne ?_
    show ∃_,_
    exact⟨nth l j,hl _ (zcb hjl),by unfold exV;rw[hex2];rfl,_,rfl⟩
end Go.Proofs.YtapjobndmmkanaaGreat
