/- Of no program: reduced ordered trees; two that have the same values are equal. -/
import Derived.Test.YtapjobndmmkanaaGreatAZ
import Derived.Test.YtapjobndmmkanaaGreatQr
import Derived.Test.YtapjobndmmkanaaGreatTy
set_option linter.unusedVariables false
set_option linter.unusedSimpArgs false
namespace Go.Proofs.YtapjobndmmkanaaGreat
open Go.Proofs.Tryz
inductive T where
 |leaf (b:Bool)
 |node (v:Nat) (lo hi:T)
 deriving DecidableEq,Inhabited
def upd(a:Nat→Bool)(v:Nat)(b:Bool):Nat→Bool:=fun i=>if i=v then b else a i
set_option maxRecDepth 100000
set_option maxHeartbeats 4000000
section
open Go Go.RowKit
theorem zy5{p q:Prop}(hq:q)(h:p=q:=by
 conv=>lhs;simp -dsimp -implicitDefEqProofs (disch:=first|assumption|omega|(simp only[r_z]<;>omega)|decide) only[r_r,↓reduceIte,Nat.reduceEqDiff,Nat.reduceAdd,D.fix,Int.reduceToNat,Nat.reduceMul,Nat.reduceBNe,Nat.reduceBEq]):p:=h.mpr hq
theorem jjk{p q:Prop}(hq:q)(h:p=q:=by
 conv=>lhs;simp -dsimp -implicitDefEqProofs (disch:=first|assumption|omega|(simp only[r_z]<;>omega)|decide) only[r_r,↓reduceIte,Nat.reduceEqDiff,Nat.reduceAdd,D.fix,Int.reduceToNat,Nat.reduceMul,Nat.reduceBNe,Nat.reduceBEq,qae]):p:=h.mpr hq
theorem ykv{m:List Nat}{τ τ':Fr}{H H':zad}(h2:H=H')(h:zgk τ τ':=by
 repeat (first|exact zaq _|refine zak ?_ (by first|rfl|(simp[r_f];done)|simp[r_f, *]))):Rt m τ H τ' H':=Rt.end h h2
theorem jxf{p q:Prop}(hq:q)(h:p=q:=by
 conv=>lhs;simp (disch:=first|assumption|omega|(simp only[r_z]<;>omega)|decide) only[r_c,Nat.reduceAdd,D.fix,↓reduceIte,Nat.reduceEqDiff]):p:=h.mpr hq
theorem jrt(a b:List Int)(ha:a.length≤maxLen):za2 prog 47 [intsD a,intsD b] (.d (oD (decide (a=b)))):=by
 refine zax (fn:=f47) (by kernel_rfl) func47 rfl (qaf rfl) fun c hc hp=>?_
 refine za0 (τ':=frL [(0,.d (intsD a)),(1,.d (intsD b))]) (by repeat (first|exact zaq _|refine zak ?_ (by first|rfl|(simp[r_f];done)|simp[r_f, *]))) ?_
 unfold maxLen at ha
 refine szq (zy5 ·) ?_
 refine zaa fun K2 hK2=>?_
 refine szq (jjk ·) ?_
 refine zan rfl (fun ht=>?_) (fun ht=>?_)
 ·have hne:a≠b:=fun e=>by subst e;simp at ht
  refine szq (zy5 ·) ?_
  refine zaj ?_
  show closeA _ _=_
  refine jxf ?_
  simp[hne]
 ·have hl:a.length=b.length:=by simp at ht;omega
  refine zai (hK2 _ _ ?_)
  refine zaa fun K5 hK5=>?_
  refine szq (zy5 ·) ?_
  refine zag ?_
  refine zao hp (fun τ' H' mm=>∃k,(k≤a.length∧a.take k=b.take k)∧mm=a.length - k∧H'=[]∧τ'=frL [(5,.d (iD k)),(0,.d (intsD a)),(1,.d (intsD b))]) (a.length) ?_ ⟨0,⟨qap _,rfl⟩,rfl,rfl,rfl⟩ ?_
  ·refine ykv ?_
   first|rfl|(simp only[r_g,Nat.reduceAdd,↓reduceIte,Nat.reduceEqDiff];first|done|rfl)
  rintro τ' H' mm ⟨k,⟨hk,htake⟩,rfl,rfl,rfl⟩
  refine zaa fun K7 hK7=>?_
  refine szq (jjk ·) ?_
  refine zan rfl (fun ht=>?_) (fun ht=>?_)
  ·have hlt:k<a.length:=by simp at ht;omega
   have hlt2:k<b.length:=by omega
   refine zai (hK7 _ _ ?_)
   refine zaa fun K9 hK9=>?_
   refine zag ?_
   refine zay zah hc mixed rfl (q:=0) (by kernel_rfl) (by kernel_rfl) fun K10 hK10=>?_
   refine jjk ?_
   refine hK10 _ _ ?_
   refine zan rfl (fun ht=>?_) (fun ht=>?_)
   ·have hne:a≠b:=fun e=>by subst e;simp at ht
    refine szq (zy5 ·) ?_
    refine zaj ?_
    show closeA _ _=_
    refine jxf ?_
    simp[hne]
   ·refine zai (hK9 _ _ ?_)
    refine za1 hp zah hc rfl fun K12 hK12=>?_
    refine jjk ?_
    refine hK12 _ _ ⟨_,_,_,?_,⟨k+1,⟨by omega,zwj hlt hlt2 htake (by simpa using ht)⟩,rfl,rfl,rfl⟩,?_⟩
    ·first|omega|(simp only[List.length_cons];omega)|(dsimp only;omega)
    ·refine ykv ?_
     first|rfl|(simp only[r_g,Nat.reduceAdd,↓reduceIte,Nat.reduceEqDiff];first|done|rfl)
  ·have hge:k=a.length:=by simp at ht;omega
   have he:a=b:=by rw[hge,List.take_length,hl,List.take_length]at htake;exact htake
   refine zau (hK5 _ _ ?_)
   refine szq (zy5 ·) ?_
   refine zaj ?_
   show closeA _ _=_
   refine jxf ?_
   simp[he]
structure Wire where
 kind:Int
 i:Int
 bit:Int
instance:Inhabited Wire:=⟨⟨0,0,0⟩⟩
structure Gate where
 op:Int
 a:Int
 b:Int
 c:Int
 n:Int
instance:Inhabited Gate:=⟨⟨0,0,0,0,0⟩⟩
structure Net where
 ins:List Wire
 gates:List Gate
 out:List Wire
 drive:List Int
def zcp(w:Wire):List D:=[iD w.kind,iD w.i,iD w.bit]
def za3(g:Gate):List D:=[iD g.op,iD g.a,iD g.b,iD g.c,iD g.n]
def zbf(l:List Wire):D:=.fs (l.flatMap zcp) l.length
def zbj(l:List Gate):D:=.fs (l.flatMap za3) l.length
def zdu(n:Net):List D:=[zbf n.ins,zbj n.gates,zbf n.out,intsD n.drive]
def zdj(n:Net):D:=.agg (zdu n)
theorem zhl(g:Gate):(za3 g).length=5:=rfl
theorem zb9(w:Wire):(zcp w).length=3:=rfl
section
variable {l:List Gate} {k:Nat}
theorem zfp(h:k<l.length):zbz (l.flatMap za3) (k*5) 5=some (za3 (nth l k)):=zgl zhl h
theorem yax(h:k<l.length):(l.flatMap za3)[k*5]? =some (iD (nth l k).op):=(zdk (j:=0) zhl h (by omega)).trans rfl
theorem yay(h:k<l.length):(l.flatMap za3)[k*5+1]? =some (iD (nth l k).a):=(zdk (j:=1) zhl h (by omega)).trans rfl
theorem zab:(l.flatMap za3).length=l.length*5:=zc1 zhl l
theorem jmy(l:List Gate):(l.flatMap za3).map D.fix=l.flatMap za3:=zuu (fun _=>rfl) l
theorem jmz(l:List Wire):(l.flatMap zcp).map D.fix=l.flatMap zcp:=zuu (fun _=>rfl) l
end
section
variable {l:List Wire} {k:Nat}
theorem zb2(h:k<l.length):zbz (l.flatMap zcp) (k*3) 3=some (zcp (nth l k)):=zgl zb9 h
theorem zac:(l.flatMap zcp).length=l.length*3:=zc1 zb9 l
end
def jua(v b:Int):Bool:=zr9 .and .i64 (v.fdiv (2^min b.toNat 64)) 1==1
theorem jub(v b:Int)(hb:0≤b):za2 prog 129 [iD v,iD b] (.d (oD (jua v b))):=by
 refine zax (fn:=f129) (by kernel_rfl) func129 rfl (qaf rfl) fun c hc hp=>?_
 refine za0 (τ':=frL [(0,.d (iD v)),(1,.d (iD b))]) (by repeat (first|exact zaq _|refine zak ?_ (by first|rfl|(simp[r_f];done)|simp[r_f, *]))) ?_
 refine szq (zy5 ·) ?_
 refine szq (jjk ·) ?_
 refine zaj ?_
 show closeA _ _=_
 simp (disch:=first|assumption|omega|(simp only[r_z]<;>omega)|decide) only[r_c,Nat.reduceAdd,D.fix,↓reduceIte,Nat.reduceEqDiff,jua]
def juc(a b c:Bool):Int:=(if a then 1 else 0)+(if b then 2 else 0)+(if c then 4 else 0)
theorem yaz(a b c:Bool):0≤juc a b c∧juc a b c≤7:=by cases a<;>cases b<;>cases c<;>decide
theorem jm0(a b c:Bool):za2 prog 132 [.fs [oD a,oD b,oD c] 3] (.d (iD (juc a b c))):=by
 cases a<;>cases b<;>cases c<;>exact zch (n:=60) mixed zah (by kernel_rfl)
def zy6(mems:List (List Int))(n x:Int):Bool:=decide (n / 8<mems.length)&&(decide (x<(nth mems (n / 8).toNat).length)&&jua (nth (nth mems (n / 8).toNat) x.toNat) (n % 8))
theorem jm1{p q r:Prop}(e:r)(hq:q)(h:r→p=q:=by
 intro hY
 conv=>lhs;simp -dsimp -implicitDefEqProofs (disch:=first|assumption|omega|(simp only[r_z]<;>omega)|decide) only[r_r,↓reduceIte,Nat.reduceEqDiff,Nat.reduceAdd,D.fix,Int.reduceToNat,Nat.reduceMul,Nat.reduceBNe,Nat.reduceBEq,decide_true,decide_false,qae,hY]):p:=(h e).mpr hq
theorem ya0(mems:List (List Int))(n x:Int)(hn:0≤n)(hn2:n<1000000)(hx:0≤x):za2 prog 131 [intssD mems,iD n,iD x] (.d (oD (zy6 mems n x))):=by
 refine zax (fn:=f131) (by kernel_rfl) func131 rfl (qaf rfl) fun c hc hp=>?_
 refine za0 (τ':=frL [(0,.d (intssD mems)),(1,.d (iD n)),(2,.d (iD x))]) (by repeat (first|exact zaq _|refine zak ?_ (by first|rfl|(simp[r_f];done)|simp[r_f, *]))) ?_
 refine szq (zy5 ·) ?_
 refine zaf hp zah hc rfl fun K2 hK2=>?_
 by_cases h1:n / 8<mems.length
 by_cases h2:x<(nth mems (n / 8).toNat).length
 ·refine jm1 (sza h1 h2) ?_
  refine zbl (jub _ _ (by omega)) rfl ?_
  refine jm1 (sza h1 h2) ?_
  refine hK2 _ _ ?_
  refine zaj ?_
  show closeA _ _=_
  refine jxf ?_
  simp[zy6,h1,h2]
 ·refine jm1 (sza h1 h2) ?_
  refine hK2 _ _ ?_
  refine zaj ?_
  show closeA _ _=_
  refine jxf ?_
  simp[zy6,h1,h2]
 ·have h2:=h1
  refine jm1 (sza h1 h2) ?_
  refine hK2 _ _ ?_
  refine zaj ?_
  show closeA _ _=_
  refine jxf ?_
  simp[zy6,h1]
def opsC:List D:=[iD 1,.val (.func (.func 174) #[] #[]),iD 2,.val (.func (.func 175) #[] #[]),iD 3,.val (.func (.func 176) #[] #[]),iD 4,.val (.func (.func 177) #[] #[]),iD 5,.val (.func (.func 178) #[] #[]),iD 6,.val (.func (.func 179) #[] #[])]
theorem zy7:za2 prog 130 [] (.d (.agg opsC)):=zch (n:=60) mixed zah (by kernel_rfl)
theorem ymv(x y z:Bool):za2 prog 174 [oD x,oD y,oD z] (.d (oD (!x))):=by cases x<;>cases y<;>cases z<;>exact zch (n:=60) mixed zah (by kernel_rfl)
theorem ymw(x y z:Bool):za2 prog 175 [oD x,oD y,oD z] (.d (oD (x&&y))):=by cases x<;>cases y<;>cases z<;>exact zch (n:=60) mixed zah (by kernel_rfl)
theorem ymx(x y z:Bool):za2 prog 176 [oD x,oD y,oD z] (.d (oD (x||y))):=by cases x<;>cases y<;>cases z<;>exact zch (n:=60) mixed zah (by kernel_rfl)
theorem ymy(x y z:Bool):za2 prog 177 [oD x,oD y,oD z] (.d (oD (x !=y))):=by cases x<;>cases y<;>cases z<;>exact zch (n:=60) mixed zah (by kernel_rfl)
theorem ymz(x y z:Bool):za2 prog 178 [oD x,oD y,oD z] (.d (oD (if x then y else z))):=by cases x<;>cases y<;>cases z<;>exact zch (n:=60) mixed zah (by kernel_rfl)
theorem ym0(x y z:Bool):za2 prog 179 [oD x,oD y,oD z] (.d (oD (x&&(y||z)||y&&z))):=by cases x<;>cases y<;>cases z<;>exact zch (n:=60) mixed zah (by kernel_rfl)
def zy8(op a b c n:Int):List D:=[.fs opsC 6,.clo (.func 134) [] [.fp [iD op,iD a,iD b,iD c,iD n] 0]]
theorem ya1(a b c n:Int):za2 prog 133 (zy8 1 a b c n) (.d (iD 0)):=zch (n:=60) mixed zah (by kernel_rfl)
theorem ya2(a b c n:Int):za2 prog 133 (zy8 2 a b c n) (.d (iD 1)):=zch (n:=60) mixed zah (by kernel_rfl)
theorem ya3(a b c n:Int):za2 prog 133 (zy8 3 a b c n) (.d (iD 2)):=zch (n:=60) mixed zah (by kernel_rfl)
theorem ya4(a b c n:Int):za2 prog 133 (zy8 4 a b c n) (.d (iD 3)):=zch (n:=60) mixed zah (by kernel_rfl)
theorem ya5(a b c n:Int):za2 prog 133 (zy8 5 a b c n) (.d (iD 4)):=zch (n:=60) mixed zah (by kernel_rfl)
theorem ya6(a b c n:Int):za2 prog 133 (zy8 6 a b c n) (.d (iD 5)):=zch (n:=60) mixed zah (by kernel_rfl)
end
section
open Go Go.RowKit
theorem ze2:opsC.length=12:=rfl
structure GateOk (m:Nat) (g:Gate):Prop where
 o1:1≤g.op
 o2:g.op≤7
 a0:0≤g.a
 a1:g.a<m
 b0:0≤g.b
 b1:g.b<m
 c0:0≤g.c
 c1:g.c<m
 n0:0≤g.n
 n1:g.n<1000000
def zoc(m:Nat)(l:List Gate):Prop:=∀k,k<l.length→GateOk (m+k) (nth l k)
def opN(mems:List (List Int))(v:List Bool)(g:Gate):Bool:=
 if g.op=7 then zy6 mems g.n (juc (nth v g.a.toNat) (nth v g.b.toNat) (nth v g.c.toNat))
 else if g.op=1 then !nth v g.a.toNat
 else if g.op=2 then nth v g.a.toNat&&nth v g.b.toNat
 else if g.op=3 then nth v g.a.toNat||nth v g.b.toNat
 else if g.op=4 then nth v g.a.toNat !=nth v g.b.toNat
 else if g.op=5 then if nth v g.a.toNat then nth v g.b.toNat else nth v g.c.toNat
 else nth v g.a.toNat&&(nth v g.b.toNat||nth v g.c.toNat)||nth v g.b.toNat&&nth v g.c.toNat
def ze3(mems:List (List Int))(v:List Bool)(l:List Gate):List Bool:=l.foldl (fun v g=>v++[opN mems v g]) v
def zwz(gates:List Gate)(inp:List Bool)(mems:List (List Int)):List Bool:=ze3 mems (false::true::inp) gates
theorem zcd(mems:List (List Int)):∀(l:List Gate) (v:List Bool),(ze3 mems v l).length=v.length+l.length
 |[],v=>rfl
 |g::l,v=>by
  show(ze3 mems (v++[opN mems v g]) l).length=_
  rw[zcd mems l];simp;omega
theorem zeq(mems:List (List Int))(v:List Bool){l:List Gate}{k:Nat}(h:k<l.length):ze3 mems v (l.take (k+1))=ze3 mems v (l.take k)++[opN mems (ze3 mems v (l.take k)) (nth l k)]:=by
 rw[zd0 h];simp[ze3]
theorem zjq{p q:Prop}(hq:q)(h:p=q:=by
 conv=>lhs;simp -dsimp -implicitDefEqProofs (disch:=first|assumption|omega|(simp only[r_z,zab,zac,zcd,ze2]<;>omega)|decide) only[r_r,↓reduceIte,Nat.reduceEqDiff,Nat.reduceAdd,D.fix,Int.reduceToNat,Nat.reduceMul,Nat.reduceBNe,Nat.reduceBEq,zdj,zdu,zbf,zbj,zfp,zhl,zb9,za3,qae]):p:=h.mpr hq
theorem ya7{p q:Prop}(hq:q)(h:p=q:=by
 conv=>lhs;simp -dsimp -implicitDefEqProofs (disch:=first|assumption|omega|(simp only[r_z,zab,zac,zcd,ze2]<;>omega)|decide) only[r_r,↓reduceIte,Nat.reduceEqDiff,Nat.reduceAdd,D.fix,Int.reduceToNat,Nat.reduceMul,Nat.reduceBNe,Nat.reduceBEq,zdj,zdu,zbf,zbj,zfp,zhl,zb9,za3,opsC,qae]):p:=h.mpr hq
theorem jru(k:List Nat){m:List Nat}{τ τ1:Fr}{H H1:zad}(h:Rt m (fun t=>gcV k (τ t)) (gcH k H) τ1 H1)(a:∀i∈m,k[i]? =some i:=by decide)(b:k.Nodup:=by decide)(c:∀i∈k,i<H.length:=by
 simp[fzH,gcH]):Rt m τ H τ1 H1:=Rt.trans (Rt.gc a b c) h
theorem jrv{m:List Nat}{τ τ':Fr}{H H':zad}(h2:H=H')(h:zgk τ τ':=by
 repeat (first|exact zaq _|refine zak ?_ (by first|rfl|(simp[r_f,zab,zac,zcd,ze2];done)|simp[r_f,zab,zac,zcd,ze2, *]))):Rt m τ H τ' H':=Rt.end h h2
theorem zpu{p q r:Prop}(e:r)(hq:q)(h:r→p=q:=by
 intro hY
 conv=>lhs;simp -dsimp -implicitDefEqProofs (disch:=first|assumption|omega|(simp only[r_z,zab,zac,zcd,ze2]<;>omega)|decide) only[r_r,↓reduceIte,Nat.reduceEqDiff,Nat.reduceAdd,D.fix,Int.reduceToNat,Nat.reduceMul,Nat.reduceBNe,Nat.reduceBEq,zdj,zdu,zbf,zbj,zfp,zhl,zb9,za3,qae,hY]):p:=(h e).mpr hq
theorem zpv{p q r:Prop}(e:r)(hq:q)(h:r→p=q:=by
 intro hY
 conv=>lhs;simp -dsimp -implicitDefEqProofs (disch:=first|assumption|omega|(simp only[r_z,zab,zac,zcd,ze2]<;>omega)|decide) only[r_r,↓reduceIte,Nat.reduceEqDiff,Nat.reduceAdd,D.fix,Int.reduceToNat,Nat.reduceMul,Nat.reduceBNe,Nat.reduceBEq,zdj,zdu,zbf,zbj,zfp,zhl,zb9,za3,opsC,qae,hY]):p:=(h e).mpr hq
theorem jud{p q:Prop}(hq:q)(h:p=q:=by
 conv=>lhs;simp only[r_g,Nat.reduceAdd,↓reduceIte,Nat.reduceEqDiff,zdj,zdu,zbf,zbj,zfp,zhl,zb9,za3]):p:=h.mpr hq
theorem jxg{p:Prop}(h:p:=by
 simp (disch:=first|assumption|omega|(simp only[r_z,zab,zac,zcd,ze2]<;>omega)|decide) only[r_c,Nat.reduceAdd,D.fix,↓reduceIte,Nat.reduceEqDiff,zdj,zdu,zbf,zbj,zfp,zhl,zb9,za3,zy8,opsC]):p:=h
theorem ya8(n:Net)(inp:List Bool)(mems:List (List Int))(hg:zoc (2+inp.length) n.gates)(h1:inp.length≤1000000)(h2:n.gates.length≤1000000):za2 prog 88 [zdj n,boolsD inp,intssD mems] (.d (boolsD (zwz n.gates inp mems))):=by
 refine zax (fn:=f88) (by kernel_rfl) func88 rfl (qaf rfl) fun c hc hp=>?_
 refine za0 (τ':=frL [(0,.d (zdj n)),(1,.d (boolsD inp)),(2,.d (intssD mems))]) (by repeat (first|exact zaq _|refine zak ?_ (by first|rfl|(simp[r_f,zab,zac,zcd,ze2];done)|simp[r_f,zab,zac,zcd,ze2, *]))) ?_
 refine szq (zjq ·) ?_
 refine szq (zjq ·) ?_
 refine zaf hp zah hc rfl fun K3 hK3=>?_
 refine ya7 ?_
 refine zbl (zy7) rfl ?_
 refine ya7 ?_
 refine hK3 _ _ ?_
 refine zaa fun K4 hK4=>?_
 refine szq (zjq ·) ?_
 refine zag ?_
 refine zao hp (fun τ' H' mm=>∃k,(k≤n.gates.length)∧mm=n.gates.length - k∧H'=[.cells (avs ((ze3 mems (false::true::inp) (n.gates.take k)).map oD)),.cells (avs opsC)]∧τ'=frL [(2,.d (intssD mems)),(7,.os 1 0 0 (2+inp.length+k)),(8,.op 1 0),(20,.d (zbj n.gates)),(21,.d (iD n.gates.length)),(22,.d (iD k))]) (n.gates.length) ?_ ⟨0,qap _,rfl,rfl,rfl⟩ ?_
 ·refine jru [2,3] ?_
  refine jrv ?_
  first|rfl|(simp only[r_g,Nat.reduceAdd,↓reduceIte,Nat.reduceEqDiff,zdj,zdu,zbf,zbj,zfp,zhl,zb9,za3];first|done|rfl)
 rintro τ' H' mm ⟨k,hk,rfl,rfl,rfl⟩
 refine szq (zjq ·) ?_
 refine zaa fun K7 hK7=>?_
 refine zan rfl (fun ht=>?_) (fun ht=>?_)
 ·have hlt:k<n.gates.length:=by simp at ht;omega
  refine zai (hK7 _ _ ?_)
  refine zaa fun K8 hK8=>?_
  refine zag ?_
  have ok:=hg k hlt
  obtain⟨o1,o2,a0,a1,b0,b1,c0,c1,n0,n1⟩:=ok
  have hl:(ze3 mems (false::true::inp) (n.gates.take k)).length=2+inp.length+k:=by rw[zcd];simp;omega
  refine szq (zjq ·) ?_
  refine zay zah hc mixed rfl (q:=0) (by kernel_rfl) (by kernel_rfl) fun K10 hK10=>?_
  refine zjq ?_
  refine hK10 _ _ ?_
  refine zaa fun K11 hK11=>?_
  refine szq (zjq ·) ?_
  refine zan rfl (fun ht=>?_) (fun ht=>?_)
  ·have h7:(nth n.gates k).op=7:=by simpa using ht
   refine zay zah hc mixed rfl (q:=3) (by kernel_rfl) (by kernel_rfl) fun K13 hK13=>?_
   refine zjq ?_
   refine zbl (jm0 _ _ _) rfl ?_
   refine zjq ?_
   refine zbl (ya0 _ _ _ n0 n1 (yaz _ _ _).1) rfl ?_
   refine zjq ?_
   refine hK13 _ _ ?_
   refine zau (hK8 _ _ ?_)
   refine za1 hp zah hc rfl fun K14 hK14=>?_
   refine zjq ?_
   refine hK14 _ _ ⟨_,_,_,?_,⟨k+1,by omega,rfl,rfl,rfl⟩,?_⟩
   ·first|omega|(simp only[List.length_cons];omega)|(dsimp only;omega)
   ·refine jru [5,1] ?_
    refine jrv ?_
    refine jud ?_;simp[zeq _ _ hlt,opN,h7,oD]
  ·have h7:¬(nth n.gates k).op=7:=by simpa using ht
   refine zai (hK11 _ _ ?_)
   refine zaf hp zah hc rfl fun K15 hK15=>?_
   rcases(show(nth n.gates k).op=1∨(nth n.gates k).op=2∨(nth n.gates k).op=3∨(nth n.gates k).op=4∨(nth n.gates k).op=5∨(nth n.gates k).op=6 by omega)with ho|ho|ho|ho|ho|ho
   ·refine zpu ho ?_
    refine zta (ya1 (nth n.gates k).a (nth n.gates k).b (nth n.gates k).c (nth n.gates k).n) ?_ ?_
    ·exact jxg
    refine zpu ho ?_
    refine hK15 _ _ ?_
    refine za1 hp zah hc rfl fun K16 hK16=>?_
    refine zpv ho ?_
    refine zbl (ymv _ _ _) rfl ?_
    refine zpv ho ?_
    refine hK16 _ _ (hK8 _ _ ?_)
    refine za1 hp zah hc rfl fun K17 hK17=>?_
    refine zjq ?_
    refine hK17 _ _ ⟨_,_,_,?_,⟨k+1,by omega,rfl,rfl,rfl⟩,?_⟩
    ·first|omega|(simp only[List.length_cons];omega)|(dsimp only;omega)
    ·refine jru [4,1] ?_
     refine jrv ?_
     refine jud ?_;simp[zeq _ _ hlt,opN,ho,oD];rfl
   ·refine zpu ho ?_
    refine zta (ya2 (nth n.gates k).a (nth n.gates k).b (nth n.gates k).c (nth n.gates k).n) ?_ ?_
    ·exact jxg
    refine zpu ho ?_
    refine hK15 _ _ ?_
    refine za1 hp zah hc rfl fun K18 hK18=>?_
    refine zpv ho ?_
    refine zbl (ymw _ _ _) rfl ?_
    refine zpv ho ?_
    refine hK18 _ _ (hK8 _ _ ?_)
    refine za1 hp zah hc rfl fun K19 hK19=>?_
    refine zjq ?_
    refine hK19 _ _ ⟨_,_,_,?_,⟨k+1,by omega,rfl,rfl,rfl⟩,?_⟩
    ·first|omega|(simp only[List.length_cons];omega)|(dsimp only;omega)
    ·refine jru [4,1] ?_
     refine jrv ?_
     refine jud ?_;simp[zeq _ _ hlt,opN,ho,oD];rfl
   ·refine zpu ho ?_
    refine zta (ya3 (nth n.gates k).a (nth n.gates k).b (nth n.gates k).c (nth n.gates k).n) ?_ ?_
    ·exact jxg
    refine zpu ho ?_
    refine hK15 _ _ ?_
    refine za1 hp zah hc rfl fun K20 hK20=>?_
    refine zpv ho ?_
    refine zbl (ymx _ _ _) rfl ?_
    refine zpv ho ?_
    refine hK20 _ _ (hK8 _ _ ?_)
    refine za1 hp zah hc rfl fun K21 hK21=>?_
    refine zjq ?_
    refine hK21 _ _ ⟨_,_,_,?_,⟨k+1,by omega,rfl,rfl,rfl⟩,?_⟩
    ·first|omega|(simp only[List.length_cons];omega)|(dsimp only;omega)
    ·refine jru [4,1] ?_
     refine jrv ?_
     refine jud ?_;simp[zeq _ _ hlt,opN,ho,oD];rfl
   ·refine zpu ho ?_
    refine zta (ya4 (nth n.gates k).a (nth n.gates k).b (nth n.gates k).c (nth n.gates k).n) ?_ ?_
    ·exact jxg
    refine zpu ho ?_
    refine hK15 _ _ ?_
    refine za1 hp zah hc rfl fun K22 hK22=>?_
    refine zpv ho ?_
    refine zbl (ymy _ _ _) rfl ?_
    refine zpv ho ?_
    refine hK22 _ _ (hK8 _ _ ?_)
    refine za1 hp zah hc rfl fun K23 hK23=>?_
    refine zjq ?_
    refine hK23 _ _ ⟨_,_,_,?_,⟨k+1,by omega,rfl,rfl,rfl⟩,?_⟩
    ·first|omega|(simp only[List.length_cons];omega)|(dsimp only;omega)
    ·refine jru [4,1] ?_
     refine jrv ?_
     refine jud ?_;simp[zeq _ _ hlt,opN,ho,oD];rfl
   ·refine zpu ho ?_
    refine zta (ya5 (nth n.gates k).a (nth n.gates k).b (nth n.gates k).c (nth n.gates k).n) ?_ ?_
    ·exact jxg
    refine zpu ho ?_
    refine hK15 _ _ ?_
    refine za1 hp zah hc rfl fun K24 hK24=>?_
    refine zpv ho ?_
    refine zbl (ymz _ _ _) rfl ?_
    refine zpv ho ?_
    refine hK24 _ _ (hK8 _ _ ?_)
    refine za1 hp zah hc rfl fun K25 hK25=>?_
    refine zjq ?_
    refine hK25 _ _ ⟨_,_,_,?_,⟨k+1,by omega,rfl,rfl,rfl⟩,?_⟩
    ·first|omega|(simp only[List.length_cons];omega)|(dsimp only;omega)
    ·refine jru [4,1] ?_
     refine jrv ?_
     refine jud ?_;simp[zeq _ _ hlt,opN,ho,oD];rfl
   ·refine zpu ho ?_
    refine zta (ya6 (nth n.gates k).a (nth n.gates k).b (nth n.gates k).c (nth n.gates k).n) ?_ ?_
    ·exact jxg
    refine zpu ho ?_
    refine hK15 _ _ ?_
    refine za1 hp zah hc rfl fun K26 hK26=>?_
    refine zpv ho ?_
    refine zbl (ym0 _ _ _) rfl ?_
    refine zpv ho ?_
    refine hK26 _ _ (hK8 _ _ ?_)
    refine za1 hp zah hc rfl fun K27 hK27=>?_
    refine zjq ?_
    refine hK27 _ _ ⟨_,_,_,?_,⟨k+1,by omega,rfl,rfl,rfl⟩,?_⟩
    ·first|omega|(simp only[List.length_cons];omega)|(dsimp only;omega)
    ·refine jru [4,1] ?_
     refine jrv ?_
     refine jud ?_;simp[zeq _ _ hlt,opN,ho,oD];rfl
 ·have hge:k=n.gates.length:=by simp at ht;omega
  refine zau (hK4 _ _ ?_)
  refine zaf hp zah hc rfl fun K28 hK28=>?_
  simp -dsimp -implicitDefEqProofs (disch:=first|assumption|omega|(simp only[r_z,zab,zac,zcd,ze2]<;>omega)|decide) only[r_r,↓reduceIte,Nat.reduceEqDiff,Nat.reduceAdd,D.fix,Int.reduceToNat,Nat.reduceMul,Nat.reduceBNe,Nat.reduceBEq,zdj,zdu,zbf,zbj,zfp,zhl,zb9,za3]
  refine hK28 _ _ ?_
  refine zaj ?_
  show closeA _ _=_
  simp (disch:=first|assumption|omega|(simp only[r_z,zab,zac,zcd,ze2]<;>omega)|decide) only[r_c,Nat.reduceAdd,D.fix,↓reduceIte,Nat.reduceEqDiff,zdj,zdu,zbf,zbj,zfp,zhl,zb9,za3]
  rw[hge,List.take_length];simp[zwz,zcd];omega
end
end Go.Proofs.YtapjobndmmkanaaGreat
